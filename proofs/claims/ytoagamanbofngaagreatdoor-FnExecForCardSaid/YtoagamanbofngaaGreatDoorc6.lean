/- Texts joined. No conditions. -/
import Derived.Test.YtoagamanbofngaaGreatDoorProg
import Derived.Shelf.Strings.OnBuilder
import Derived.ChangeSame
import Derived.ChangeSlices
import Derived.WideKeyArgs
import Derived.Carry
import Derived.Deep.Slices
import Derived.Deep.Fields
import Derived.ProofKit
import Derived.OpenShut
import Derived.BigRegion
import Derived.Sort.Row
import Derived.Sort.Grow
import Derived.Shelf.Slices.Delete
import Derived.Shelf.SortM.Plain
import Derived.Shelf.SortM.SortNone
import Derived.Shelf.SlSortCmp.NoneTotal
import Derived.Test.YtoagamanbofngaaGreatDoorc5
namespace Go.Proofs.YtoagamanbofngaaGreatDoor
noncomputable section
set_option linter.defProp false
open _root_.Inhabited renaming default -> aad
open _root_.Bool renaming true -> aae
open _root_.Bool renaming false -> aaf
open _root_.Option renaming some -> aag
open _root_.Option renaming none -> aah
open _root_.Decidable renaming decide -> aai
open _root_.Go.Proofs.Tryz
open _root_.Go.Proofs.Tryz renaming prog -> aaj
open _root_.Nat renaming beq -> aeL,blt -> aeM,eq_of_beq_eq_true -> aeN,mul_assoc -> aeP,ble -> aeQ,le_trans -> aeR,zero_le -> aeS,lt_or_ge -> aeV
open _root_.Option renaming bind -> aeO,getD_some -> ae1,bind_eq_some_iff -> ae5,map_eq_some_iff -> afa
open _root_.List renaming ext_getElem? -> aeT,getElem?_map -> aeW,mem_append_left -> aeZ,all_eq_true -> ae0,drop_eq_getElem_cons -> ae4,take_of_length_le -> ae6,mem_append_right -> ae7,eq_nil_of_length_eq_zero -> afc,drop_eq_nil_of_le -> afd
open _root_.Bool renaming and_eq_false_iff -> aeU
open _root_.Array renaming getElem?_modify -> aeX,size_append -> ae2,getElem?_mapIdx -> ae8,getElem?_eq_getElem -> ae9,getElem?_append_left -> afb,getElem_ofFn -> afe,extract_eq_self_of_le -> aff
open _root_.Prod.mk renaming inj -> aeY
open _root_.Go.Shelf renaming Ren -> ae3
set_option maxHeartbeats 4000000
open Go.RowKit
structure TI where
 u:TypeDesc
 ag:Bool
 n:Nat
 zs:List AV
 m:Nat
structure TI.ok(P:Program)(t:TypeId)(x:TI):Prop where
 u:P.underlying t=aag x.u
 ty:TyF P t x.ag x.n
 z:TyZ P t x.zs
 zl:x.zs.length=x.n
 by_:P.bytesOf t=x.m
structure Ent(P:Program) where
 t:TypeId
 x:TI
 ok:TI.ok P t x
def Ent.m{P:Program}{t:TypeId}{u:TypeDesc}(hu:P.underlying t=aag u)(ag:Bool)(n:Nat)(zs:List AV)(m:Nat)(h0:zs.length=n:=by rfl)(h1:Bj P t=ag:=by kernel_rfl)(h2:P.cellsOf t=n:=by kernel_rfl)(h3:(P.info? t).isSome=aae:=by kernel_rfl)
  (h4:((P.info? t).bind (·.zero)).map eC=aag zs:=by kernel_rfl) (h5:((P.info? t).bind (·.zero)).map (λz=>nW z.cells)=aag aae:=by kernel_rfl) (h6:P.bytesOf t=m:=by kernel_rfl):Ent P:=
 ⟨t,⟨u,ag,n,zs,m⟩,⟨hu,⟨h1,by rw[hu];rfl,h2,h3⟩,⟨h4,h5⟩,h0,h6⟩⟩
def lk{P:Program}:List (Ent P)->Nat->Option TI
 |[],_=>aah
 |p::l,t=>bif aeL p.t t then aag p.x else lk l t
theorem Ya{P:Program}{t:Nat}{x:TI}:∀{l:List (Ent P)},lk l t=aag x->TI.ok P t x
 |p::l,h=>by
  unfold lk at h
  cases e:aeL p.t t with
  |true=>
   rw[e] at h;obtain rfl:=osl h;exact aeN e ▸ p.ok
  |false=>
   rw[e] at h;exact Ya h
class Tab(P:Program) where
 tab:List (Ent P)
abbrev tq(P:Program)[Tab P](t:Nat):Option TI:=lk (Tab.tab (P:=P)) t
theorem mX{P:Program}[Tab P]{t:Nat}{x:TI}(h:tq P t=aag x):TI.ok P t x:=Ya h
theorem TI.ok.sl{P:Program}{t e:TypeId}{x y:TI}(h:TI.ok P t x)(g:TI.ok P e y)(hu:x.u= .slice e)(hp:aeM 0 y.n=aae):SlT P t e y.ag y.n y.zs y.m:=⟨hu ▸ h.u,g.ty,g.z,g.zl,hp,g.by_⟩
abbrev RV:=Option<|Option Prop×AV
def spine{α β:Type}:List α->(List α->β)->β
 |[],K=>K []
 |a::l,K=>spine l λl=>K (a::l)
theorem tK{α β:Type}:∀{l:List α}{K:List α->β},spine l K=K l
 |[],_=>rfl
 |_::l,_=>tK (l:=l)
def fcV(x:AV):RV:=match x with
 | .v a=>aag (aah,.v a)
 | .agg cs=>aag (aah,.agg cs)
 | .tup xs=>aag (aah,.tup xs)
 | .nil=>aag (aah,.nil)
 | .sl n row=>aag (aah,.sl n row)
 | .fp row j=>aag (aah,.fp row j)
 | .hs b q s o l=>aag (aah,.hs b q s o l)
 | .hp b q s i j=>aag (aah,.hp b q s i j)
 | .mp b s=>aag (aah,.mp b s)
 | .ifc t x=>aag (aah,.ifc t x)
 | .fn f cs=>aag (aah,.fn f cs)
 | .top=>aag (aah,.top)
theorem Yb(x:AV):fcV x=aag (aah,x):=by cases x <;> rfl
def Ks(ag:Bool)(n:Nat)(row:List AV)(j:Nat)(K:AV->RV):RV:=match ag with
 |true=>bif aeQ (j+n) row.length then spine ((row.drop j).take n) λcs=>K (.agg cs) else aah
 |false=>match row.drop j with
  |a::_=>K a
  |[]=>aah
theorem zV{ag:Bool}{n:Nat}{row:List AV}{j:Nat}{K:AV->RV}{r:Option Prop×AV}(h:Ks ag n row j K=aag r):∃a,wC ag n row j=aag a/\K a=aag r:=by
 unfold Ks at h
 split at h
 .cases hb:aeQ (j+n) row.length with
  |true=>
   rw[hb] at h;rw[cond_true,tK] at h;exact⟨_,by simp only[wC];rw[if_pos (nlb hb)],h⟩
  |false=>rw[hb] at h;cases h
 split at h
 .rename_i a l hd;refine⟨a,?_,h⟩;simp only[wC];have:=congrArg (λl=>l[0]?) hd;simpa using this
 cases h
def okV(v:AV):RV:=aag (aah,v)
def cdV(c:Prop)(v:AV):RV:=aag (aag c,v)
def Hol:Option Prop->Prop
 |none=>True
 |some c=>c
def kq(a b:IntKind):Bool:=aai<|a=b
def evI(op:BinOp)(k:IntKind)(a b:Int):RV:=match op with
 | .add=>cdV (k.wrap (a+b)=a+b) (.v<|.int k<|a+b)
 | .sub=>cdV (k.wrap (a-b)=a-b) (.v<|.int k<|a-b)
 | .mul=>cdV (k.wrap (a*b)=a*b) (.v<|.int k<|a*b)
 | .quo=>cdV (b≠0/\k.wrap (a.tdiv b)=a.tdiv b) (.v<|.int k<|a.tdiv b)
 | .rem=>cdV (b≠0) (.v<|.int k<|a.tmod b)
 | .and=>okV (.v<|.int k<|jc k a b)
 | .or=>okV (.v<|.int k<|bOr k a b)
 | .xor=>okV (.v<|.int k<|W7 k a b)
 | .andNot=>okV (.v<|.int k<|p5 k a b)
 | .eql=>okV (.v<|.bool<|a==b)
 | .neq=>okV (.v<|.bool<|a != b)
 | .lss=>okV (.v<|.bool<|aai<|a<b)
 | .leq=>okV (.v<|.bool<|aai<|a<=b)
 | .gtr=>okV (.v<|.bool<|aai<|b<a)
 | .geq=>okV (.v<|.bool<|aai<|b<=a)
 |_=>aah
def evB(op:BinOp)(x y:AV):RV:=match x,y with
 | .v (.int k a),.v (.int k' b)=>(match op with
  | .shl=>cdV (0<=b) (.v<|.int k<|ME k a b)
  | .shr=>cdV (0<=b) (.v<|.int k<|mZ k a b)
  |_=>bif kq k k' then evI op k a b else aah)
 | .v (.string a),.v (.string b)=>(match op with
  | .add=>cdV (a.size+b.size<=9223372036854775807) (.v<|.string<|a++b)
  | .eql=>okV (.v<|.bool<|aai<|a=b)
  | .neq=>okV (.v<|.bool<|!decide (a=b))
  |_=>aah)
 |_,_=>aah
def opI(ρ:Operand->AV)(x:Option Operand)(d:Int):Option Int:=match x with
 |none=>aag d
 |some o=>match ρ o with
  | .v (.int _ n)=>aag n
  |_=>aah
def Y3(P:Program)[Tab P](t:TypeId)(x y:AV):RV:=match tq P t,y with
 |some ⟨u,_,_,_,_⟩,.v (.int _ q)=>(match u,x with
  | .slice e,.sl n row=>(match tq P e with
   |some ⟨_,_,w,_,_⟩=>bif aeL (row q.toNat).length w then cdV (0<=q/\q<n) (.fp (row q.toNat) 0) else aah
   |none=>aah)
  | .slice e,.hs b ver s off len=>(match tq P e with
   |some ⟨_,_,w,_,_⟩=>bif aeL s w&&aeL off 0 then cdV (0<=q/\q<len) (.hp b ver s q.toNat 0) else aah
   |none=>aah)
  | .array n e,.fp row j=>(match tq P e with
   |some ⟨_,_,w,_,_⟩=>cdV (0<=q/\q<n) (.fp row<|j+q.toNat*w)
   |none=>aah)
  | .array n e,.hp b ver s i j=>(match tq P e with
   |some ⟨_,_,w,_,_⟩=>cdV (0<=q/\q<n) (.hp b ver s i<|j+q.toNat*w)
   |none=>aah)
  |_,_=>aah)
 |_,_=>aah
def placesOf(P:Program)[Tab P]:List Field->Option (List<|Nat×Nat)
 |[]=>aag []
 |f::l=>match tq P f.type,placesOf P l with
  |some x,aag r=>aag ((f.offset,x.n)::r)
  |_,_=>aah
def Wu(P:Program)[Tab P](t:TypeId)(x:AV):RV:=match tq P t with
 |some ⟨u,_,_,_,_⟩=>(match u,x with
  | .slice _,.sl n _=>okV (I n)
  | .slice _,.hs _ _ _ _ n=>okV (I n)
  | .slice _,.nil=>okV (I 0)
  | .string,.v (.string s)=>okV (I s.size)
  |_,_=>aah)
 |none=>aah
def RZ(P:Program)[Tab P](ρ:Operand->AV)(f:Callee)(args:List Operand)(ts:List TypeId):RV:=match f,args,ts with
 | .builtin .len,[x],[t]=>Wu P t (ρ x)
 | .builtin .min,[x,y],_=>(match ρ x,ρ y with
  | .v (.int k a),.v (.int _ b)=>okV (.v<|.int k<|if b<a then b else a)
  |_,_=>aah)
 | .builtin .max,[x,y],_=>(match ρ x,ρ y with
  | .v (.int k a),.v (.int _ b)=>okV (.v<|.int k<|if b>a then b else a)
  |_,_=>aah)
 |_,_,_=>aah
def evN(P:Program)[Tab P](ρ:Operand->AV)(op:Op):RV:=match op with
 | .nilCheck x=>(match ρ x with
  | .fp row j=>okV (.fp row j)
  | .hp b q s i j=>okV (.hp b q s i j)
  |_=>aah)
 | .load t x=>(match tq P t,ρ x with
  |some ⟨_,ag,n,_,_⟩,.fp row j=>Ks ag n row j okV
  |_,_=>aah)
 | .binOp op _ x y _=>evB op (ρ x) (ρ y)
 | .unOp op _ x=>(match op,ρ x with
  | .not,.v (.bool b)=>okV (.v<|.bool !b)
  | .neg,.v (.int k n)=>cdV (k.wrap (0-n)=0-n) (.v<|.int k<|0-n)
  |_,_=>aah)
 | .convert s d x=>(match tq P s,tq P d with
  |some _,aag ⟨u,_,_,_,_⟩=>(match u,ρ x with
   | .int k,.v (.int _ n)=>cdV (k.wrap n=n) (.v<|.int k n)
   | .string,.v (.string b)=>okV (.v<|.string b)
   |_,_=>aah)
  |_,_=>aah)
 | .makeInterface t x=>(match tq P t with
  |some ⟨u,_,_,_,_⟩=>(match u with
   | .interface _=>aah
   |_=>okV (.ifc t (ρ x)))
  |none=>aah)
 | .makeFunc f first pK=>bif first.size==0 then okV (.fn f<|pK.toList.map ρ) else aah
 | .fieldAddr t x f=>(match tq P t with
  |some ⟨u,_,_,_,_⟩=>(match u with
   | .struct fs=>(match fs[f]? with
    |some ⟨_,ft,off,_,_,_,_⟩=>(match tq P ft with
     |some ⟨_,_,n,_,_⟩=>bif aeL n 0 then aah else (match ρ x with
      | .fp row j=>spine ((row.drop<|j+off).take n) λr=>okV (.fp r 0)
      | .hp b v s i j=>okV (.hp b v s i<|j+off)
      |_=>aah)
     |none=>aah)
    |none=>aah)
   |_=>aah)
  |none=>aah)
 | .field t x f=>(match tq P t with
  |some ⟨u,_,_,_,_⟩=>(match u with
   | .struct fs=>(match fs[f]?,ρ x with
    |some ⟨_,ft,off,_,_,_,_⟩,.agg cs=>(match tq P ft with
     |some ⟨_,ag,n,_,_⟩=>Ks ag n cs off okV
     |none=>aah)
    |_,_=>aah)
   |_=>aah)
  |none=>aah)
 | .indexAddr t x y=>Y3 P t (ρ x) (ρ y)
 | .index t x y=>(match tq P t,ρ x,ρ y with
  |some ⟨u,_,_,_,_⟩,.v (.string s),.v (.int _ q)=>(match u with
   | .string=>cdV (0<=q/\q<s.size) (.v<|.int .u8 ((s.data.getD q.toNat 0).toNat:Int))
   |_=>aah)
  |_,_,_=>aah)
 | .slice t x lo hi aah=>(match tq P t,ρ x with
  |some ⟨u,_,_,_,_⟩,.v (.string s)=>(match u,opI ρ lo 0,opI ρ hi s.size with
   | .string,aag l,aag h=>cdV (0<=l/\l<=h/\h<=s.size) (.v<|.string<|s.extract l.toNat h.toNat)
   |_,_,_=>aah)
  |_,_=>aah)
 | .extract x i=>(match ρ x with
  | .tup xs=>(match xs.drop i with
   |a::_=>okV a
   |[]=>aah)
  |_=>aah)
 | .build t parts=>(match tq P t with
  |some ⟨u,_,_,zs,_⟩=>(match u with
   | .struct fs=>(match placesOf P fs.toList with
    |some pl=>(match FD (pl.toArray[·]?) zs (parts.toList.map λp=>(p.1,ρ p.2)) with
     |some cs=>spine cs λcs=>okV (.agg cs)
     |none=>aah)
    |none=>aah)
   |_=>aah)
  |none=>aah)
 | .call c=>RZ P ρ c.callee c.args.toList c.argTypes.toList
 |_=>aah
section
variable{P:Program}{ρ:Operand->AV}{H:AH}
theorem eY{v r:AV}{c:Option Prop}(h:okV v=aag (c,r)):c=aah/\v=r:=by
 injection h with h;injection h with h1 h2;exact⟨h1.symm,h2⟩
theorem sD{p:Prop}{v r:AV}{c:Option Prop}(h:cdV p v=aag (c,r)):c=aag p/\v=r:=by
 injection h with h;injection h with h1 h2;exact⟨h1.symm,h2⟩
theorem Yc{op:BinOp}{k:IntKind}{a b:Int}{t u:TypeId}{x y:Operand}{c:Option Prop}{r:AV}(hx:ρ x= .v (.int k a))(hy:ρ y= .v (.int k b))(h:evI op k a b=aag (c,r))(hc:Hol c):ZT P ρ (.binOp op t x y u) r:=by
 cases op <;> simp only[evI] at h <;> first
  |(obtain⟨rfl,rfl⟩:=sD h;first|exact ZT.add hx hy hc|exact ZT.sub hx hy hc|exact ZT.mul hx hy hc|exact ZT.quo hx hy hc.1 hc.2|exact ZT.rem hx hy hc)
  |(obtain⟨rfl,rfl⟩:=eY h;first|exact ZT.band hx hy|exact ZT.bor hx hy|exact ZT.bxor hx hy|exact ZT.bandNot hx hy|exact ZT.ieq hx hy|exact ZT.ine hx hy|exact ZT.ilt hx hy|exact ZT.ile hx hy|exact ZT.igt hx hy|exact ZT.ige hx hy)
  |cases h
theorem Yd{op:BinOp}{t u:TypeId}{x y:Operand}{c:Option Prop}{r:AV}(h:evB op (ρ x) (ρ y)=aag (c,r))(hc:Hol c):ZT P ρ (.binOp op t x y u) r:=by
 unfold evB at h
 split at h
 .rename_i k a k' b hx hy
  split at h
  .obtain⟨rfl,rfl⟩:=sD h;exact ZT.shl hx hy hc
  .obtain⟨rfl,rfl⟩:=sD h;exact ZT.shr hx hy hc
  cases hk:kq k k' with
  |true=>
   rw[hk] at h;obtain rfl:=of_decide_eq_true hk;exact Yc hx hy h hc
  |false=>rw[hk] at h;cases h
 .rename_i a b hx hy
  split at h
  .obtain⟨rfl,rfl⟩:=sD h;exact ZT.cat hx hy hc
  .obtain⟨rfl,rfl⟩:=eY h;exact ZT.seq hx hy
  .obtain⟨rfl,rfl⟩:=eY h;exact ZT.sne hx hy
  cases h
 cases h
theorem U7{o:Option Operand}{d m:Int}(h:opI ρ o d=aag m):bnd ρ o d m:=by
 unfold opI at h
 split at h
 .exact osl h
 split at h
 .rename_i k n he;obtain rfl:=osl h;exact⟨k,he⟩
 cases h
variable[Tab P]
theorem Wv{t:TypeId}{x y:Operand}{c:Option Prop}{r:AV}(h:Y3 P t (ρ x) (ρ y)=aag (c,r))(hc:Hol c):ZT P ρ (.indexAddr t x y) r:=by
 unfold Y3 at h
 split at h
 .rename_i u _ _ _ _ k q hz hy;have hz:=(mX hz).u
  split at h
  .rename_i e n row hx _
   split at h
   .rename_i w _ _ hf;have hf:=(mX hf).ty
    cases hb:aeL (row q.toNat).length w with
    |true=>
     rw[hb] at h;obtain⟨rfl,rfl⟩:=sD h;exact ZT.ixsl hz hf hx hy hc<|aeN hb
    |false=>rw[hb] at h;cases h
   cases h
  .rename_i e b ver s off len hx _
   split at h
   .rename_i w _ _ hf;have hf:=(mX hf).ty
    cases hb:(aeL s w&&aeL off 0) with
    |true=>
     rw[hb] at h;obtain⟨rfl,rfl⟩:=sD h;rw[bae] at hb;obtain rfl:=aeN hb.1;obtain rfl:=aeN hb.2;have:=ZT.ixhs (P:=P) hz hf hx hy hc
     rwa [Nat.zero_add] at this
    |false=>rw[hb] at h;cases h
   cases h
  .rename_i n e row j hx _
   split at h
   .rename_i hf;obtain⟨rfl,rfl⟩:=sD h;exact ZT.ixafp hz (mX hf).ty hx hy hc
   cases h
  .rename_i n e b ver s i j hx _
   split at h
   .rename_i hf;obtain⟨rfl,rfl⟩:=sD h;exact ZT.ixahp hz (mX hf).ty hx hy hc
   cases h
  cases h
 cases h
theorem Gj:∀{l:List Field}{pl:List (Nat×Nat)},placesOf P l=aag pl->l.mapM (λf=>(P.info? f.type).map λi=>(f.offset,i.size))=aag pl
 |[],pl,h=>by
  obtain rfl:=osl h
  rfl
 |f::l,pl,h=>by
  unfold placesOf at h
  split at h
  .rename_i x r hx hr;obtain rfl:=osl h;have h1:=mX hx;have h2:=Gj hr;have h3:=h1.ty.cells;have h4:=h1.ty.info
   cases hi:P.info? f.type with
   |none=>rw[hi] at h4;cases h4
   |some i=>
    unfold Program.cellsOf at h3;rw[hi] at h3;have h5:i.size=x.n:=by simpa using h3
    simp[List.mapM_cons,hi,h2,h5]
  cases h
theorem Us{t:TypeId}{x:Operand}{c:Option Prop}{r:AV}(h:Wu P t (ρ x)=aag (c,r)):ZT P ρ (.call ⟨.builtin .len,#[x],#[t]⟩) r:=by
 unfold Wu at h
 split at h
 .rename_i hz;have hz:=(mX hz).u
  split at h
  .obtain⟨rfl,rfl⟩:=eY h;exact ZT.lensl hz ‹_›
  .obtain⟨rfl,rfl⟩:=eY h;exact ZT.lenhs hz ‹_›
  .obtain⟨rfl,rfl⟩:=eY h;exact ZT.lennil hz ‹_›
  .obtain⟨rfl,rfl⟩:=eY h;exact ZT.lenst hz ‹_›
  cases h
 cases h
theorem R3{cl:Call}{c:Option Prop}{r:AV}(h:RZ P ρ cl.callee cl.args.toList cl.argTypes.toList=aag (c,r)):ZT P ρ (.call cl) r:=by
 obtain⟨f,⟨args⟩,⟨ts⟩⟩:=cl;simp only at h;unfold RZ at h
 split at h
 .exact Us h
 .split at h
  .rename_i hx hy;obtain⟨rfl,rfl⟩:=eY h;exact ZT.min hx hy
  cases h
 .split at h
  .rename_i hx hy;obtain⟨rfl,rfl⟩:=eY h;exact ZT.max hx hy
  cases h
 cases h
theorem yp{op:Op}{c:Option Prop}{r:AV}(h:evN P ρ op=aag (c,r))(hc:Hol c):ZT P ρ op r:=by
 unfold evN at h
 split at h
 .split at h
  .rename_i he;obtain⟨rfl,rfl⟩:=eY h;exact ZT.nilfp he
  .rename_i he;obtain⟨rfl,rfl⟩:=eY h;exact ZT.nilhp he
  cases h
 .split at h
  .rename_i hz hx;obtain⟨a,ha,h⟩:=zV h;obtain⟨rfl,rfl⟩:=eY h;exact ZT.loadfp _ (mX hz).ty hx ha
  cases h
 .exact Yd h hc
 .split at h
  .rename_i hx;obtain⟨rfl,rfl⟩:=eY h;exact ZT.not hx
  .rename_i hx;obtain⟨rfl,rfl⟩:=sD h;exact ZT.neg hx hc
  cases h
 .split at h
  .rename_i hs hd
   split at h
   .rename_i hx;obtain⟨rfl,rfl⟩:=sD h;exact ZT.iconv (mX hs).ty.und (mX hd).u hx hc
   .rename_i hx;obtain⟨rfl,rfl⟩:=eY h;exact ZT.sconv (mX hs).ty.und (mX hd).u hx
   cases h
  cases h
 .split at h
  .rename_i hz
   split at h
   .cases h
   rename_i hn;obtain⟨rfl,rfl⟩:=eY h;exact ZT.mkifc _ (mX hz).u hn rfl
  cases h
 .rename_i f first pK
  cases hb:first.size==0 with
  |true=>
   rw[hb] at h;obtain⟨rfl,rfl⟩:=eY h;exact ZT.mkfn _ hb rfl
  |false=>rw[hb] at h;cases h
 .split at h
  .rename_i hz
   split at h
   .rename_i fs
    split at h
    .rename_i ft off _ _ _ _ hfl
     split at h
     .rename_i n _ _ hy
      cases hb:aeL n 0 with
      |true=>rw[hb] at h;cases h
      |false=>
       rw[hb] at h;have hne:(P.cellsOf ft != 0)=aae:=by
        rw[(mX hy).ty.cells]
        cases n with
        |zero=>cases hb
        |succ k=>rfl
       simp only[cond_false] at h
       split at h
       .rename_i hx;rw[tK] at h;obtain⟨rfl,rfl⟩:=eY h;exact ZT.fafpS n (mX hz).u hfl hne hx rfl
       .rename_i hx;obtain⟨rfl,rfl⟩:=eY h;exact ZT.fahp (mX hz).u hfl hne hx
       cases h
     cases h
    cases h
   cases h
  cases h
 .split at h
  .rename_i hz
   split at h
   .split at h
    .rename_i hfl hx
     split at h
     .rename_i hy;obtain⟨a,ha,h⟩:=zV h;obtain⟨rfl,rfl⟩:=eY h;exact ZT.field _ (mX hz).u hfl (mX hy).ty hx ha
     cases h
    cases h
   cases h
  cases h
 .exact Wv h hc
 .split at h
  .rename_i hz hx hy
   split at h
   .obtain⟨rfl,rfl⟩:=sD h;exact ZT.ixst (mX hz).u hx hy hc
   cases h
  cases h
 .split at h
  .rename_i hz hx
   split at h
   .rename_i hl hq;obtain⟨rfl,rfl⟩:=sD h;exact ZT.slst (mX hz).u hx (U7 hl) (U7 hq) hc
   cases h
  cases h
 .split at h
  .rename_i hx
   split at h
   .rename_i i _ xs _ a l ha;obtain⟨rfl,rfl⟩:=eY h;exact ZT.ext _ hx (by have:=congrArg (λl=>l[0]?) ha;rw[List.getElem?_drop] at this;simpa using this)
   cases h
  cases h
 .split at h
  .rename_i hz
   split at h
   .rename_i fs
    split at h
    .rename_i pl hpl
     split at h
     .rename_i cs hcs;rw[tK] at h;obtain⟨rfl,rfl⟩:=eY h;have hz:=mX hz;have hu':P.underlying _=aag (.struct fs):=hz.u;exact ZT.build _ hu' hz.z ⟨by rw[hu'];exact Gj hpl⟩ rfl hcs
     cases h
    cases h
   cases h
  cases h
 .exact R3 h
 cases h
def evA(P:Program)[Tab P](H:AH)(op:Op):Option (AV×AH):=match op with
 | .alloc t=>(match tq P t with
  |some ⟨_,_,n,zs,_⟩=>bif aeM 0 n then spine (H++[aag ⟨0,n,t,[zs]⟩]) λG=>aag (.hp H.length 0 n 0 0,G) else aah
  |none=>aah)
 |_=>aah
omit [Tab P] in
theorem ZI{t:TypeId}{zs:List AV}{n b:Nat}(z:TyZ P t zs)(hl:zs.length=n)(hn:aeM 0 n=aae)(hb:H.length=b):EvA P ρ (.alloc t) H (.hp b 0 n 0 0) (H++[aag ⟨0,n,t,[zs]⟩]):=by
 subst hl;exact EvA.al z hn hb
theorem Ye{op:Op}{r:AV}{H':AH}(h:evA P H op=aag (r,H')):EvA P ρ op H r H':=by
 unfold evA at h
 split at h
 .split at h
  .rename_i n zs _ hz
   cases hb:aeM 0 n with
   |true=>
    rw[hb,cond_true,tK] at h;obtain⟨rfl,rfl⟩:=aeY<|osl h;exact ZI (mX hz).z (mX hz).zl hb rfl
   |false=>rw[hb] at h;cases h
  cases h
 cases h
def evL(P:Program)[Tab P](ρ:Operand->AV)(H:AH)(op:Op):Option (Nat×Nat×Nat×AV):=match op with
 | .load t x=>(match tq P t,ρ x with
  |some ⟨_,ag,n,_,_⟩,.hp b ver s i j=>(match H[b]? with
   |some (aag ⟨pY,s',_,rows⟩)=>bif aeL s' s then (match rows[i]? with
    |some row=>(match Ks ag n row j okV with
     |some (aah,a)=>aag (b,pY,ver,a)
     |_=>aah)
    |none=>aah) else aah
   |_=>aah)
  |_,_=>aah)
 |_=>aah
theorem Kt{op:Op}{b ver pY:Nat}{r:AV}(h:evL P ρ H op=aag (b,pY,ver,r))(hv:pY=ver):∀G:AH,agree [b] G H->EvA P ρ op G r G:=by
 intro G hG;unfold evL at h
 split at h
 .split at h
  .rename_i b' _ s i j hz hx
   split at h
   .rename_i _ s' _ rows hk
    cases hb:aeL s' s with
    |true=>
     rw[hb] at h;simp only[cond_true] at h
     split at h
     .rename_i row hrow
      split at h
      .rename_i a ha;obtain⟨a',ha',h'⟩:=zV ha;obtain⟨_,rfl⟩:=eY h';injection h with h;injection h with h1 h;injection h with h2 h;injection h with h3 h;subst h1 h2 h3 h;exact EvA.loadhp _ (mX hz).ty hx (hG.a0 hk) hv (aeN hb) hrow ha'
      cases h
     cases h
    |false=>rw[hb] at h;cases h
   cases h
  cases h
 cases h
def evS(P:Program)[Tab P](ρ:Operand->AV)(H:AH)(op:Op):Option (Nat×Nat×ABlk):=match op with
 | .store t x y=>(match tq P t,ρ x,(ρ y).cells with
  |some ⟨_,_,n,_,_⟩,.hp b ver s i j,aag cs=>(match H[b]? with
   |some (aag ⟨pY,s',ty,rows⟩)=>bif aeL s' s&&aeL cs.length n&&aeQ (j+n) s&&aeM b H.length then (match rows[i]? with
    |some row=>spine (splice row j cs) λr=>spine (rows.set i r) λrows=>aag (b,ver,⟨pY,s',ty,rows⟩)
    |none=>aah) else aah
   |_=>aah)
  |_,_,_=>aah)
 |_=>aah
theorem R4{op:Op}{b ver:Nat}{k':ABlk}(h:evS P ρ H op=aag (b,ver,k'))(hv:k'.ver=ver):aeM b H.length=aae/\∀G:AH,agree [b] G H->EvA P ρ op G .top (G.set b<|aag k'):=by
 unfold evS at h
 split at h
 .split at h
  .rename_i n _ _ b' _ s i j cs hz hx hy
   split at h
   .rename_i pY s' ty rows hk
    cases hb:(aeL s' s&&aeL cs.length n&&aeQ (j+n) s&&aeM b' H.length) with
    |true=>
     rw[hb] at h;simp only[cond_true] at h
     split at h
     .rename_i row hrow;rw[tK,tK] at h;injection h with h;injection h with h1 h;injection h with h2 h;subst h1 h2 h;simp only[bae] at hb;obtain⟨⟨⟨h2,h3⟩,h4⟩,h5⟩:=hb;exact⟨h5,λG hG=>EvA.st _ (mX hz).ty hx hy (hG.a0 hk) hv (aeN h2) hrow (aeN h3) h4 rfl⟩
     cases h
    |false=>rw[hb] at h;cases h
   cases h
  cases h
 cases h
end
def Jf:List (Nat×AV)->Nat->Option AV
 |[],_=>aah
 |(u,v)::l,t=>bif aeL t u then aag v else Jf l t
theorem xx{t:Nat}{v:AV}:∀{en:List (Nat×AV)},Jf en t=aag v->ak en t=v
 |(u,w)::l,h=>by
  unfold Jf at h;show(bif aeL t u then w else ak l t)=v
  cases e:aeL t u with
  |true=>rw[e] at h;exact osl h
  |false=>rw[e] at h;exact xx h
def opE(en:List<|Nat×AV)(x:Operand):Option AV:=match x with
 | .tmp t=>Jf en t
 |x=>(match fcV (rho (ak en) x) with
  |some (_,v)=>aag v
  |none=>aah)
theorem fS{en:List (Nat×AV)}{x:Operand}{v:AV}(h:opE en x=aag v):rho (ak en) x=v:=by
 unfold opE at h
 split at h
 .exact xx h
 rw[Yb] at h;exact osl h
theorem agree.refl{F:List Nat}{H:AH}:agree F H H:=⟨rfl,λ_ _=>rfl⟩
section
variable{P:Program}{nt b0:Nat}{Q:Exit->Env->AH->Prop}{H H':AH}{x:Operand}{t:TypeId}{cs:List AV}{ops:Array Oper}{l:List Oper}{d:Tmp}{op:Op}{ty:TypeId}{pos:String}{af:Array Edge}{en:List (Nat×AV)}{v:AV}{c:Prop}{b ver pY:Nat}{k':ABlk}
theorem eM(h:opE en x=aag v)(k:TO P nt b0 ops l Q (ak ((d,v)::en)) H):TO P nt b0 ops (⟨aag d,.move x,ty,pos,af,aah⟩::l) Q (ak en) H:=oN (ZT.mv _<|fS h) k
theorem eR(h:opE en x=aag v)(k:TO P nt b0 ops l Q (ak ((d,v)::en)) H):TO P nt b0 ops (⟨aag d,.assign x,ty,pos,af,aah⟩::l) Q (ak en) H:=oN (ZT.asg _<|fS h) k
theorem fM{fp:Nat->Fp}{i:Nat}{K:Env->AH->Prop}(h:opE en x=aag v)(hf:fp i=([],aaf))(k:TF P fp (i+1) l K (ak ((d,v)::en)) H):TF P fp i (⟨aag d,.move x,ty,pos,af,aah⟩::l) K (ak en) H:=fN hf (ZT.mv _<|fS h) k
theorem fA{fp:Nat->Fp}{i:Nat}{K:Env->AH->Prop}(h:opE en x=aag v)(hf:fp i=([],aaf))(k:TF P fp (i+1) l K (ak ((d,v)::en)) H):TF P fp i (⟨aag d,.assign x,ty,pos,af,aah⟩::l) K (ak en) H:=fN hf (ZT.asg _<|fS h) k
theorem eB(hx:(rho (ak en) x).cells=aag cs)(hn:aeM 0 cs.length=aae)(k:TO P nt b0 ops l Q (ak ((d,.hp H.length 0 cs.length 0 0)::en))<|H++[aag ⟨0,cs.length,t,[cs]⟩]):TO P nt b0 ops (⟨aag d,.box t x,ty,pos,af,aah⟩::l) Q (ak en) H:=oA (EvA.bx hx hn rfl) k
theorem eF(hx:(rho (ak en) x).cells=aag cs)(hn:(aeM 0 cs.length)=aae)(hF:cs.all (isF 9)=aae)(k:TO P nt b0 ops l Q (ak ((d,.fp cs 0)::en)) H):TO P nt b0 ops (⟨aag d,.box t x,ty,pos,af,aah⟩::l) Q (ak en) H:=oN (ZT.bxF cs hx hn hF) k
variable[Tab P]
theorem eN(h:evN P (rho<|ak en) op=aag (aah,v))(k:TO P nt b0 ops l Q (ak ((d,v)::en)) H):TO P nt b0 ops (⟨aag d,op,ty,pos,af,aah⟩::l) Q (ak en) H:=oN (yp h trivial) k
theorem eG(h:evN P (rho<|ak en) op=aag (aag c,v))(hc:c)(k:TO P nt b0 ops l Q (ak ((d,v)::en)) H):TO P nt b0 ops (⟨aag d,op,ty,pos,af,aah⟩::l) Q (ak en) H:=oN (yp h hc) k
theorem eA(h:evA P H op=aag (v,H'))(k:TO P nt b0 ops l Q (ak ((d,v)::en)) H'):TO P nt b0 ops (⟨aag d,op,ty,pos,af,aah⟩::l) Q (ak en) H:=oA (Ye h) k
theorem eL_(h:evL P (rho<|ak en) H op=aag (b,pY,ver,v))(hv:pY=ver)(k:TO P nt b0 ops l Q (ak ((d,v)::en)) H):TO P nt b0 ops (⟨aag d,op,ty,pos,af,aah⟩::l) Q (ak en) H:=oA (Kt h hv H .refl) k
theorem eS(h:evS P (rho<|ak en) H op=aag (b,ver,k'))(hv:k'.ver=ver)(hs:spine (H.set b<|aag k') aag=aag H')(k:TO P nt b0 ops l Q (ak en) H'):TO P nt b0 ops (⟨aah,op,ty,pos,af,aah⟩::l) Q (ak en) H:=by
 rw[tK] at hs;obtain rfl:=osl hs;exact oV ((R4 h hv).2 H .refl) k
theorem hN{j:Nat}{w q:Bool}(hy:fe ops.toList (ak en) j= .v (.bool q))(hq:q=w)(h:evN P (rho<|ak en) op=aag (aah,v))(k:TO P nt b0 ops l Q (ak ((d,v)::en)) H):TO P nt b0 ops (⟨aag d,op,ty,pos,af,aag (j,w)⟩::l) Q (ak en) H:=gN hy hq (yp h trivial) k
theorem hG{j:Nat}{w q:Bool}(hy:fe ops.toList (ak en) j= .v (.bool q))(hq:q=w)(h:evN P (rho<|ak en) op=aag (aag c,v))(hc:c)(k:TO P nt b0 ops l Q (ak ((d,v)::en)) H):TO P nt b0 ops (⟨aag d,op,ty,pos,af,aag (j,w)⟩::l) Q (ak en) H:=gN hy hq (yp h hc) k
variable{fp:Nat->Fp}{i:Nat}{K:Env->AH->Prop}{F:List Nat}
theorem fN'(h:evN P (rho<|ak en) op=aag (aah,v))(hf:fp i=([],aaf))(k:TF P fp (i+1) l K (ak ((d,v)::en)) H):TF P fp i (⟨aag d,op,ty,pos,af,aah⟩::l) K (ak en) H:=fN hf (yp h trivial) k
theorem fG'(h:evN P (rho<|ak en) op=aag (aag c,v))(hf:fp i=([],aaf))(hc:c)(k:TF P fp (i+1) l K (ak ((d,v)::en)) H):TF P fp i (⟨aag d,op,ty,pos,af,aah⟩::l) K (ak en) H:=fN hf (yp h hc) k
theorem fL'(h:evL P (rho<|ak en) H op=aag (b,pY,ver,v))(hv:pY=ver)(hf:fp i=([b],aaf))(k:TF P fp (i+1) l K (ak ((d,v)::en)) H):TF P fp i (⟨aag d,op,ty,pos,af,aah⟩::l) K (ak en) H:=fR [b] hf (λG hG=>Kt h hv G hG) k
theorem fS'(h:evS P (rho<|ak en) H op=aag (b,ver,k'))(hv:k'.ver=ver)(hs:spine (H.set b<|aag k') aag=aag H')(hf:fp i=([b],aae))(k:TF P fp (i+1) l K (ak en) H'):TF P fp i (⟨aah,op,ty,pos,af,aah⟩::l) K (ak en) H:=by
 rw[tK] at hs;obtain rfl:=osl hs;exact fV b [] hf (R4 h hv).1 (λG hG=>(R4 h hv).2 G hG) k
end
set_option maxRecDepth 100000
noncomputable instance:Tab aaj:=⟨[.m underlying2 aaf 1 [I (0:Int)] 8,.m underlying3 aaf 1 [I (0:Int)] 8,.m underlying4 aaf 1 [Bo aaf] 1,.m underlying5 aaf 1 [Y (0:Int)] 1,.m underlying6 aaf 1 [Y (0:Int)] 1,.m underlying9 aaf 1 [St (⟨#[]⟩:BA)] 16,.m underlying12 aaf 1 [.v (.int .u64 (0:Int))] 8,.m underlying21 aaf 1 [.v (.int .i32 (0:Int))] 4,.m underlying22 aaf 1 [.nil] 24,.m underlying23 aaf 1 [.nil] 24,.m underlying24 aaf 1 [.nil] 24,.m underlying25 aaf 1 [.nil] 24,.m underlying28 aaf 1 [.nil] 24,.m underlying30 aae 2 [.nil,.nil] 48,.m underlying43 aaf 1 [.nil] 24,.m underlying53 aae 2 [I (0:Int),.nil] 32,.m underlying66 aaf 1 [.nil] 24,.m underlying68 aae 3 [I (0:Int),St (⟨#[]⟩:BA),.nil] 48,.m underlying70 aae 4 [I (0:Int),I (0:Int),St (⟨#[]⟩:BA),.nil] 56,.m underlying80 aae 2 [.nil,I (0:Int)] 32,.m underlying85 aaf 1 [.nil] 24,.m underlying90 aaf 1 [.nil] 24,.m underlying92 aae 4 [.nil,.nil,.nil,.nil] 96,.m underlying94 aaf 1 [.nil] 24,.m underlying104 aae 3 [Y (0:Int),Y (0:Int),Y (0:Int)] 3,.m underlying105 aae 9 [Y (0:Int),Y (0:Int),Y (0:Int),Y (0:Int),Y (0:Int),Y (0:Int),Y (0:Int),Y (0:Int),Y (0:Int)] 9,.m underlying107 aae 16 [.nil,Y (0:Int),Y (0:Int),Y (0:Int),Y (0:Int),Y (0:Int),Y (0:Int),Y (0:Int),Y (0:Int),Y (0:Int),Y (0:Int),Y (0:Int),Y (0:Int),Y (0:Int),Y (0:Int),Y (0:Int)] 40,.m underlying108 aaf 1 [.nil] 24,.m underlying111 aae 5 [I (0:Int),I (0:Int),I (0:Int),Bo aaf,Bo aaf] 32,.m underlying113 aae 4 [I (0:Int),I (0:Int),I (0:Int),I (0:Int)] 32,.m underlying114 aaf 1 [.nil] 24,.m underlying141 aaf 1 [.nil] 24,.m underlying165 aaf 1 [.nil] 24,.m underlying167 aae 6 [.nil,.nil,.nil,.nil,.nil,.nil] 144,.m underlying183 aaf 1 [.v (.int .u64 (0:Int))] 8,.m underlying207 aaf 1 [I (0:Int)] 8,.m underlying214 aaf 1 [.v (.int .u32 (0:Int))] 4,.m underlying216 aaf 1 [.v (.int .u64 (0:Int))] 8,.m underlying230 aaf 1 [.v (.int .u64 (0:Int))] 8,.m underlying267 aaf 1 [Y (0:Int)] 1,.m underlying268 aaf 1 [Y (0:Int)] 1,.m underlying270 aaf 1 [.v (.int .i32 (0:Int))] 4,.m underlying271 aaf 1 [.v (.int .i32 (0:Int))] 4,.m underlying15 aaf 1 [.v (.pointer aah)] 8,.m underlying16 aaf 1 [.v (.pointer aah)] 8,.m underlying17 aaf 1 [.v (.pointer aah)] 8,.m underlying47 aaf 1 [.v (.pointer aah)] 8,.m underlying164 aaf 1 [.v (.pointer aah)] 8,.m underlying171 aaf 1 [.v (.pointer aah)] 8,.m underlying185 aaf 1 [.v (.pointer aah)] 8,.m underlying223 aaf 1 [.v (.pointer aah)] 8,.m underlying234 aaf 1 [.v (.pointer aah)] 8,.m underlying250 aaf 1 [.v (.pointer aah)] 8]⟩
section
variable{P:Program}{nt b0:Nat}{Q:Exit->Env->AH->Prop}{e:Env}{H:AH}
def R5(P:Program)(c:Code)(Q:Exit->Act->World->Prop)(a:Act)(w:World):Prop:=∀(b:Frame)(k:List Item)(cs),∃e a' w',Q e a' w'/\Arrives P (lone (b.at a (.code c :: .inLoop c::k)) cs w) b k cs e a' w'
theorem R5.loop{c:Code}{Q:Exit->Act->World->Prop}{a:Act}{w:World}(h:R5 P c Q a w):(Code.loop c).wp P Q a w:=by
 intro b k cs;obtain⟨e',a',w',hq',harr'⟩:=h b k cs;exact⟨e',a',w',hq',.of_steps (.one step_loop) harr'⟩
theorem R5.mk{c:Code}{Q:Exit->Act->World->Prop}{a:Act}{w:World}(h:c.wp P (Exit.then (λa w=>R5 P c Q a w) Q) a w):R5 P c Q a w:=by
 intro b k cs;obtain⟨e,a₁,w₁,hq,harr⟩:=h b (.inLoop c::k) cs
 cases e with
 |normal=>
  obtain⟨e₂,a₂,w₂,hq₂,harr₂⟩:=hq b k cs;exact⟨_,_,_,hq₂,.of_steps (Steps.trans harr<|.one step_inLoop) harr₂⟩
 |exit id=>exact⟨_,_,_,hq,.pass rfl (by grind) harr⟩
 |goto l=>exact⟨_,_,_,hq,.pass rfl (by grind) harr⟩
 |ret=>exact⟨_,_,_,hq,.pass rfl (by grind) harr⟩
 |panic ch=>exact⟨_,_,_,hq,.pass rfl (by grind) harr⟩
 |outgrown=>exact⟨_,_,_,hq,.pass rfl (by grind) harr⟩
variable{en:List (Nat×AV)}{ops:Array Oper}{l:List Oper}{d:Tmp}{t:TypeId}{pos:String}{af:Array Edge}
variable{cls:Nat->Xc}{i:Nat}{K:Env->AH->Prop}{li:List Nat}{op:Op}
end
def wQ(ops:Array Oper)(e:Env)(o:Oper)(w:Bool):Prop:=match o.guard with
 |none=>w=aae
 |some (j,b)=>(∃q,fe ops.toList e j= .v (.bool q)/\w=(q==b))\/(fe ops.toList e j= .tup []/\w=aaf)
theorem wQ.wants{ops:Array Oper}{e:Env}{o:Oper}{w:Bool}(h:wQ ops e o w):CH ops e o w:=by
 unfold wQ at h
 cases hg:o.guard with
 |none=>
  rw[hg] at h;subst h;exact .free hg
 |some x=>
  obtain⟨j,b⟩:=x;rw[hg] at h;rcases h with⟨q,h1,h2⟩|⟨h1,h2⟩
  .subst h2
   by_cases e1:q=b
   .subst e1;rw[beq_self_eq_true];exact .yes hg h1 rfl
   have e2:(q==b)=aaf:=by grind
   rw[e2];exact .no hg h1 (by cases q <;> cases b <;> simp_all)
  subst h2;exact .un hg h1
theorem wQ.congr{ops:Array Oper}{e e':Env}{o:Oper}{w:Bool}(h:wQ ops e o w)(he:∀t∈o.looksAt ops,e t=e' t):wQ ops e' o w:=by
 unfold wQ at h ⊢
 cases hg:o.guard with
 |none=>grind
 |some x=>
  obtain⟨j,b⟩:=x;have hy:fe ops.toList e' j=fe ops.toList e j:=by
   unfold fe
   cases hd:(ops.toList[j]?).bind (·.dst) with
   |none=>rfl
   |some d=>
    refine(he d ?_).symm;unfold Oper.looksAt
    grind
  grind
theorem R6{ops:Array Oper}{e e':Env}{o:Oper}(he:∀t∈o.looksAt ops,e t=e' t):∀x∈o.op.operands,rho e x=rho e' x:=by
 intro x hx
 cases x with
 |tmp t=>exact he t (aeZ _<|List.mem_filterMap.2 ⟨.tmp t,by grind,rfl⟩)
 |_=>rfl
theorem Ku{ops:Array Oper}{e:Env}{oi oj:Oper}{r:AV}(h:∀d,oi.dst=aag d->d∉oj.looksAt ops):∀t∈oj.looksAt ops,ww e oi.dst r t=e t:=by
 intro t ht
 cases hd:oi.dst with
 |none=>rfl
 |some d=>
  rw[Bh]
  grind
def Yf(P:Program)(ops:Array Oper)(o:Oper)(e:Env)(H:AH)(r:AV)(H':AH):Prop:=(wQ ops e o aae/\ZP P o (rho e) H r H')\/(wQ ops e o aaf/\r= .tup []/\H'=H)
theorem Yf.congr{P:Program}{ops:Array Oper}{o:Oper}{e e':Env}{H H':AH}{r:AV}(h:Yf P ops o e H r H')(he:∀t∈o.looksAt ops,e t=e' t):Yf P ops o e' H r H':=by
 rcases h with⟨h1,h2⟩|⟨h1,h2⟩
 .exact .inl ⟨h1.congr he,h2.congr<|R6 he⟩
 exact .inr ⟨h1.congr he,h2⟩
def yE(P:Program)(ops:Array Oper)(o:Oper)(e:Env)(H:AH)(r:AV)(H':AH)(F:List Nat):Prop:=
 H'.length=H.length/\(∀b,b∉F->H'[b]?=H[b]?)/\∀G,agree F G H->∃G',G'.length=G.length/\(∀b∈F,G'[b]?=H'[b]?)/\(∀b,b∉F->G'[b]?=G[b]?)/\Yf P ops o e G r G'
section
variable{P:Program}{ops:Array Oper}{o:Oper}{e:Env}{H H':AH}{r:AV}{F:List Nat}
theorem yE.op(h:yE P ops o e H r H' F):Yf P ops o e H r H':=by
 obtain⟨h1,h2,h3⟩:=h;obtain⟨G',g1,g2,g3,g4⟩:=h3 H ⟨rfl,λ_ _=>rfl⟩;have : G'=H':=by
  apply aeT
  grind
 grind
theorem yE.congr{e':Env}(h:yE P ops o e H r H' F)(he:∀t∈o.looksAt ops,e t=e' t):yE P ops o e' H r H' F:=by
 obtain⟨h1,h2,h3⟩:=h;refine⟨h1,h2,λG hG=>?_⟩;obtain⟨G',g1,g2,g3,g4⟩:=h3 G hG;exact⟨G',g1,g2,g3,g4.congr he⟩
theorem yE.at_{G:AH}(h:yE P ops o e H r H' F)(hG:agree F G H):∃G',G'.length=G.length/\(∀b∈F,G'[b]?=H'[b]?)/\(∀b,b∉F->G'[b]?=G[b]?)/\yE P ops o e G r G' F:=by
 obtain⟨h1,h2,h3⟩:=h;obtain⟨G',g1,g2,g3,g4⟩:=h3 G hG;refine⟨G',g1,g2,g3,g1,g3,λK hK=>?_⟩;obtain⟨K',k1,k2,k3,k4⟩:=h3 K ⟨hK.1.trans hG.1,λb hb=>(hK.2 b hb).trans<|hG.2 b hb⟩
 grind
theorem yE.ofF(hw:wQ ops e o aae)(h:vg P o (rho e) H r H' F):yE P ops o e H r H' F:=by
 obtain⟨h1,h2,h3⟩:=h;refine⟨h1,h2,λG hG=>?_⟩;obtain⟨G',g1,g2,g3,g4⟩:=h3 G hG;exact⟨G',g1,g2,g3,.inl ⟨hw,g4⟩⟩
theorem yE.skip(hw:wQ ops e o aaf)(F:List Nat):yE P ops o e H (.tup []) H F:=⟨rfl,λ_ _=>rfl,λG hG=>⟨G,rfl,hG.2,λ_ _=>rfl,.inr ⟨hw,rfl,rfl⟩⟩⟩
def WT(P:Program)(ops:Array Oper)(fp:Nat->Fp)(Q:Env->AH->Prop):Nat->Array Bool->Env->AH->Prop
 |0,listed,e,H=>Region.ready .any ops listed=[]/\Q e H
 |fuel+1,listed,e,H=>(Region.ready .any ops listed=[]->Q e H) /\
  ∀i∈Region.ready .any ops listed,∃o r H',ops[i]?=aag o/\yE P ops o e H r H' (fp i).1/\((fp i).2=aaf->H'=H)/\WT P ops fp Q fuel (listed.setIfInBounds i aae) (ww e o.dst r) H'
theorem OE{ops:Array Oper}{fp:Nat->Fp}{Q:Env->AH->Prop}{i:Nat}{oi:Oper}{r:AV}(hi:ops[i]?=aag oi) :
  ∀(fuel:Nat)(listed:Array Bool)(e:Env)(H Hi:AH),
   (∀(j:Nat)(oj:Oper),ops[j]?=aag oj->j≠i->listed.getD j aae=aaf->(∀ed∈oj.after,Region.binds .any ed=aae->ed.on≠i)->oi.apart ops oj=aae/\rR (fp i) (fp j)=aae) ->
   i∈Region.ready .any ops listed->yE P ops oi e H r Hi (fp i).1->((fp i).2=aaf->Hi=H)->WT P ops fp Q fuel (listed.setIfInBounds i aae) (ww e oi.dst r) Hi->WT P ops fp Q (fuel+1) listed e H:=by
 intro fuel
 induction fuel with
 |zero=>
  intro listed e H Hi _ hr hy hro hA;refine⟨λh=>(by rw[h] at hr;cases hr),λj hj=>?_⟩
  by_cases hji:j=i
  .subst hji;exact⟨oi,r,Hi,hi,hy,hro,hA⟩
  have:=ready_mono hj hji;rw[hA.1] at this
  cases this
 |succ fuel ih=>
  intro listed e H Hi hfree hr hy hro hA;refine⟨λh=>(by rw[h] at hr;cases hr),λj hj=>?_⟩
  by_cases hji:j=i
  .subst hji;exact⟨oi,r,Hi,hi,hy,hro,hA⟩
  obtain⟨oj,q,Hj,hoj,hsj,hroj,hAj⟩:=hA.2 j<|ready_mono hj hji;obtain⟨hjun,oj',D9,hall⟩:=mem_ready.1 hj;rw[hoj] at D9;injection D9 with D9;subst D9;have hnot:∀ed∈oj.after,Region.binds .any ed=aae->ed.on≠i:=λed he hb heq=>by
   have h1:=hall ed he hb;have h0:=(mem_ready.1 hr).1
   grind
  obtain⟨hap,hcm⟩:=hfree j oj hoj hji hjun hnot;obtain⟨h1,h2,h3⟩:=Oper.apart_spec hap;have ej:=Ku (e:=e) (r:=r) h1;have ei:=Ku (e:=e) (oi:=oj) (r:=q) h3;have hsj':=hsj.congr ej;have hfree':∀(k:Nat)(ok:Oper),ops[k]?=aag ok->k≠i->(listed.setIfInBounds j aae).getD k aae=aaf->(∀ed∈ok.after,Region.binds .any ed=aae->ed.on≠i)->oi.apart ops ok=aae/\rR (fp i) (fp k)=aae:=λk ok hk hki hun hno=>by
   refine hfree k ok hk hki ?_ hno
   by_cases hjk:j=k
   .subst hjk;exact hjun
   rw[getD_set_ne aae hjk] at hun;exact hun
  have fin:∀Hj',yE P ops oj e H q Hj' (fp j).1->((fp j).2=aaf->Hj'=H)->yE P ops oi e Hj' r Hj (fp i).1->((fp i).2=aaf->Hj=Hj')->∃o r' H',ops[j]?=aag o/\yE P ops o e H r' H' (fp j).1/\((fp j).2=aaf->H'=H)/\WT P ops fp Q (fuel+1) (listed.setIfInBounds j aae) (ww e o.dst r') H':=λHj' s1 s1' s2 s2'=>by
   refine⟨oj,q,Hj',hoj,s1,s1',ih (listed.setIfInBounds j aae) (ww e oj.dst q) Hj' Hj hfree' (ready_mono hr<|Ne.symm hji) (s2.congr λx hx=>(ei x hx).symm) s2' ?_⟩;rw[Array.setIfInBounds_comm _ _ hji,Bu (by grind)];exact hAj
  simp only[rR,Bool.or_eq_true,bae,Bool.not_eq_true',ae0,List.contains_eq_mem,decide_eq_false_iff_not] at hcm;rcases hcm with hdis|⟨w1,w2⟩
  .have hag:agree (fp j).1 H Hi:=⟨hy.1.symm,λb hb=>(hy.2.1 b λhbi=>hdis b hbi hb).symm⟩;obtain⟨Hj',a1,a2,a3,a4⟩:=hsj'.at_ hag;have hag2:agree (fp i).1 Hj' H:=⟨a1,λb hb=>a3 b<|hdis b hb⟩;obtain⟨K,b1,b2,b3,b4⟩:=hy.at_ hag2;have hKH:K=Hj:=by
    apply aeT;intro b
    by_cases hbi:b∈(fp i).1
    .rw[b2 b hbi,hsj'.2.1 b (hdis b hbi)]
    rw[b3 b hbi]
    by_cases hbj:b∈(fp j).1
    .exact a2 b hbj
    rw[a3 b hbj,hsj'.2.1 b hbj,hy.2.1 b hbi]
   subst hKH;refine fin Hj' a4 (λhw=>?_) b4 λhw=>?_
   .apply aeT;intro b
    by_cases hbj:b∈(fp j).1
    .rw[a2 b hbj,hroj hw,hy.2.1 b (λhbi=>hdis b hbi hbj)]
    exact a3 b hbj
   apply aeT;intro b
   by_cases hbi:b∈(fp i).1
   .rw[b2 b hbi,hro hw,a3 b (hdis b hbi)]
   exact b3 b hbi
  obtain rfl:=hro w1;obtain rfl:=hroj w2;exact fin _ hsj' (λ_=>rfl) hy λ_=>rfl
def Yy(ops:Array Oper)(fp:Nat->Fp):Bool:=
 Region.lexB .any ops &&
 (List.range ops.size).all λi=>(List.range ops.size).all λj=>aai (j<=i)||rR (fp i) (fp j)||match ops[j]? with
  |some oj=>oj.after.any λed=>Region.binds .any ed&&ed.on==i
  |none=>aae
def TG(P:Program)(ops:Array Oper)(fp:Nat->Fp):Nat->List Oper->(Env->AH->Prop)->Env->AH->Prop
 |_,[],K,e,H=>K e H
 |k,o::rest,K,e,H=>∃r H',yE P ops o e H r H' (fp k).1/\((fp k).2=aaf->H'=H)/\TG P ops fp (k+1) rest K (ww e o.dst r) H'
theorem R7{ops:Array Oper}{fp:Nat->Fp}{Q:Env->AH->Prop}(hc:Yy ops fp=aae):∀(l:List Oper)(k:Nat)(listed:Array Bool)(e:Env)(H:AH),(∀j,l[j]?=ops[k+j]?)->listed.size=ops.size->(∀j,j<k->listed.getD j aae=aae) ->
  Region.lexFrom .any ops l.length k listed=aae->TG P ops fp k l Q e H->WT P ops fp Q l.length listed e H
 |[],k,listed,e,H,_,_,_,hB,h=>⟨by simpa [Region.lexFrom] using hB,h⟩
 |o::l,k,listed,e,H,hl,hsz,hbef,hB,h=>by
  have h0:=by simpa using (hl 0).symm
  have hk:k<ops.size:=by grind
  simp[llc,Region.lexFrom,bae] at hB;obtain⟨⟨hr,hf⟩,hB'⟩:=hB;obtain⟨r,H',hs,hro,hK⟩:=h;refine OE h0 l.length listed e H H' (λj oj hj hne hun hno=>⟨Region.free_spec h0 hf j oj hj hne hun hno,?_⟩) (by simpa using hr) hs hro
   (R7 hc l (k+1) _ _ _ (λj=>by have:=hl<|j+1;grind) (by simpa using hsz) (λj hj=>?_) hB' hK)
  .have hjs:j<ops.size:=by grind
   have hkj : ¬ j<=k:=by grind
   simp[Yy,bae,ae0,List.mem_range] at hc;have:=hc.2 k hk j hjs;simp only[hj,Bool.or_eq_true,dte,hkj,false_or] at this;rcases this with h1|h1
   .exact h1
   rw[Array.any_eq_true'] at h1;obtain⟨ed,h2,h3⟩:=h1
   grind
  by_cases e:j=k
  .simp_all
  rw[getD_set_ne aae (Ne.symm e)];exact hbef j (by omega)
theorem Dk{nt:Nat}{ops:Array Oper}{fp:Nat->Fp}{Q:Exit->Env->AH->Prop}(hd:NS nt ops.toList=aae):∀(fuel:Nat)(listed:Array Bool)(e:Env)(H:AH),WT P ops fp (Q .normal) fuel listed e H ->
  ∀(c c0:Cx)(a:Act),c.H=H->Ext c0 c->SRel c nt e a->wpAny P .any ops (WM nt c0 Q) fuel listed a c.w
 |0,listed,e,H,h,c,c0,a,hH,hx,hs=>⟨h.1,trivial,c,e,rfl,hx,hs,hH ▸ h.2⟩
 |fuel+1,listed,e,H,h,c,c0,a,hH,hx,hs=>by
  refine⟨λhr=>⟨trivial,c,e,rfl,hx,hs,hH ▸ h.1 hr⟩,λi hi=>?_⟩;obtain⟨o,r,H',ho,hst,_,hA⟩:=h.2 i hi;have hm:o∈ops.toList:=by grind
  unfold wpOp;simp[ho];rcases hst.op with⟨hw,hop⟩|⟨hw,rfl,rfl⟩
  .rw[if_pos (hw.wants nt c a hs)];refine .inl<|hop c a _ _ hH hs.heap (λx _=>hs.rho x) λv c' hH' hr' hx' hv=>?_;exact Dk hd fuel _ _ H' hA c' c0 _ hH' (hx.trans hx')<|hs.put o.dst (rC hd hm) hx' hr' hv
  rw[hw.wants nt c a hs];exact Dk hd fuel _ _ _ hA c c0 _ hH hx<|hs.put o.dst (rC hd hm) (Ext.refl c) hs.heap<|.tup rfl (by grind)
end
section
variable{P:Program}{nt b0:Nat}{Q:Exit->Env->AH->Prop}{e:Env}{H H':AH}{r:AV}
theorem T.drawG{i:Nat}{ops:Array Oper}(fp:Nat->Fp)(hm:P.follows .mixedOrders=aae)(hc:Yy ops fp=aae)(h:TG P ops fp 0 ops.toList (Q .normal) e H):T P nt b0 (.region i ops aae) Q e H:=by
 intro hok c c0 a hH hb hx hs;have hc':=hc;simp[Yy,bae,Region.lexB] at hc';refine wp_region_any hm ?_;have hlex:=R7 hc ops.toList 0 (Array.replicate ops.size aaf) e H (λj=>by simp) (by simp) (by grind) (by grind) h;have:=Dk hok ops.toList.length _ e H hlex c.drew c0 a hH (hx.trans c.drew_ext) ⟨hs.size,hs.defers,λt=>(hs.rel t).ext hs.heap c.drew_ext,Cx.drew_rel hs.heap⟩;exact this
variable{ops:Array Oper}{d:Tmp}{op:Op}{ty:TypeId}{pos:String}{af:Array Edge}{en:List (Nat×AV)}{fp:Nat->Fp}{i:Nat}{K:Env->AH->Prop}{l:List Oper}
theorem TG.nil{k:Nat}(h:K e H):TG P ops fp k [] K e H:=h
theorem wQ.y{o:Oper}{j:Nat}{b q:Bool}(hg:o.guard=aag (j,b))(hy:fe ops.toList e j= .v (.bool q))(hq:q=b):wQ ops e o aae:=by
 unfold wQ
 grind
theorem wQ.n{o:Oper}{j:Nat}{b q:Bool}(hg:o.guard=aag (j,b))(hy:fe ops.toList e j= .v (.bool q))(hq:q= !b):wQ ops e o aaf:=by
 unfold wQ
 grind
theorem wQ.u{o:Oper}{j:Nat}{b:Bool}(hg:o.guard=aag (j,b))(hy:fe ops.toList e j= .tup []):wQ ops e o aaf:=by
 unfold wQ
 grind
theorem tN(hc:fp i=([],aaf))(hv:ZT P (rho<|ak en) op r)(h:TG P ops fp (i+1) l K (ak ((d,r)::en)) H):TG P ops fp i (⟨aag d,op,ty,pos,af,aah⟩::l) K (ak en) H:=
 ⟨r,H,by rw[hc];exact .ofF rfl<|K7 hv,λ_=>rfl,h⟩
theorem tR(F:List Nat)(hc:fp i=(F,aaf))(hv:∀G,agree F G H->EvA P (rho<|ak en) op G r G)(h:TG P ops fp (i+1) l K (ak ((d,r)::en)) H):TG P ops fp i (⟨aag d,op,ty,pos,af,aah⟩::l) K (ak en) H:=
 ⟨r,H,by rw[hc];exact .ofF rfl<|K8 hv,λ_=>rfl,h⟩
theorem tgN{j:Nat}{b q:Bool}(hy:fe ops.toList (ak en) j= .v (.bool q))(hq:q=b)(hc:fp i=([],aaf))(hv:ZT P (rho<|ak en) op r)(h:TG P ops fp (i+1) l K (ak ((d,r)::en)) H):TG P ops fp i (⟨aag d,op,ty,pos,af,aag (j,b)⟩::l) K (ak en) H:=
 ⟨r,H,by rw[hc];exact .ofF (.y rfl hy hq)<|K7 hv,λ_=>rfl,h⟩
theorem tgR{j:Nat}{b q:Bool}(hy:fe ops.toList (ak en) j= .v (.bool q))(hq:q=b)(F:List Nat)(hc:fp i=(F,aaf))(hv:∀G,agree F G H->EvA P (rho<|ak en) op G r G)(h:TG P ops fp (i+1) l K (ak ((d,r)::en)) H):TG P ops fp i (⟨aag d,op,ty,pos,af,aag (j,b)⟩::l) K (ak en) H:=
 ⟨r,H,by rw[hc];exact .ofF (.y rfl hy hq)<|K8 hv,λ_=>rfl,h⟩
theorem tgS{j:Nat}{b q:Bool}(hy:fe ops.toList (ak en) j= .v (.bool q))(hq:q= !b)(h:TG P ops fp (i+1) l K (ak ((d,.tup [])::en)) H):TG P ops fp i (⟨aag d,op,ty,pos,af,aag (j,b)⟩::l) K (ak en) H:=
 ⟨_,H,.skip (.n rfl hy hq) _,λ_=>rfl,h⟩
theorem tgU{j:Nat}{b:Bool}(hy:fe ops.toList (ak en) j= .tup [])(h:TG P ops fp (i+1) l K (ak ((d,.tup [])::en)) H):TG P ops fp i (⟨aag d,op,ty,pos,af,aag (j,b)⟩::l) K (ak en) H:=
 ⟨_,H,.skip (.u rfl hy) _,λ_=>rfl,h⟩
end
def zw(en:List<|Nat×AV):List Nat->Option (List<|Nat×AV)
 |[]=>aag []
 |t::l=>match Jf en t with
  |some v=>(match zw en l with
   |some r=>aag ((t,v)::r)
   |none=>aah)
  |none=>aah
theorem Nl{en:List (Nat×AV)}:∀{l:List Nat}{r:List (Nat×AV)},zw en l=aag r->GX (ak en) (ak r)
 |[],r,h=>by
  obtain rfl:=osl h;exact ZQ
 |t::l,r,h=>by
  unfold zw at h
  split at h
  .rename_i v hv
   split at h
   .rename_i r' hr;obtain rfl:=osl h;exact ZR (xx hv)<|Nl hr
   cases h
  cases h
section
variable{P:Program}{nt b0:Nat}{Q:Exit->Env->AH->Prop}{H H':AH}{x:Operand}{ops:Array Oper}{l:List Oper}{d:Tmp}{op:Op}{ty:TypeId}{pos:String}{af:Array Edge}{en:List (Nat×AV)}{v:AV}{c:Prop}{b ver pY j:Nat}{k':ABlk}{w q:Bool}{fp:Nat->Fp}{i:Nat}{K:Env->AH->Prop}
theorem hM(hy:fe ops.toList (ak en) j= .v (.bool q))(hq:q=w)(h:opE en x=aag v)(k:TO P nt b0 ops l Q (ak ((d,v)::en)) H):TO P nt b0 ops (⟨aag d,.move x,ty,pos,af,aag (j,w)⟩::l) Q (ak en) H:=gN hy hq (ZT.mv _<|fS h) k
theorem hR(hy:fe ops.toList (ak en) j= .v (.bool q))(hq:q=w)(h:opE en x=aag v)(k:TO P nt b0 ops l Q (ak ((d,v)::en)) H):TO P nt b0 ops (⟨aag d,.assign x,ty,pos,af,aag (j,w)⟩::l) Q (ak en) H:=gN hy hq (ZT.asg _<|fS h) k
theorem hPT{y z:Operand}{u:Bool}(hc:opE en x=aag (.v<|.bool u))(hu:u=aae)(h:opE en y=aag v)(k:TO P nt b0 ops l Q (ak ((d,v)::en)) H):TO P nt b0 ops (⟨aag d,.pick x y z,ty,pos,af,aah⟩::l) Q (ak en) H:=oN (ZT.pickT (fS hc) hu _<|fS h) k
theorem hPF{y z:Operand}{u:Bool}(hc:opE en x=aag (.v<|.bool u))(hu:u=aaf)(h:opE en z=aag v)(k:TO P nt b0 ops l Q (ak ((d,v)::en)) H):TO P nt b0 ops (⟨aag d,.pick x y z,ty,pos,af,aah⟩::l) Q (ak en) H:=oN (ZT.pickF (fS hc) hu _<|fS h) k
theorem tM(h:opE en x=aag v)(hc:fp i=([],aaf))(k:TG P ops fp (i+1) l K (ak ((d,v)::en)) H):TG P ops fp i (⟨aag d,.move x,ty,pos,af,aah⟩::l) K (ak en) H:=tN hc (ZT.mv _<|fS h) k
theorem tA(h:opE en x=aag v)(hc:fp i=([],aaf))(k:TG P ops fp (i+1) l K (ak ((d,v)::en)) H):TG P ops fp i (⟨aag d,.assign x,ty,pos,af,aah⟩::l) K (ak en) H:=tN hc (ZT.asg _<|fS h) k
theorem tgM(hy:fe ops.toList (ak en) j= .v (.bool q))(hq:q=w)(h:opE en x=aag v)(hc:fp i=([],aaf))(k:TG P ops fp (i+1) l K (ak ((d,v)::en)) H):TG P ops fp i (⟨aag d,.move x,ty,pos,af,aag (j,w)⟩::l) K (ak en) H:=tgN hy hq hc (ZT.mv _<|fS h) k
theorem tPT{y z:Operand}{u:Bool}(hc:opE en x=aag (.v<|.bool u))(hu:u=aae)(h:opE en y=aag v)(hf:fp i=([],aaf))(k:TG P ops fp (i+1) l K (ak ((d,v)::en)) H):TG P ops fp i (⟨aag d,.pick x y z,ty,pos,af,aah⟩::l) K (ak en) H:=tN hf (ZT.pickT (fS hc) hu _<|fS h) k
theorem tPF{y z:Operand}{u:Bool}(hc:opE en x=aag (.v<|.bool u))(hu:u=aaf)(h:opE en z=aag v)(hf:fp i=([],aaf))(k:TG P ops fp (i+1) l K (ak ((d,v)::en)) H):TG P ops fp i (⟨aag d,.pick x y z,ty,pos,af,aah⟩::l) K (ak en) H:=tN hf (ZT.pickF (fS hc) hu _<|fS h) k
variable{cls:Nat->Xc}{lx:List Nat}
theorem xM(h0:ops[i]?=aag ⟨aag d,.move x,ty,pos,af,aah⟩)(h:opE en x=aag v)(hc:cls i=(aaf,[]))(k:TX P ops cls lx K (ak ((d,v)::en)) H):TX P ops cls (i::lx) K (ak en) H:=xN h0 hc (ZT.mv _<|fS h) k
theorem xAs(h0:ops[i]?=aag ⟨aag d,.assign x,ty,pos,af,aah⟩)(h:opE en x=aag v)(hc:cls i=(aaf,[]))(k:TX P ops cls lx K (ak ((d,v)::en)) H):TX P ops cls (i::lx) K (ak en) H:=xN h0 hc (ZT.asg _<|fS h) k
variable[Tab P]
theorem tN'(h:evN P (rho<|ak en) op=aag (aah,v))(hc:fp i=([],aaf))(k:TG P ops fp (i+1) l K (ak ((d,v)::en)) H):TG P ops fp i (⟨aag d,op,ty,pos,af,aah⟩::l) K (ak en) H:=tN hc (yp h trivial) k
theorem tG'(h:evN P (rho<|ak en) op=aag (aag c,v))(hf:fp i=([],aaf))(hc:c)(k:TG P ops fp (i+1) l K (ak ((d,v)::en)) H):TG P ops fp i (⟨aag d,op,ty,pos,af,aah⟩::l) K (ak en) H:=tN hf (yp h hc) k
theorem tL'(h:evL P (rho<|ak en) H op=aag (b,pY,ver,v))(hv:pY=ver)(hf:fp i=([b],aaf))(k:TG P ops fp (i+1) l K (ak ((d,v)::en)) H):TG P ops fp i (⟨aag d,op,ty,pos,af,aah⟩::l) K (ak en) H:=tR [b] hf (λG hG=>Kt h hv G hG) k
theorem Y4(hy:fe ops.toList (ak en) j= .v (.bool q))(hq:q=w)(h:evN P (rho<|ak en) op=aag (aah,v))(hc:fp i=([],aaf))(k:TG P ops fp (i+1) l K (ak ((d,v)::en)) H):TG P ops fp i (⟨aag d,op,ty,pos,af,aag (j,w)⟩::l) K (ak en) H:=tgN hy hq hc (yp h trivial) k
theorem WU(hy:fe ops.toList (ak en) j= .v (.bool q))(hq:q=w)(h:evN P (rho<|ak en) op=aag (aag c,v))(hf:fp i=([],aaf))(hc:c)(k:TG P ops fp (i+1) l K (ak ((d,v)::en)) H):TG P ops fp i (⟨aag d,op,ty,pos,af,aag (j,w)⟩::l) K (ak en) H:=tgN hy hq hf (yp h hc) k
theorem xN'(h0:ops[i]?=aag ⟨aag d,op,ty,pos,af,aah⟩)(h:evN P (rho<|ak en) op=aag (aah,v))(hc:cls i=(aaf,[]))(k:TX P ops cls lx K (ak ((d,v)::en)) H):TX P ops cls (i::lx) K (ak en) H:=xN h0 hc (yp h trivial) k
theorem xG'(h0:ops[i]?=aag ⟨aag d,op,ty,pos,af,aah⟩)(h:evN P (rho<|ak en) op=aag (aag c,v))(hf:cls i=(aaf,[]))(hc:c)(k:TX P ops cls lx K (ak ((d,v)::en)) H):TX P ops cls (i::lx) K (ak en) H:=xN h0 hf (yp h hc) k
end
theorem T.cl{P:Program}{nt b0:Nat}{Q:Exit->Env->AH->Prop}{en en':List (Nat×AV)}{H:AH}{x:Code}(l:List Nat)(h:zw en l=aag en')(k:T P nt b0 x Q (ak en') H):T P nt b0 x Q (ak en) H:=k.weak<|Nl h
theorem T.drawP{P:Program}{nt b0:Nat}{Q:Exit->Env->AH->Prop}{e:Env}{H:AH}{i:Nat}{ops:Array Oper}(hm:P.follows .mixedOrders=aae)(hc:Xb ops (λ_=>([],aaf))=aae)(h:TF P (λ_=>([],aaf)) 0 ops.toList (Q .normal) e H):T P nt b0 (.region i ops aae) Q e H:=T.drawF _ hm hc h
def slq(P:Program)[Tab P](t:TypeId):Option (TypeId×TI):=match tq P t with
 |some ⟨.slice e,_,_,_,_⟩=>(match tq P e with
  |some ⟨u,ag,n,zs,m⟩=>bif aeM 0 n then aag (e,⟨u,ag,n,zs,m⟩) else aah
  |none=>aah)
 |_=>aah
theorem Kv{P:Program}[Tab P]{t e:TypeId}{x:TI}(h:slq P t=aag (e,x)):SlT P t e x.ag x.n x.zs x.m:=by
 unfold slq at h
 split at h
 .rename_i hz
  split at h
  .rename_i u ag n zs m hy
   cases hb:aeM 0 n with
   |true=>
    rw[hb] at h;obtain⟨rfl,rfl⟩:=aeY<|osl h;exact(mX hz).sl (mX hy) rfl hb
   |false=>grind
  cases h
 cases h
def Yz(P:Program)[Tab P](t:TypeId):Bool:=match tq P t with
 |some ⟨.slice _,_,_,_,_⟩=>aae
 |some ⟨.string,_,_,_,_⟩=>aae
 |_=>aaf
theorem R8{P:Program}[Tab P]{t:TypeId}(h:Yz P t=aae):Mt P t=aae:=by
 unfold Yz at h
 split at h
 .rename_i hz;simp[Mt,(mX hz).u]
 .rename_i hz;simp[Mt,(mX hz).u]
 cases h
section
variable{P:Program}[Tab P]{nt b0:Nat}{Q:Exit->Env->AH->Prop}{H:AH}{x y:Operand}{ops:Array Oper}{l:List Oper}{d:Tmp}{op:Op}{ty:TypeId}{pos:String}{af:Array Edge}{en:List (Nat×AV)}{fp:Nat->Fp}{i:Nat}{K:Env->AH->Prop}
variable{t u e e':TypeId}{z:TI}{α:Type}[Inhabited α]{c:α->List AV}{k xs:List α}{g:Bool}{b ver n w j q:Nat}{v:α}{a:AV}
theorem eK(hq:slq P t=aag (e,z))(hx:((opE en x).bind AV.cells)=aag (c v))(k:TO P nt b0 ops l Q (ak ((d,eL c [v])::en)) H)(hc:∀x,(c x).length=z.n)(hF:∀x,(c x).all (isF 9)=aae)(hn:aeQ z.n 16777216=aae):TO P nt b0 ops (⟨aag d,.buildSlice t 1 #[(0,x)],ty,pos,af,aah⟩::l) Q (ak en) H:=by
 obtain⟨a,ha,hx⟩:=ae5.1 hx;have hs:=Kv hq;exact oN (ZT.mkF [v] [c v] hs (by simp[fS ha,hx,ma]) (by simp[hs.pos,hn]) rfl hc hF rfl) k
theorem fK(hq:slq P t=aag (e,z))(hx:((opE en x).bind AV.cells)=aag (c v))(hf:fp i=([],aaf))(k:TF P fp (i+1) l K (ak ((d,eL c [v])::en)) H)(hc:∀x,(c x).length=z.n)(hF:∀x,(c x).all (isF 9)=aae)(hn:aeQ z.n 16777216=aae):TF P fp i (⟨aag d,.buildSlice t 1 #[(0,x)],ty,pos,af,aah⟩::l) K (ak en) H:=by
 obtain⟨a,ha,hx⟩:=ae5.1 hx;have hs:=Kv hq;exact fN hf (ZT.mkF [v] [c v] hs (by simp[fS ha,hx,ma]) (by simp[hs.pos,hn]) rfl hc hF rfl) k
theorem eP(hq:slq P t=aag (e,z))(hu:Yz P u=aae)(hx:opE en x=aag (hS g b ver z.n n))(hy:opE en y=aag (eL c [v]))(hk:H[b]?=aag (bE g ver z.n e<|xs.map c))(hn:n=xs.length)(hg:g=aae->xs=[])(hc:∀x,(c x).length=z.n)(hb:aR (xs.length+1) z.m=aae)
  (k:TO P nt b0 ops l Q (ak ((d,hS aaf b (ver+1) z.n (xs++[v]).length)::en))<|H.set b<|bE aaf (ver+1) z.n e<|(xs++[v]).map c):TO P nt b0 ops (⟨aag d,.call ⟨.builtin .append,#[x,y],#[t,u]⟩,ty,pos,af,aah⟩::l) Q (ak en) H:=
 oA (EvA.app1 v (Kv hq) (R8 hu) (fS hx) hn hk hg (bH.fz (fS hy) hc) hb) k
theorem eQ(hq:slq P t=aag (e,z))(hu:Yz P u=aae)(hx:opE en x=aag (hS aaf b ver z.n n))(hy:opE en y=aag (eL c k))(hk:H[b]?=aag (bE aaf ver z.n e<|xs.map c))(hn:n=xs.length)(hc:∀x,(c x).length=z.n)(hb:aR (xs.length+k.length) z.m=aae)
  (kk:TO P nt b0 ops l Q (ak ((d,hS aaf b (ver+1) z.n (xs++k).length)::en))<|H.set b<|bE aaf (ver+1) z.n e<|(xs++k).map c):TO P nt b0 ops (⟨aag d,.call ⟨.builtin .append,#[x,y],#[t,u]⟩,ty,pos,af,aah⟩::l) Q (ak en) H:=
 oA (EvA.appF k (Kv hq) (R8 hu) (fS hx) hn hk (bH.fz (fS hy) hc) hb) kk
theorem eU(hq:slq P t=aag (e,z))(hx:opE en x=aag (hS g b ver w n))(hg:g=aae->n=0)(k:TO P nt b0 ops l Q (ak ((d,I n)::en)) H):TO P nt b0 ops (⟨aag d,.call ⟨.builtin .len,#[x],#[t]⟩,ty,pos,af,aah⟩::l) Q (ak en) H:=oN (ZT.lenO (Kv hq) (fS hx) hg) k
theorem eW{s:Nat}{ag:Bool}{n:Nat}{uu:TypeDesc}{zs:List AV}{m:Nat}(hz:tq P t=aag ⟨uu,ag,n,zs,m⟩)(hx:opE en x=aag (.hp b ver s q j))(hk:H[b]?=aag (bE g ver s e'<|xs.map c))(hg:g=aae->xs=[])(hi:q<xs.length)(hp:Ks ag n (c<|xs.getD q aad) j okV=aag (aah,a))(k:TO P nt b0 ops l Q (ak ((d,a)::en)) H):TO P nt b0 ops (⟨aag d,.load t x,ty,pos,af,aah⟩::l) Q (ak en) H:=by
 obtain⟨a',ha,h'⟩:=zV hp;obtain⟨_,rfl⟩:=eY h';exact oA (EvA.ldO _ (mX hz).ty (fS hx) hk hg hi ha) k
theorem fW'{s:Nat}{ag:Bool}{n:Nat}{uu:TypeDesc}{zs:List AV}{m:Nat}(hz:tq P t=aag ⟨uu,ag,n,zs,m⟩)(hx:opE en x=aag (.hp b ver s q j))(hk:H[b]?=aag (bE g ver s e'<|xs.map c))(hf:fp i=([b],aaf))(hg:g=aae->xs=[])(hi:q<xs.length)(hp:Ks ag n (c<|xs.getD q aad) j okV=aag (aah,a))(k:TF P fp (i+1) l K (ak ((d,a)::en)) H):TF P fp i (⟨aag d,.load t x,ty,pos,af,aah⟩::l) K (ak en) H:=by
 obtain⟨a',ha,h'⟩:=zV hp;obtain⟨_,rfl⟩:=eY h';exact fR [b] hf (λG hG=>EvA.ldO _ (mX hz).ty (fS hx) (hG.a0 hk) hg hi ha) k
end
section
attribute [local irreducible] T TO TF TG TX ZT EvA
theorem go{P Q:Prop}{α:Type}{x:Option α}{r:α}(h:x=some r)(k:Q)(c:x=some r->Q->P:=by
 intro h k;have f:=True.intro
 repeat first
  |refine eM rfl ?_
  |refine fM rfl rfl ?_
  |refine eN rfl ?_
  |refine eR rfl ?_
  |refine fA rfl rfl ?_
  |refine fN' rfl rfl ?_
  |refine T.sr ?_
  |refine TO.nil ?_
  |((first|refine jD h ?_|refine jW h ?_);clear h;intro g h;(first|refine eG rfl g ?_|refine fG' rfl rfl g ?_|refine hG rfl (by first|assumption|rfl) rfl g ?_|refine xG' rfl rfl rfl g ?_|refine tG' rfl rfl g ?_|refine WU rfl (by first|assumption|rfl) rfl rfl g ?_);replace f:=And.intro g f)
  |refine eG rfl (by first|assumption|decide) ?_
  |refine fG' rfl rfl (by first|assumption|decide) ?_
  |refine eA rfl ?_
  |refine eS rfl rfl rfl ?_
  |refine eL_ rfl rfl ?_
  |refine fL' rfl rfl rfl ?_
  |refine fS' rfl rfl rfl rfl ?_
  |(refine jL h ?_;clear h;intro g h;(first|refine eP rfl rfl rfl rfl rfl rfl (by first|assumption|exact λ_=>rfl|exact λx=>Bool.noConfusion x|exact λx=>List.eq_nil_of_length_eq_zero<|by simp_all) (λ_=>rfl) g ?_|refine eQ rfl rfl rfl rfl rfl rfl (λ_=>rfl) g ?_);replace f:=And.intro g f)
  |refine eU rfl rfl (by first|exact vO (by assumption) rfl|exact λx=>Bool.noConfusion x|assumption) ?_
  |refine eW rfl rfl rfl (by first|assumption|exact λ_=>rfl|exact λx=>Bool.noConfusion x|exact λx=>List.eq_nil_of_length_eq_zero<|by simp_all) (aS rfl<|by assumption) rfl ?_
  |refine fW' rfl rfl rfl rfl (by first|assumption|exact λ_=>rfl|exact λx=>Bool.noConfusion x|exact λx=>List.eq_nil_of_length_eq_zero<|by simp_all) (aS rfl<|by assumption) rfl ?_
  |refine hM rfl (by first|assumption|rfl) rfl ?_
  |refine hR rfl (by first|assumption|rfl) rfl ?_
  |refine hN rfl (by first|assumption|rfl) rfl ?_
  |refine hG rfl (by first|assumption|rfl) rfl (by first|assumption|decide) ?_
  |refine gS rfl (by first|assumption|rfl) ?_
  |refine gU rfl ?_
  |refine xM rfl rfl rfl ?_
  |refine xAs rfl rfl rfl ?_
  |refine xN' rfl rfl rfl ?_
  |refine xG' rfl rfl rfl (by first|assumption|decide) ?_
  |refine tM rfl rfl ?_
  |refine tA rfl rfl ?_
  |refine tN' rfl rfl ?_
  |refine tG' rfl rfl (by first|assumption|decide) ?_
  |refine tL' rfl rfl rfl ?_
  |refine tgM rfl (by first|assumption|rfl) rfl rfl ?_
  |refine Y4 rfl (by first|assumption|rfl) rfl rfl ?_
  |refine WU rfl (by first|assumption|rfl) rfl rfl (by first|assumption|decide) ?_
  |refine tgS rfl (by first|assumption|rfl) ?_
  |refine tgU rfl ?_
  |refine T.skip ?_
  |refine T.block ?_
  |refine T.region ?_
  |refine T.ret ?_
  |refine TF.nil ?_
  |refine TG.nil ?_
  |refine TX.nil ?_
  |((first|refine jD h ?_|refine jW h ?_);clear h;intro g h;(first|refine eG rfl (And.intro (by first|assumption|decide) g) ?_|refine fG' rfl rfl (And.intro (by first|assumption|decide) g) ?_);replace f:=And.intro g f)
  |((first|refine jD h ?_|refine jW h ?_);clear h;intro g h;(first|refine jD h ?_|refine jW h ?_);clear h;intro g' h;(first|refine eG rfl (And.intro g g') ?_|refine fG' rfl rfl (And.intro g g') ?_);replace f:=And.intro g'<|And.intro g f)
 revert h
 revert f
 exact k):P:=c h k
theorem gs{P Q:Prop}{α:Type}{x:Option α}{r:α}(h:x=some r)(k:Q)(c:x=some r->Q->P:=by
 intro h k;refine T.seq ?_;refine go h λf h=>?_
 revert h
 revert f
 exact k):P:=c h k
theorem gz{P:Prop}{α:Type}{x:Option α}{r:α}(h:x=some r)(c:x=some r->P:=by
 intro h;refine go h λf h=>?_;obtain rfl:=ZV h;exact SV rfl rfl rfl):P:=c h
theorem gi{P Q R:Prop}{α:Type}{x:Option α}{r:α}(h:x=some r)(k:Q)(l:R)(c:x=some r->Q->R->P:=by
 intro h k l;refine go h λf h=>?_;refine T.ifH rfl h (λq h=>?_) λq h=>?_
 .revert q h;revert f;exact k
 revert q h;revert f;exact l):P:=c h k l
theorem gsi{P Q R:Prop}{α:Type}{x:Option α}{r:α}(h:x=some r)(k:Q)(l:R)(c:x=some r->Q->R->P:=by
 intro h k l;refine T.seq ?_;refine go h λf h=>?_;refine T.ifH rfl h (λq h=>?_) λq h=>?_
 .revert q h;revert f;exact k
 revert q h;revert f;exact l):P:=c h k l
theorem gp{P Q:Prop}{α:Type}{x:Option α}{r:α}(h:x=some r)(k:Q)(c:x=some r->Q->P:=by
 intro h k;refine go h λf h=>?_
 first|refine hPT rfl (by first|assumption|rfl) rfl ?_|refine hPF rfl (by first|assumption|rfl) rfl ?_|refine tPT rfl (by first|assumption|rfl) rfl rfl ?_|refine tPF rfl (by first|assumption|rfl) rfl rfl ?_
 revert h
 revert f
 exact k):P:=c h k
theorem gj{P J:Prop}{α:Type}{x:Option α}{r:α}(h:x=some r)(j:J)(c:x=some r->J->P:=by
 intro h j;refine gp h λf h=>?_;obtain rfl:=ZV h;exact j _ _ (kw rfl rfl)):P:=c h j
theorem stc{m:Nat}{H:AH}{en l:List (Nat×AV)}{t:Nat}{v a:AV}(hv:Jf en t=aag v)(h:Stl m H v a)(w:∀q,Stl m H (ak en q)<|ak l q):∀q,Stl m H (ak en q) (ak ((t,a)::l) q):=ai ((xx hv).symm ▸ h) w
theorem stS{m:Nat}{H:AH}{g:Bool}{b ver s n:Nat}{a:AV}(ha:a=hS g b ver s n)(hb:aeM b m=aae):Stl m H a (hS g b ver s n):=.eqv ha<|.hS hb
theorem Z9{p:Prop}(c:p:=by
  first
    |exact kw rfl rfl
    | (refine qH rfl ?_ ?_
       . repeat' first
           |exact .nil
           |refine .cons ?_ ?_
           |exact .list (λ_=>rfl)
           |exact .mp (λ_=>rfl)
           |refine .row ?_
           |exact .fz .nil0
           |exact .fz (.of_isF 9 _ rfl)
           |exact stS rfl rfl
           |exact .mp (nlb rfl)
           |exact .hs (nlb rfl)
           |exact .hp (nlb rfl)
           |exact .fz (Fz.own rfl rfl rfl (by first|assumption|exact λ_=>rfl|exact λx=>Bool.noConfusion x|exact λx=>List.eq_nil_of_length_eq_zero<|by simp_all) λ_=>rfl)
       repeat' first
         |exact aO
         |refine stc rfl ?_ ?_
         |exact .fz .nil0
         |exact .fz (.of_isF 9 _ rfl)
         |exact stS rfl rfl
         |exact .mp (nlb rfl)
         |exact .hs (nlb rfl)
         |exact .hp (nlb rfl)
         |exact .fz (Fz.own rfl rfl rfl (by first|assumption|exact λ_=>rfl|exact λx=>Bool.noConfusion x|exact λx=>List.eq_nil_of_length_eq_zero<|by simp_all) λ_=>rfl)
         |refine .fz (Fz.fpL rfl rfl rfl ?_)
         |exact .nil
         |refine .cons ?_ ?_
         |exact .of_isF 9 _ rfl)):p:=c
section
variable{P:Program}{nt b0:Nat}{Q:Exit->Env->AH->Prop}{e:Env}{H:AH}{S E G W:Type}{body x y:Code}{r:E}{step:S->Option (S ⊕ E)}{s0:S}{w:W}{A:Option S}{K:S->Option W}
theorem tL(h:aA step s0=aag r)(g0:G)(inv:S->G->Prop)(slots:S->G->List (Nat×AV))(heap:S->G->AH)(hi:inv s0 g0)
 (round:∀s g z,step s=aag z->inv s g->T P nt b0 body (Fg (Ec b0 inv slots heap z)<|Leave Q r z) (ak<|slots s g) (heap s g)) (hs:bK b0 e H (ak<|slots s0 g0) (heap s0 g0):=by exact Z9):T P nt b0 (.loop body) Q e H:=T.loop step inv slots heap g0 h hi hs round
theorem tT(h:aA step s0=aag r)(g0:G)(slots:S->G->List (Nat×AV))(heap:S->G->AH)
 (round:∀s g z,step s=aag z->T P nt b0 body (Fg (Ec b0 (λ_ _=>True) slots heap z)<|Leave Q r z) (ak<|slots s g) (heap s g)) (hs:bK b0 e H (ak<|slots s0 g0) (heap s0 g0):=by exact Z9):T P nt b0 (.loop body) Q e H:=T.loop step (λ_ _=>True) slots heap g0 h trivial hs λs g z hz _=>round s g z hz
theorem tU(h:aA step s0=aag r)(slots:S->List (Nat×AV))(heap:S->AH)
 (round:∀s z,step s=aag z->T P nt b0 body (Fg (Ec b0 (λ_ (_:Unit)=>True) (λs _=>slots s) (λs _=>heap s) z)<|Leave Q r z) (ak<|slots s) (heap s)) (hs:bK b0 e H (ak<|slots s0) (heap s0):=by exact Z9):T P nt b0 (.loop body) Q e H:=T.lU h slots heap hs round
theorem tJ(h:A.bind K=aag w)(slots:S->G->List (Nat×AV))(heap:S->G->AH)
 (J:∀s g,K s=aag w->T P nt b0 y Q (ak<|slots s g) (heap s g)) (k:∀s,A=aag s->T P nt b0 x (Fg (Tp b0 (λ_=>True) (slots s)<|heap s) Q) e H):T P nt b0 (.seq x y) Q e H:=T.jF h (λ_ _=>True) slots heap (λs g h _=>J s g h) k
end
def Ww(P:Program)[Tab P](en:List<|Nat×AV)(H:AH):List ResultVar->Option (List AV)
 |[]=>aag []
 | .tmp t::l=>(match Jf en t,Ww P en H l with
  |some v,aag r=>aag (v::r)
  |_,_=>aah)
 | .cell ad t::l=>(match tq P t,Jf en ad,Ww P en H l with
  |some ⟨_,ag,n,_,_⟩,aag (.hp b ver s i j),aag r=>(match H[b]? with
   |some (aag ⟨pY,s',_,rows⟩)=>bif aeL pY ver&&aeL s' s then (match rows[i]? with
    |some row=>(match Ks ag n row j okV with
     |some (aah,a)=>aag (a::r)
     |_=>aah)
    |none=>aah) else aah
   |_=>aah)
  |_,_,_=>aah)
theorem Jg{P:Program}[Tab P]{en:List (Nat×AV)}{H:AH}:∀{l:List ResultVar}{vs:List AV},Ww P en H l=aag vs->ResL P (ak en) H l vs
 |[],vs,h=>by
  obtain rfl:=osl h;exact .nil
 | .tmp t::l,vs,h=>by
  unfold Ww at h
  split at h
  .rename_i v r hv hr;obtain rfl:=osl h;exact .cons (.tmp<|xx hv)<|Jg hr
  cases h
 | .cell ad t::l,vs,h=>by
  unfold Ww at h
  split at h
  .rename_i b ver s i j r hz hv hr
   split at h
   .rename_i pY s' _ rows hk
    cases hb:(aeL pY ver&&aeL s' s) with
    |true=>
     rw[hb] at h
     split at h
     .rename_i row hrow
      split at h
      .rename_i a ha;obtain⟨a',ha',h'⟩:=zV ha;obtain⟨_,rfl⟩:=eY h';obtain rfl:=osl h;rw[bae] at hb;exact .cons (.cell _ (mX hz).ty (xx hv) hk (aeN hb.1) (aeN hb.2) hrow ha')<|Jg hr
      cases h
     cases h
    |false=>grind
   cases h
  cases h
theorem Zk{P:Program}[Tab P]{fn:Func}{R:AV->AH->Prop}{en:List (Nat×AV)}{G:AH}{vs:List AV}(h:Ww P en G fn.results.toList=aag vs)(k:R (WN vs) G):Fin P fn R .ret (ak en) G:=.ret (Jg h) k
theorem Zl{P:Program}[Tab P]{fn:Func}{R:AV->AH->Prop}{en:List (Nat×AV)}{G:AH}{vs:List AV}(h:Ww P en G fn.results.toList=aag vs)(k:R (WN vs) G):Fin P fn R .normal (ak en) G:=.normal (Jg h) k
theorem gf{P:Prop}{α:Type}{x:Option α}{r:α}(h:x=some r)(c:x=some r->P:=by
 intro h;refine go h λf h=>?_;obtain rfl:=ZV h
 repeat first|refine pG ?_|refine pI ?_
 first|refine Zk rfl ?_|refine Zl rfl ?_
 repeat' first
   |exact .of_isF 9 _ rfl
   |exact .nil
   |exact .nil0
   |refine .cons ?_ ?_
   |exact Fz.own rfl rfl (by first|rfl|simp) (by first|assumption|exact λ_=>rfl|exact λx=>Bool.noConfusion x|exact λx=>List.eq_nil_of_length_eq_zero<|by simp_all) (λ_=>rfl)
   |refine .ifc ?_
   |refine .tupL ?_
   |refine .aggL ?_
   |refine Fz.fpL rfl rfl rfl ?_):P:=c h
theorem gk{P Q:Prop}{α:Type}{x:Option α}{r:α}(h:x=some r)(k:Q)(c:x=some r->Q->P:=by
 intro h k;refine go h λf h=>?_
 first
  |refine eK (c:=cI) rfl rfl ?_ (λ_=>rfl) (λ_=>rfl) rfl
  |refine eK (c:=cY) rfl rfl ?_ (λ_=>rfl) (λ_=>rfl) rfl
  |refine eK (c:=cS) rfl rfl ?_ (λ_=>rfl) (λ_=>rfl) rfl
  |refine eK (c:=cB) rfl rfl ?_ (λ_=>rfl) (λ_=>rfl) rfl
  |refine eK (c:=cL _) rfl rfl ?_ (λ_=>rfl) (λ_=>rfl) rfl
  |refine eK rfl rfl ?_ (λ_=>rfl) (λ_=>rfl) rfl
  |refine fK (c:=cI) rfl rfl rfl ?_ (λ_=>rfl) (λ_=>rfl) rfl
  |refine fK (c:=cY) rfl rfl rfl ?_ (λ_=>rfl) (λ_=>rfl) rfl
  |refine fK (c:=cS) rfl rfl rfl ?_ (λ_=>rfl) (λ_=>rfl) rfl
  |refine fK (c:=cB) rfl rfl rfl ?_ (λ_=>rfl) (λ_=>rfl) rfl
  |refine fK (c:=cL _) rfl rfl rfl ?_ (λ_=>rfl) (λ_=>rfl) rfl
  |refine fK rfl rfl rfl ?_ (λ_=>rfl) (λ_=>rfl) rfl
 refine go h λf' h=>?_
 revert h
 revert f'
 revert f
 exact k):P:=c h k
theorem gq{P Q:Prop}{α:Type}{x:Option α}{r:α}(h:x=some r)(k:Q)(c:x=some r->Q->P:=by
 intro h k;have f:=True.intro
 repeat first
  |refine eM rfl ?_
  |refine fM rfl rfl ?_
  |refine eN rfl ?_
  |refine eR rfl ?_
  |refine fA rfl rfl ?_
  |refine fN' rfl rfl ?_
  |refine TO.nil ?_
  |((first|refine jD h ?_|refine jW h ?_);clear h;intro g h;(first|refine eG rfl g ?_|refine fG' rfl rfl g ?_|refine hG rfl (by first|assumption|rfl) rfl g ?_|refine xG' rfl rfl rfl g ?_|refine tG' rfl rfl g ?_|refine WU rfl (by first|assumption|rfl) rfl rfl g ?_);replace f:=And.intro g f)
  |refine eG rfl (by first|assumption|decide) ?_
  |refine fG' rfl rfl (by first|assumption|decide) ?_
  |refine eA rfl ?_
  |refine eS rfl rfl rfl ?_
  |refine eL_ rfl rfl ?_
  |refine fL' rfl rfl rfl ?_
  |refine fS' rfl rfl rfl rfl ?_
  |(refine jL h ?_;clear h;intro g h;(first|refine eP rfl rfl rfl rfl rfl rfl (by first|assumption|exact λ_=>rfl|exact λx=>Bool.noConfusion x|exact λx=>List.eq_nil_of_length_eq_zero<|by simp_all) (λ_=>rfl) g ?_|refine eQ rfl rfl rfl rfl rfl rfl (λ_=>rfl) g ?_);replace f:=And.intro g f)
  |refine eU rfl rfl (by first|exact vO (by assumption) rfl|exact λx=>Bool.noConfusion x|assumption) ?_
  |refine eW rfl rfl rfl (by first|assumption|exact λ_=>rfl|exact λx=>Bool.noConfusion x|exact λx=>List.eq_nil_of_length_eq_zero<|by simp_all) (aS rfl<|by assumption) rfl ?_
  |refine fW' rfl rfl rfl rfl (by first|assumption|exact λ_=>rfl|exact λx=>Bool.noConfusion x|exact λx=>List.eq_nil_of_length_eq_zero<|by simp_all) (aS rfl<|by assumption) rfl ?_
  |refine hM rfl (by first|assumption|rfl) rfl ?_
  |refine hR rfl (by first|assumption|rfl) rfl ?_
  |refine hN rfl (by first|assumption|rfl) rfl ?_
  |refine hG rfl (by first|assumption|rfl) rfl (by first|assumption|decide) ?_
  |refine gS rfl (by first|assumption|rfl) ?_
  |refine gU rfl ?_
  |refine xM rfl rfl rfl ?_
  |refine xAs rfl rfl rfl ?_
  |refine xN' rfl rfl rfl ?_
  |refine xG' rfl rfl rfl (by first|assumption|decide) ?_
  |refine tM rfl rfl ?_
  |refine tA rfl rfl ?_
  |refine tN' rfl rfl ?_
  |refine tG' rfl rfl (by first|assumption|decide) ?_
  |refine tL' rfl rfl rfl ?_
  |refine tgM rfl (by first|assumption|rfl) rfl rfl ?_
  |refine Y4 rfl (by first|assumption|rfl) rfl rfl ?_
  |refine WU rfl (by first|assumption|rfl) rfl rfl (by first|assumption|decide) ?_
  |refine tgS rfl (by first|assumption|rfl) ?_
  |refine tgU rfl ?_
  |refine TF.nil ?_
  |refine TG.nil ?_
  |refine TX.nil ?_
  |((first|refine jD h ?_|refine jW h ?_);clear h;intro g h;(first|refine eG rfl (And.intro (by first|assumption|decide) g) ?_|refine fG' rfl rfl (And.intro (by first|assumption|decide) g) ?_);replace f:=And.intro g f)
  |((first|refine jD h ?_|refine jW h ?_);clear h;intro g h;(first|refine jD h ?_|refine jW h ?_);clear h;intro g' h;(first|refine eG rfl (And.intro g g') ?_|refine fG' rfl rfl (And.intro g g') ?_);replace f:=And.intro g'<|And.intro g f)
 revert h
 revert f
 exact k):P:=c h k
end
class Ct(P:Program){α:Type}(A:Option α)(g:outParam FuncId)(l:outParam (List AV))(e:outParam (α->AV)):Prop where
 c:∀{q},A=aag q->aF P g l (e q)
def opsE(en:List<|Nat×AV)(pK:List AV):List Operand->Option (List AV)
 |[]=>aag pK
 |x::l=>match opE en x with
  |some v=>(match opsE en pK l with
   |some r=>aag (v::r)
   |none=>aah)
  |none=>aah
theorem R9{en:List (Nat×AV)}{pK:List AV}:∀{l:List Operand}{r:List AV},opsE en pK l=aag r->l.map (rho<|ak en)++pK=r
 |[],r,h=>osl h
 |x::l,r,h=>by
  unfold opsE at h
  split at h
  .rename_i v hv
   split at h
   .rename_i r' hr;obtain rfl:=osl h;rw[<- R9 hr,<- fS hv]
    rfl
   cases h
  cases h
def OG(en:List<|Nat×AV)(cl:Call):Option (FuncId×List AV):=match cl.callee with
 | .value f=>(match opE en f with
  |some (.fn (.func g) pK)=>(match opsE en pK cl.args.toList with
   |some l=>aag (g,l)
   |none=>aah)
  |_=>aah)
 |_=>aah
theorem FB{P:Program}{en:List (Nat×AV)}{cl:Call}{g:FuncId}{l:List AV}{r:AV}(h:OG en cl=aag (g,l))(hp:aF P g l r)(hF:l.all (isF 9)=aae):ZT P (rho<|ak en) (.call cl) r:=by
 unfold OG at h
 split at h
 .rename_i f hf
  split at h
  .rename_i g' pK hg
   split at h
   .rename_i l' hl;obtain⟨rfl,rfl⟩:=aeY<|osl h;exact ZT.call hf (fS hg) (R9 hl) hp hF
   cases h
  cases h
 cases h
section
variable{P:Program}{nt b0:Nat}{Q:Exit->Env->AH->Prop}{H:AH}{ops:Array Oper}{l:List Oper}{d:Tmp}{ty:TypeId}{pos:String}{af:Array Edge}{en:List (Nat×AV)}{fp:Nat->Fp}{i j:Nat}{K:Env->AH->Prop}{cl:Call}{g:FuncId}{r:List AV}{α β:Type}{A:Option α}{v:α->AV}{k:α->Option β}{w:β}{u q:Bool}{cls:Nat->Xc}{lx:List Nat}
theorem cqO(h:A.bind k=aag w)[c:Ct P A g r v](hc:OG en cl=aag (g,r))(hF:r.all (isF 9)=aae)(J:∀s,A=aag s->k s=aag w->TO P nt b0 ops l Q (ak ((d,v s)::en)) H):TO P nt b0 ops (⟨aag d,.call cl,ty,pos,af,aah⟩::l) Q (ak en) H:=
 jB h λs h1 h2=>oN (FB hc (c.c h1) hF) (J s h1 h2)
theorem cqG(h:A.bind k=aag w)[c:Ct P A g r v](hc:OG en cl=aag (g,r))(hy:fe ops.toList (ak en) j= .v (.bool q))(hq:q=u)(hF:r.all (isF 9)=aae)(J:∀s,A=aag s->k s=aag w->TO P nt b0 ops l Q (ak ((d,v s)::en)) H):TO P nt b0 ops (⟨aag d,.call cl,ty,pos,af,aag (j,u)⟩::l) Q (ak en) H:=
 jB h λs h1 h2=>gN hy hq (FB hc (c.c h1) hF) (J s h1 h2)
theorem cqF(h:A.bind k=aag w)[c:Ct P A g r v](hc:OG en cl=aag (g,r))(hF:r.all (isF 9)=aae)(hf:fp i=([],aaf))(J:∀s,A=aag s->k s=aag w->TF P fp (i+1) l K (ak ((d,v s)::en)) H):TF P fp i (⟨aag d,.call cl,ty,pos,af,aah⟩::l) K (ak en) H:=
 jB h λs h1 h2=>fN hf (FB hc (c.c h1) hF) (J s h1 h2)
theorem cqT(h:A.bind k=aag w)[c:Ct P A g r v](hc:OG en cl=aag (g,r))(hF:r.all (isF 9)=aae)(hf:fp i=([],aaf))(J:∀s,A=aag s->k s=aag w->TG P ops fp (i+1) l K (ak ((d,v s)::en)) H):TG P ops fp i (⟨aag d,.call cl,ty,pos,af,aah⟩::l) K (ak en) H:=
 jB h λs h1 h2=>tN hf (FB hc (c.c h1) hF) (J s h1 h2)
theorem ifQ{A B:Option β}{e:Env}(h:(bif q then A else B)=aag w)(h1:q=aae->A=aag w->TO P nt b0 ops l Q e H)(h2:q=aaf->B=aag w->TO P nt b0 ops l Q e H):TO P nt b0 ops l Q e H:=(DY h).elim (λh=>h1 h.1 h.2) λh=>h2 h.1 h.2
theorem eFa{t:TypeId}{x:Operand}{cs:List AV}(hx:opE en x=aag (.agg cs))(hn:(aeM 0 cs.length)=aae)(hF:cs.all (isF 9)=aae)(k:TO P nt b0 ops l Q (ak ((d,.fp cs 0)::en)) H):TO P nt b0 ops (⟨aag d,.box t x,ty,pos,af,aah⟩::l) Q (ak en) H:=eF (by rw[fS hx];rfl) hn hF k
theorem eFb{t:TypeId}{x:Operand}{a:AV}(hx:opE en x=aag a)(ho:a.cells=aag [a])(hF:isF 9 a=aae)(k:TO P nt b0 ops l Q (ak ((d,.fp [a] 0)::en)) H):TO P nt b0 ops (⟨aag d,.box t x,ty,pos,af,aah⟩::l) Q (ak en) H:=eF (by rw[fS hx];exact ho) rfl (by simp[hF]) k
theorem gL'[Tab P]{op:Op}{b ver pY:Nat}{a:AV}(hy:fe ops.toList (ak en) j= .v (.bool q))(hq:q=u)(h:evL P (rho<|ak en) H op=aag (b,pY,ver,a))(hv:pY=ver)(k:TO P nt b0 ops l Q (ak ((d,a)::en)) H):TO P nt b0 ops (⟨aag d,op,ty,pos,af,aag (j,u)⟩::l) Q (ak en) H:=gA hy hq (Kt h hv H .refl) k
theorem ZJ[Tab P]{op:Op}{b ver pY:Nat}{a:AV}(hy:fe ops.toList (ak en) j= .v (.bool q))(hq:q=u)(h:evL P (rho<|ak en) H op=aag (b,pY,ver,a))(hv:pY=ver)(hf:fp i=([b],aaf))(k:TG P ops fp (i+1) l K (ak ((d,a)::en)) H):TG P ops fp i (⟨aag d,op,ty,pos,af,aag (j,u)⟩::l) K (ak en) H:=tgR hy hq [b] hf (λG hG=>Kt h hv G hG) k
theorem cdT{x:Operand}{e:Env}{t f:Code}(hc:rho e x= .v (.bool aae))(k:T P nt b0 t Q e H):T P nt b0 (.cond x t f) Q e H:=T.cond hc (λ_=>k) λq=>by cases q
theorem cdF{x:Operand}{e:Env}{t f:Code}(hc:rho e x= .v (.bool aaf))(k:T P nt b0 f Q e H):T P nt b0 (.cond x t f) Q e H:=T.cond hc (λq=>by cases q) λ_=>k
end
section
variable{α β γ:Type}{G:Prop}{w:β}{q:Bool}{A B:Option α}{K:α->Option β}
theorem Zm(h:(bif q then A else B).bind K=aag w):(bif q then A.bind K else B.bind K)=aag w:=by cases q <;> exact h
theorem isB(h:A.bind K=aag w):A.bind K=aag w:=h
theorem isS{A:Option (α ⊕ β)}(h:sumK A K=aag w):sumK A K=aag w:=h
theorem Yg{a:α}(h:(aag a).bind K=aag w):K a=aag w:=h
theorem Yh{C:Option γ}{k:γ->Option α}(h:(C.bind k).bind K=aag w):(C.bind λx=>(k x).bind K)=aag w:=by cases C <;> exact h
theorem nGd(h:(gd q A).bind K=aag w):gd q (A.bind K)=aag w:=by cases q <;> exact h
theorem ZK{A B:Option (α ⊕ β)}(h:sumK (bif q then A else B) K=aag w):(bif q then sumK A K else sumK B K)=aag w:=by cases q <;> exact h
theorem ZL{a:α}(h:sumK (aag<|.inl a) K=aag w):K a=aag w:=h
theorem ZM{a:β}(h:sumK (aag<|.inr a) K=aag w):aag a=aag w:=h
theorem Y5{C:Option γ}{k:γ->Option (α ⊕ β)}(h:sumK (C.bind k) K=aag w):(C.bind λx=>sumK (k x) K)=aag w:=by cases C <;> exact h
theorem sGd{A:Option (α ⊕ β)}(h:sumK (gd q A) K=aag w):gd q (sumK A K)=aag w:=by cases q <;> exact h
end
theorem rE{b0:Nat}{S E G:Type}{slots:S->G->List (Nat×AV)}{heap:S->G->AH}{a:S}{z:S ⊕ E}{e:Env}{H:AH}(h:aag (Sum.inl a)=aag z)(g:G)(c:bK b0 e H (ak<|slots a g) (heap a g):=by exact Z9):Ec b0 (λ_ _=>True) slots heap z e H:=⟨a,g,(osl h).symm,trivial,c⟩
section
attribute [local irreducible] T TO TF TG TX ZT EvA
theorem az{P:Prop}{α:Type}{x:Option α}{r:α}(h:x=some r)(c:x=some r->P:=by
 intro h
 try subst_vars
 repeat' first
  |refine eM rfl ?_
  |refine fM rfl rfl ?_
  |refine eN rfl ?_
  |refine eR rfl ?_
  |refine fA rfl rfl ?_
  |refine fN' rfl rfl ?_
  |refine T.sr ?_
  |refine TO.nil ?_
  |((first|refine jD h ?_|refine jW h ?_);clear h;intro g h;(first|refine eG rfl g ?_|refine fG' rfl rfl g ?_|refine hG rfl (by first|assumption|rfl) rfl g ?_|refine xG' rfl rfl rfl g ?_|refine tG' rfl rfl g ?_|refine WU rfl (by first|assumption|rfl) rfl rfl g ?_))
  |(refine cqO h rfl rfl ?_;clear h;intro v cv h)
  |refine cdT rfl ?_
  |refine cdF rfl ?_
  |(refine T.ifH rfl h ?_ ?_ <;> clear h <;> intro q h)
  |refine eG rfl (by first|assumption|decide) ?_
  |refine fG' rfl rfl (by first|assumption|decide) ?_
  |refine eA rfl ?_
  |refine eS rfl rfl rfl ?_
  |refine eL_ rfl rfl ?_
  |refine fL' rfl rfl rfl ?_
  |refine fS' rfl rfl rfl rfl ?_
  |(refine cqF h rfl rfl rfl ?_;clear h;intro v cv h)
  |(refine cqG h rfl rfl (by first|assumption|rfl) rfl ?_;clear h;intro v cv h)
  |(refine jL h ?_;clear h;intro g h;(first|refine eP rfl rfl rfl rfl rfl rfl (by first|assumption|exact λ_=>rfl|exact λx=>Bool.noConfusion x|exact λx=>List.eq_nil_of_length_eq_zero<|by simp_all) (λ_=>rfl) g ?_|refine eQ rfl rfl rfl rfl rfl rfl (λ_=>rfl) g ?_))
  |refine eU rfl rfl (by first|exact vO (by assumption) rfl|exact λx=>Bool.noConfusion x|assumption) ?_
  |refine eW rfl rfl rfl (by first|assumption|exact λ_=>rfl|exact λx=>Bool.noConfusion x|exact λx=>List.eq_nil_of_length_eq_zero<|by simp_all) (aS rfl<|by assumption) rfl ?_
  |refine fW' rfl rfl rfl rfl (by first|assumption|exact λ_=>rfl|exact λx=>Bool.noConfusion x|exact λx=>List.eq_nil_of_length_eq_zero<|by simp_all) (aS rfl<|by assumption) rfl ?_
  |refine hM rfl (by first|assumption|rfl) rfl ?_
  |refine hR rfl (by first|assumption|rfl) rfl ?_
  |refine hN rfl (by first|assumption|rfl) rfl ?_
  |refine hG rfl (by first|assumption|rfl) rfl (by first|assumption|decide) ?_
  |refine hPT rfl (by first|assumption|rfl) rfl ?_
  |refine hPF rfl (by first|assumption|rfl) rfl ?_
  |refine gL' rfl (by first|assumption|rfl) rfl rfl ?_
  |refine gS rfl (by first|assumption|rfl) ?_
  |refine gU rfl ?_
  |refine tM rfl rfl ?_
  |refine tA rfl rfl ?_
  |refine tN' rfl rfl ?_
  |refine tG' rfl rfl (by first|assumption|decide) ?_
  |refine tL' rfl rfl rfl ?_
  |refine tgM rfl (by first|assumption|rfl) rfl rfl ?_
  |refine Y4 rfl (by first|assumption|rfl) rfl rfl ?_
  |refine WU rfl (by first|assumption|rfl) rfl rfl (by first|assumption|decide) ?_
  |refine ZJ rfl (by first|assumption|rfl) rfl rfl rfl ?_
  |refine tgS rfl (by first|assumption|rfl) ?_
  |refine tgU rfl ?_
  |refine tPT rfl (by first|assumption|rfl) rfl rfl ?_
  |refine tPF rfl (by first|assumption|rfl) rfl rfl ?_
  |refine TG.nil ?_
  |refine TX.nil ?_
  |(refine cqT h rfl rfl rfl ?_;clear h;intro v cv h)
  |refine eFa rfl rfl rfl ?_
  |refine eFb rfl rfl rfl ?_
  |refine T.skip ?_
  |refine T.block ?_
  |refine T.region ?_
  |refine T.ret ?_
  |refine TF.nil ?_
  |refine T.seq ?_
  |(refine T.drawF (λ_=>([],false)) (by decide +kernel) (by decide +kernel) ?_)
  |with_reducible (replace h:=Yg h)
  |with_reducible (replace h:=ZL h)
  |with_reducible (replace h:=ZM h)
  |with_reducible (replace h:=Yh h)
  |with_reducible (replace h:=Y5 h)
  |((fail_if_success with_reducible (have k:=isB h));replace h:=isB h)
  |((fail_if_success with_reducible (have k:=isS h));replace h:=isS h)
  |(replace h:=nGd h)
  |(replace h:=Zm h)
  |(replace h:=sGd h)
  |(replace h:=ZK h)
  |(refine ifQ h ?_ ?_ <;> clear h <;> intro q h)
  |(obtain rfl:=ZV h;exact SV rfl rfl rfl)
  | (obtain rfl:=ZV h;(first | refine Zk rfl ?_ | refine Zl rfl ?_);(repeat' first
   |exact .of_isF 9 _ rfl
   |exact .nil
   |exact .nil0
   |refine .cons ?_ ?_
   |exact Fz.own rfl rfl (by first|rfl|simp) (by first|assumption|exact λ_=>rfl|exact λx=>Bool.noConfusion x|exact λx=>List.eq_nil_of_length_eq_zero<|by simp_all) (λ_=>rfl)
   |refine .ifc ?_
   |refine .tupL ?_
   |refine .aggL ?_
   |refine Fz.fpL rfl rfl rfl ?_);done)
  |exact lE h Z9
  |(obtain rfl:=ZV h;exact⟨(),trivial,Z9⟩)
  |(obtain rfl:=ZV h;exact⟨(),(),by assumption,trivial,Z9⟩)
  |(obtain rfl:=ZV h;exact⟨_,trivial,Z9⟩)
  |(obtain rfl:=ZV h;exact⟨_,(_,_),rfl,by first|assumption|nofun,Z9⟩)
  |(obtain rfl:=ZV h;exact⟨(_,_),by first|assumption|nofun,Z9⟩)
  |(obtain⟨_,_⟩:=gh)
  |(obtain rfl:=ZV h;rename Qa _ _ _=>k;obtain rfl:=(show _=_ from k);exact SV rfl rfl rfl)
  |(obtain rfl:=ZV h;rename Qa _ _ _=>k;replace h:=congrArg some (show _=_ from k);exact gf h)
  |(obtain rfl:=ZV h;exact⟨_,(),by assumption,trivial,Z9⟩)
  |exact rE h _ Z9
  |exact cU h Z9
  |(refine lX h ?_;clear h;intro h)
  |refine T.exit ?_
  |refine pG ?_
  |refine pI ?_):P:=c h
end
section
variable{P:Program}{f:FuncId}{fn:Func}{l:List AV}{α:Type}{A:Option α}{e:α->AV}
def bdO(fn:Func):Code:=match fn.body with
 |some b=>b
 |none=>.skip
theorem ctp(hf:P.funcs[f]?=aag fn)(h:∀q,A=aag q->T P fn.ntmps 0 (bdO fn) (Fin P fn λr0 G=>Fz 0 G r0<|e q) (ak<|Vy 0 l) [])(hb:fn.body=aag (bdO fn):=by rfl)(hk:okF P f fn (bdO fn)=aae:=by kernel_rfl)(hn:aeQ l.length fn.ntmps=aae:=by rfl):Ct P A f l e:=
 ⟨λhq=>pM hf hb hk hn<|h _ hq⟩
end
section
variable{P:Program}{nt b0:Nat}{Q:Exit->Env->AH->Prop}{H:AH}{en kv:List (Nat×AV)}{S E G W:Type}{body x y:Code}{r:E}{step:S->Option (S ⊕ E)}{s0:S}{w:W}{A:Option S}{K:S->Option W}{ops:Array Oper}{l:List Oper}
theorem kL(ks:List Nat)(h:aA step s0=aag r)(g0:G)(inv:S->G->Prop)(slots:S->G->List (Nat×AV)->List (Nat×AV))(heap:S->G->AH)(hi:inv s0 g0)
 (round:∀s g z,step s=aag z->inv s g->T P nt b0 body (Fg (Ec b0 inv (λs g=>slots s g kv) heap z)<|Leave Q r z) (ak<|slots s g kv) (heap s g)) (hk:zw en ks=aag kv:=by rfl) (hs:bK b0 (ak en) H (ak<|slots s0 g0 kv) (heap s0 g0):=by exact Z9):T P nt b0 (.loop body) Q (ak en) H:=tL h g0 inv (λs g=>slots s g kv) heap hi round hs
theorem kT(ks:List Nat)(h:aA step s0=aag r)(g0:G)(slots:S->G->List (Nat×AV)->List (Nat×AV))(heap:S->G->AH)
 (round:∀s g z,step s=aag z->T P nt b0 body (Fg (Ec b0 (λ_ _=>True) (λs g=>slots s g kv) heap z)<|Leave Q r z) (ak<|slots s g kv) (heap s g)) (hk:zw en ks=aag kv:=by rfl) (hs:bK b0 (ak en) H (ak<|slots s0 g0 kv) (heap s0 g0):=by exact Z9):T P nt b0 (.loop body) Q (ak en) H:=tT h g0 (λs g=>slots s g kv) heap round hs
theorem kU(ks:List Nat)(h:aA step s0=aag r)(slots:S->List (Nat×AV)->List (Nat×AV))(heap:S->AH)
 (round:∀s z,step s=aag z->T P nt b0 body (Fg (Ec b0 (λ_ (_:Unit)=>True) (λs _=>slots s kv) (λs _=>heap s) z)<|Leave Q r z) (ak<|slots s kv) (heap s)) (hk:zw en ks=aag kv:=by rfl) (hs:bK b0 (ak en) H (ak<|slots s0 kv) (heap s0):=by exact Z9):T P nt b0 (.loop body) Q (ak en) H:=tU h (λs=>slots s kv) heap round hs
theorem kJ(ks:List Nat)(h:A.bind K=aag w)(slots:S->G->List (Nat×AV)->List (Nat×AV))(heap:S->G->AH)
 (J:∀s g,K s=aag w->T P nt b0 y Q (ak<|slots s g kv) (heap s g)) (k:∀s,A=aag s->T P nt b0 x (Fg (Tp b0 (λ_=>True) (λg=>slots s g kv)<|heap s) Q) (ak en) H) (hk:zw en ks=aag kv:=by rfl):T P nt b0 (.seq x y) Q (ak en) H:=tJ h (λs g=>slots s g kv) heap J k
theorem kF(ks:List Nat)(h:A.bind K=aag w)(inv:S->G->Prop)(slots:S->G->List (Nat×AV)->List (Nat×AV))(heap:S->G->AH)
 (J:∀s g,K s=aag w->inv s g->T P nt b0 y Q (ak<|slots s g kv) (heap s g)) (k:∀s,A=aag s->T P nt b0 x (Fg (Tp b0 (inv s) (λg=>slots s g kv)<|heap s) Q) (ak en) H) (hk:zw en ks=aag kv:=by rfl):T P nt b0 (.seq x y) Q (ak en) H:=T.jF h inv (λs g=>slots s g kv) heap J k
theorem kV(ks:List Nat)(h:A.bind K=aag w)(slots:S->List (Nat×AV)->List (Nat×AV))(heap:S->AH)
 (J:∀s,K s=aag w->T P nt b0 y Q (ak<|slots s kv) (heap s)) (k:∀s,A=aag s->T P nt b0 x (Fg (Tp b0 (λ_:Unit=>True) (λ_=>slots s kv) λ_=>heap s) Q) (ak en) H) (hk:zw en ks=aag kv:=by rfl):T P nt b0 (.seq x y) Q (ak en) H:=T.jU h (λs=>slots s kv) heap J k
theorem kS(ks:List Nat){A:Option (S ⊕ W)}(h:sumK A K=aag w)(slots:S->List (Nat×AV)->List (Nat×AV))(heap:S->AH)
  (J:∀s,K s=aag w->T P nt b0 y Q (ak<|slots s kv) (heap s)) (k:∀(K':S->Option W)z,A=aag z->Qa K' w z->T P nt b0 x (Fg (Cut b0 (λs=>K' s=aag w) (λ_ (_:Unit)=>True) (λs _=>slots s kv) λs _=>heap s) Q) (ak en) H) (hk:zw en ks=aag kv:=by rfl):T P nt b0 (.seq x y) Q (ak en) H:=by
 obtain⟨K',rfl,z,h,hz⟩:=II h;exact T.join (λs=>K' s=aag w) (λ_ (_:Unit)=>True) (λs _=>slots s kv) (λs _=>heap s) (λs _ h _=>J s h)<|k K' z h hz
theorem kB(ks:List Nat){q:Bool}{A B:Option S}(h:(bif q then A else B).bind K=aag w)(n:Nat)(slots:S->List (Nat×AV)->List (Nat×AV))(heap:S->AH)
 (h1:∀s,q=aae->A=aag s->(∀e H,bK b0 e H (ak<|slots s kv) (heap s)->TO P nt b0 ops (l.drop n) Q e H)->TO P nt b0 ops l Q (ak en) H)
 (h2:∀s,q=aaf->B=aag s->(∀e H,bK b0 e H (ak<|slots s kv) (heap s)->TO P nt b0 ops (l.drop n) Q e H)->TO P nt b0 ops l Q (ak en) H)
 (J:∀s,K s=aag w->TO P nt b0 ops (l.drop n) Q (ak<|slots s kv) (heap s)) (hk:zw en ks=aag kv:=by rfl):TO P nt b0 ops l Q (ak en) H:=TO.jB h n (λs=>slots s kv) heap h1 h2 J
theorem qU(ks:List Nat)(h:aA step s0=aag r)(slots:S->List (Nat×AV)->List (Nat×AV))
 (round:∀s z,step s=aag z->T P nt b0 body (Fg (Ec b0 (λ_ (_:Unit)=>True) (λs _=>slots s kv) (λ_ _=>H) z)<|Leave Q r z) (ak<|slots s kv) H) (hk:zw en ks=aag kv:=by rfl) (hs:bK b0 (ak en) H (ak<|slots s0 kv) H:=by exact Z9):T P nt b0 (.loop body) Q (ak en) H:=tU h (λs=>slots s kv) (λ_=>H) round hs
theorem qV(ks:List Nat)(h:A.bind K=aag w)(slots:S->List (Nat×AV)->List (Nat×AV))
 (J:∀s,K s=aag w->T P nt b0 y Q (ak<|slots s kv) H) (k:∀s,A=aag s->T P nt b0 x (Fg (Tp b0 (λ_:Unit=>True) (λ_=>slots s kv) λ_=>H) Q) (ak en) H) (hk:zw en ks=aag kv:=by rfl):T P nt b0 (.seq x y) Q (ak en) H:=T.jU h (λs=>slots s kv) (λ_=>H) J k
theorem qS(ks:List Nat){A:Option (S ⊕ W)}(h:sumK A K=aag w)(slots:S->List (Nat×AV)->List (Nat×AV))
 (J:∀s,K s=aag w->T P nt b0 y Q (ak<|slots s kv) H) (k:∀(K':S->Option W)z,A=aag z->Qa K' w z->T P nt b0 x (Fg (Cut b0 (λs=>K' s=aag w) (λ_ (_:Unit)=>True) (λs _=>slots s kv) λ_ _=>H) Q) (ak en) H) (hk:zw en ks=aag kv:=by rfl):T P nt b0 (.seq x y) Q (ak en) H:=kS ks h slots (λ_=>H) J k hk
theorem qB(ks:List Nat){q:Bool}{A B:Option S}(h:(bif q then A else B).bind K=aag w)(n:Nat)(slots:S->List (Nat×AV)->List (Nat×AV))
 (h1:∀s,q=aae->A=aag s->(∀e H',bK b0 e H' (ak<|slots s kv) H->TO P nt b0 ops (l.drop n) Q e H')->TO P nt b0 ops l Q (ak en) H)
 (h2:∀s,q=aaf->B=aag s->(∀e H',bK b0 e H' (ak<|slots s kv) H->TO P nt b0 ops (l.drop n) Q e H')->TO P nt b0 ops l Q (ak en) H)
 (J:∀s,K s=aag w->TO P nt b0 ops (l.drop n) Q (ak<|slots s kv) H) (hk:zw en ks=aag kv:=by rfl):TO P nt b0 ops l Q (ak en) H:=TO.jB h n (λs=>slots s kv) (λ_=>H) h1 h2 J
end
theorem wkH{en l:List (Nat×AV)}{t b ver s n n':Nat}{g:Bool}(hv:Jf en t=aag (hS g b ver s n))(e:n=n')(w:GX (ak en)<|ak l):GX (ak en) (ak ((t,hS g b ver s n')::l)):=ZR (by rw[xx hv,e]) w
section
attribute [local irreducible] T TO TF TG TX ZT EvA
theorem stW{p:Prop}(c:p:=by
 refine K5 rfl ?_
 repeat' first
  |exact ZQ
  |refine ZR rfl ?_
  |refine wkH rfl (by simp) ?_):p:=c
theorem aj{P:Prop}{α:Type}{x:Option α}{r:α}{J:Prop}(h:x=some r)(j:J)(c:x=some r->J->P:=by
 intro h j
 repeat' first
  |((with_reducible obtain rfl:=ZV h);exact j _ _<|kw rfl rfl)
  |refine gL' rfl (by first|assumption|rfl) rfl rfl ?_
  |refine gS rfl (by first|assumption|rfl) ?_
  |refine gU rfl ?_
  |refine hM rfl (by first|assumption|rfl) rfl ?_
  |refine hR rfl (by first|assumption|rfl) rfl ?_
  |refine hN rfl (by first|assumption|rfl) rfl ?_
  |((first|refine jD h ?_|refine jW h ?_);clear h;intro g h;(first|refine hG rfl (by first|assumption|rfl) rfl g ?_|refine eG rfl g ?_))
  |refine hG rfl (by first|assumption|rfl) rfl (by first|assumption|decide) ?_
  |(refine cqG h rfl rfl (by first|assumption|rfl) rfl ?_;clear h;intro v cv h)
  |refine hPT rfl (by first|assumption|rfl) rfl ?_
  |refine hPF rfl (by first|assumption|rfl) rfl ?_
  |refine eM rfl ?_
  |refine eN rfl ?_
  |refine eR rfl ?_
  |(refine cqO h rfl rfl ?_;clear h;intro v cv h)
  |with_reducible (replace h:=Yg h)
  |with_reducible (replace h:=Yh h)
  |(replace h:=nGd h)
  |(replace h:=Zm h)
  |(refine ifQ h ?_ ?_ <;> clear h <;> intro q h)):P:=c h j
theorem gy{P Q:Prop}{α:Type}{x:Option α}{r:α}(h:x=some r)(k:Q)(c:x=some r->Q->P:=by
 intro h k;refine go h λ_ h=>?_
 first
  |refine T.ifH rfl h ?_ (λ_ h=>by clear k;exact az h)
  |(refine T.seq ?_;refine go h λ_ h=>?_;refine T.ifH rfl h ?_ λ_ h=>by clear k;exact az h)
 exact k):P:=c h k
theorem gx{P Q:Prop}{α:Type}{x:Option α}{r:α}(h:x=some r)(k:Q)(c:x=some r->Q->P:=by
 intro h k;refine go h λ_ h=>?_
 first
  |refine T.ifH rfl h (λ_ h=>by clear k;exact az h) ?_
  |(refine T.seq ?_;refine go h λ_ h=>?_;refine T.ifH rfl h (λ_ h=>by clear k;exact az h) ?_)
 exact k):P:=c h k
theorem gC{P Q:Prop}{α:Type}{x:Option α}{r:α}(h:x=some r)(k:Q)(c:x=some r->Q->P:=by
 intro h k;refine go h λ_ h=>?_
 first
  |refine cqO h rfl rfl ?_
  |refine cqF h rfl rfl rfl ?_
  |refine cqT h rfl rfl rfl ?_
  |(refine T.seq ?_;refine go h λ_ h=>?_;refine cqO h rfl rfl ?_)
 clear h;intro v c h;clear c;refine go h λc e=>?_;replace h:=e;clear e c
 revert h
 revert v
 exact k):P:=c h k
theorem gD{P Q:Prop}{α:Type}{x:Option α}{r:α}(h:x=some r)(k:Q)(c:x=some r->Q->P:=by
 intro h k;refine go h λ_ h=>?_
 first
  |refine cqO h rfl rfl ?_
  |refine cqF h rfl rfl rfl ?_
  |refine cqT h rfl rfl rfl ?_
  |(refine T.seq ?_;refine go h λ_ h=>?_;refine cqO h rfl rfl ?_)
 clear h;intro v c h;clear c
 revert h
 revert v
 exact k):P:=c h k
section
variable{P:Program}{nt b0:Nat}{Q:Exit->Env->AH->Prop}{H:AH}{en kv:List (Nat×AV)}{S W:Type}{w:W}{K:S->Option W}{ops:Array Oper}{l:List Oper}
theorem gB(ks:List Nat){q:Bool}{A B:Option S}(h:(bif q then A else B).bind K=aag w)(n:Nat)(slots:S->List (Nat×AV)->List (Nat×AV))
 (J:∀s,K s=aag w->TO P nt b0 ops (l.drop n) Q (ak<|slots s kv) H) (hk:zw en ks=aag kv:=by rfl)
 (h1:∀s,q=aae->A=aag s->(∀e H',bK b0 e H' (ak<|slots s kv) H->TO P nt b0 ops (l.drop n) Q e H')->TO P nt b0 ops l Q (ak en) H:=by intro s q h j;exact aj h j)
 (h2:∀s,q=aaf->B=aag s->(∀e H',bK b0 e H' (ak<|slots s kv) H->TO P nt b0 ops (l.drop n) Q e H')->TO P nt b0 ops l Q (ak en) H:=by intro s q h j;exact aj h j):TO P nt b0 ops l Q (ak en) H:=qB ks h n slots h1 h2 J hk
end
end
def bY(p:List<|List ZW):List (List Ins):=p.map λr=>r.map cm
def CC(f:Ins->Bool)(p:List<|List ZW)(i:Nat):Nat:=Fs f<|(bY p).take i
def Kw(f:Ins->Bool)(r:List ZW)(k:Nat):Nat:=((r.map cm).take k).countP f
section
variable{p:List (List ZW)}{f:Ins->Bool}
theorem Sa{α:Type}[Inhabited α]{l:List α}{k:Nat}(h:k<l.length):l.getD k aad=l[k]:=by simp[List.getD,h]
theorem Ut{α β:Type}[Inhabited α]{e:α->β}{l:List α}{i:Nat}(h:i<l.length):(l.map e)[i]'(by simpa using h)=e (l.getD i aad):=by
 simp[List.getD,h]
theorem zx{i:Nat}(h:i<p.length):CC f p (i+1)=CC f p i+Kw f (p.getD i aad) (p.getD i aad).length:=by
 unfold CC;rw[Ak _ _ _ (by simpa [bY] using h)];unfold bY Kw;rw[Ut h,ae6 (l:=(p.getD i aad).map cm) (by simp)]
theorem zy{r:List ZW}{k:Nat}(h:k<r.length):Kw f r (k+1)=Kw f r k+if f (cm<|r.getD k aad) then 1 else 0:=by
 unfold Kw;rw[Ee _ _ _ (by simpa using h),Ut h]
theorem BU(ht:total p<=1048576){i k:Nat}(h:i<p.length):CC f p i+Kw f (p.getD i aad) k<=1048576:=by
 have h1:=JR f (bY p) i k (by simpa [bY] using h);unfold bY at h1;rw[yT,Ut h] at h1;exact aeR h1 ht
theorem BV:CC f p p.length=Fs f (bY p):=by
 unfold CC;rw[ae6 (by simp[bY])]
theorem U8(x:ZW):cT x=aag (rdB<|cm x):=by
 unfold cT rdB rdO cm;cases x.Op==1 <;> rfl
theorem U9(x:ZW):cF x=aag (wrB<|cm x):=by
 unfold cF wrB wrO cm;cases x.Op==2 <;> cases x.Op==3 <;> rfl
theorem Yi(x:ZW):bN x=aag (rdB<|cm x):=U8 x
theorem Yj(x:ZW):bF x=aag (wrB<|cm x):=U9 x
theorem Dl(x a b:Int):cz x a b=aag (aai (a<=x)&&aai (x<=b)):=by
 unfold cz;cases aai (a<=x) <;> rfl
theorem Yk(x b:Int):eO x b=aag (Z0 x b):=Dl x 0 b
theorem Sb(x:ZW):lV x=aag (pQ<|cm x):=by
 obtain⟨o,a,b,c⟩:=x;unfold lV pQ cm;simp only[Dl];change _=aag (if o=1\/o=3 then Z0 a 2&&Z0 b 2&&c==0 else if o=2 then Z0 a 2&&b==0&&Z0 c 3 else if o=4 then a==0&&b==0&&c==0 else if o=5 then Z0 a 2&&Z0 b 2&&Z0 c 3 else aaf);have h0:∀n:Int,(aai (0<=n)&&aai (n<=2))=Z0 n 2:=λ_=>rfl;have h3:∀n:Int,(aai (0<=n)&&aai (n<=3))=Z0 n 3:=λ_=>rfl;simp only[h0,h3];have i2:Z0 0 2=aae:=rfl;have i3:Z0 0 3=aae:=rfl;have ne:∀n:Int,¬ n=0->(n==0)=aaf:=λn h=>by simpa using h
 by_cases h1:o=1
 .subst h1;by_cases hc:c=0
  .subst hc;cases Z0 a 2 <;> cases Z0 b 2 <;> simp[sumK,i3]
  simp[sumK,ne _ hc]
 by_cases h3:o=3
 .subst h3;by_cases hc:c=0
  .subst hc;cases Z0 a 2 <;> cases Z0 b 2 <;> simp[sumK,i3]
  simp[sumK,ne _ hc]
 by_cases h2:o=2
 .subst h2;by_cases hc:b=0
  .subst hc;cases Z0 a 2 <;> cases Z0 c 3 <;> simp[sumK,i2]
  simp[sumK,ne _ hc]
 by_cases h4:o=4
 .subst h4;by_cases ha:a=0
  .subst ha;by_cases hb:b=0
   .subst hb;by_cases hc:c=0
    .subst hc;rfl
    simp[sumK,ne _ hc]
   simp[sumK,ne _ hb]
  simp[sumK,ne _ ha]
 by_cases h5:o=5
 .subst h5;cases Z0 a 2 <;> cases Z0 b 2 <;> cases Z0 c 3 <;> simp[sumK]
 have n:∀k:Int,¬ o=k->(o==k)=aaf:=λk h=>by simpa using h
 simp[sumK,n _ h1,n _ h2,n _ h3,n _ h4,n _ h5,h1,h2,h3,h4,h5]
theorem Sc(x:ZW):iL x=aag (pQ<|cm x):=by
 obtain⟨o,a,b,c⟩:=x;unfold iL pQ cm;simp only[Yk]
 by_cases h1:o=1
 .subst h1;cases Z0 a 2 <;> cases Z0 b 2 <;> rfl
 by_cases h3:o=3
 .subst h3;cases Z0 a 2 <;> cases Z0 b 2 <;> rfl
 by_cases h2:o=2
 .subst h2;cases Z0 a 2 <;> cases hb:(b==0) <;> simp_all <;> rfl
 by_cases h4:o=4
 .subst h4;cases ha:(a==0) <;> cases hb:(b==0) <;> simp_all <;> rfl
 by_cases h5:o=5
 .subst h5;cases Z0 a 2 <;> cases Z0 b 2 <;> cases Z0 c 3 <;> rfl
 have n:∀k:Int,¬ o=k->(o==k)=aaf:=λk h=>by simpa using h
 simp[n _ h1,n _ h2,n _ h3,n _ h4,n _ h5,h1,h2,h3,h4,h5]
theorem Wx(x:ZW)(loc:Int)(w:Bool):(aeO (bif (x.Loc==loc) then
    aeO (bif w then aeO (bF x) λv=>aag v else aag aaf) λs=>
    aeO (bif s then aag aae else aeO (bif !w then aeO (bN x) λv=>aag v else aag aaf) λs=>aag s) λs=>aag s
   else aag aaf) λs=>(aag s:Option Bool))=aag (jb loc (if w then wrB else rdB) (cm x)):=by
 rw[Yi,Yj];unfold jb;show _=aag (x.Loc==loc&&_)
 cases x.Loc==loc <;> cases w <;> cases hw:wrB (cm x) <;> cases hr:rdB (cm x) <;> simp_all
variable(ht:total p<=1048576)(hl:p.length<=1048576)
include ht hl
theorem Ky(loc:Int)(w:Bool):cO p loc w=aag ((Fs (jb loc<|if w then wrB else rdB) (bY p):Nat):Int):=by
 unfold cO;refine Z1.eq (Z1.bind (P:=(· =((Fs (jb loc<|if w then wrB else rdB) (bY p):Nat):Int))) ?_ λv hv=>.pure hv);refine Z1.loop (λz=>∃i:Nat,i<=p.length/\z=((i:Int),(CC (jb loc<|if w then wrB else rdB) p i:Int))) (λz=>((p.length:Int)-z.1).toNat) ⟨0,by omega,rfl⟩ λz ⟨i,h1,h2⟩=>?_;subst h2;unfold p6;simp only[];refine .bifD (λhi=>?_) λhi=>.pure (by rw[<- BV,show i=p.length by omega]);have hi':i<p.length:=by omega
 refine Z1.bind (P:=(· =(CC (jb loc<|if w then wrB else rdB) p (i+1):Int))) ?_ λv hv=>.gdI (by omega)<|.pure ⟨⟨i+1,by omega,by rw[hv];rfl⟩,by simp only[];omega⟩;refine Z1.loop (λz=>∃k:Nat,k<=(p.getD i aad).length/\z=((k:Int),((CC (jb loc<|if w then wrB else rdB) p i+Kw (jb loc<|if w then wrB else rdB) (p.getD i aad) k:Nat):Int))) (λz=>(((p.getD i aad).length:Int)-z.1).toNat) ⟨0,by omega,rfl⟩ λz ⟨k,k1,k2⟩=>?_;subst k2;unfold og J;simp only[tnn];have hb:=BU (f:=jb loc<|if w then wrB else rdB) ht (k:=k) hi';have hr:=yS p i hi';refine .gdD ⟨by omega,by omega⟩<|.bifD (λhk=>?_) λhk=>.pure (by rw[zx hi',show k=(p.getD i aad).length by omega]);have hr:(p.getD i aad).length<=1048576:=by
  rw[Sa hi'];omega
 refine Z1.bind (P:=(· =((CC (jb loc<|if w then wrB else rdB) p i+Kw (jb loc<|if w then wrB else rdB) (p.getD i aad) (k+1):Nat):Int))) ?_ λv hv=>.gdI (by omega)<|.pure ⟨⟨k+1,by omega,by rw[hv];rfl⟩,by simp only[];omega⟩;refine .gdD ⟨by omega,hk⟩ ?_;rw[zy (by omega)];refine Z1.bind (P:=(· =jb loc (if w then wrB else rdB) (cm<|(p.getD i aad).getD k aad))) ?_ λb hb2=>?_
 .have e:=Wx ((p.getD i aad).getD k aad) loc w;exact⟨_,by simpa using e,rfl⟩
 subst hb2;exact .bif (λh=>.gdI (by omega)<|.pure<|by rw[if_pos h];omega) λh=>.pure (by rw[h];simp)
theorem Sd:fJ p 3000=aag ((uj (H4<|bY p):Nat):Int):=by
 unfold fJ;refine Z1.eq<|Z1.bind (P:=λn=>∃m:Nat,n=(m:Int)/\uj m=uj (H4<|bY p)) ?_ λv ⟨m,hv,hm⟩=>?_
 .refine Z1.loop (λz=>∃l n:Nat,l<=3/\z=((l:Int),(n:Int))/\n<=4000000000/\1<=n/\uj n=uj (pT (bY p) l)) (λz=>((3:Int)-z.1).toNat) ⟨0,1,by omega,rfl,by omega,by omega,rfl⟩ λz ⟨l,n,h1,h2,h3,h4,h5⟩=>?_;subst h2;unfold p7;simp only[];refine .bifD (λhl3=>?_) λhl3=>.pure ⟨n,rfl,by rw[h5,show l=3 by omega];rfl⟩;have hcw:cw (bY p) l<=1048576:=aeR (FV _ _) (by unfold bY;rw[yT];exact ht);have hcr:cr (bY p) l<=1048576:=aeR (FV _ _) (by unfold bY;rw[yT];exact ht);have ew:cO p l aae=aag ((cw (bY p) l:Nat):Int):=Ky ht hl l aae;have er:cO p l aaf=aag ((cr (bY p) l:Nat):Int):=Ky ht hl l aaf;rw[ew];refine Z1.bind (P:=λv=>∃m:Nat,v=(m:Int)/\m<=4000000000/\1<=m/\uj m=uj (pT (bY p)<|l+1)) ?_ λv ⟨m,e1,e2,e3,e4⟩=>.gdI (by omega)<|.pure ⟨⟨l+1,m,by omega,by rw[e1];rfl,e2,e3,e4⟩,by simp only[];omega⟩;refine Z1.bind (P:=(· =((cw (bY p) l:Nat):Int))) (.pure rfl) λv8 hv8=>?_;subst hv8;refine Z1.bind (P:=λv=>∃m:Nat,v=(m:Int)/\m<=4000000000/\1<=m/\uj m=uj (pT (bY p) l*(cw (bY p) l+1) ^ cr (bY p) l)) ?_ λv ⟨m,e1,e2,e3,e4⟩=>?_
  .refine Z1.loop (λz=>∃i m:Nat,i<=cr (bY p) l/\z=((i:Int),(m:Int))/\m<=4000000000/\1<=m/\uj m=uj (pT (bY p) l*(cw (bY p) l+1) ^ i)) (λz=>((cr (bY p) l:Int)-z.1).toNat) ⟨0,n,by omega,rfl,h3,h4,by simpa using h5⟩ λz ⟨i,m,i1,i2,i3,i4,i5⟩=>?_;subst i2;unfold oh;simp only[];rw[er];show Z1 (aeO (cond _ _ _) _) _
   by_cases c1:(i:Int)<(cr (bY p) l:Int)
   .by_cases c2:(m:Int)<=3000
    .rw[decide_eq_true c1,decide_eq_true c2];have hm:=Qp (n:=m) (a:=cw (bY p) l+1) (by omega) (by omega);refine Z1.gdI (by omega)<|.gdI (by rw[show(m:Int)*((cw (bY p) l:Int)+1)=((m*(cw (bY p) l+1):Nat):Int) by simp];omega)<|.gdI (by omega)<|.pure ⟨⟨i+1,m*(cw (bY p) l+1),by omega,by simp,hm,Nat.mul_pos i4 (by omega),?_⟩,by simp only[];omega⟩;rw[Nat.pow_succ,<- aeP];exact IM _ i5 (by omega)
    rw[decide_eq_true c1,decide_eq_false c2];refine Z1.pure ⟨m,rfl,i3,i4,?_⟩;rw[Qo (r:=cr (bY p) l) i1,<- aeP];exact MM i5 (by omega)<|Nat.pow_pos (by omega)
   rw[decide_eq_false c1];exact Z1.pure ⟨m,rfl,i3,i4,by rw[i5,show i=cr (bY p) l by omega]⟩
  subst e1;refine Z1.loop (λz=>∃i m:Nat,(i=1\/i<=cw (bY p) l)/\z=((i:Int)+1,(m:Int))/\m<=4000000000/\1<=m/\1<=i/\uj m=uj (pT (bY p) l*(cw (bY p) l+1) ^ cr (bY p) l*fct i)) (λz=>((cw (bY p) l:Int)+2-z.1).toNat) ⟨1,m,.inl rfl,rfl,e2,e3,by omega,by simpa [fct] using e4⟩ λz ⟨i,m,i1,i2,i3,i4,i6,i5⟩=>?_;subst i2;unfold ol;simp only[]
  by_cases c1:(i:Int)+1<=(cw (bY p) l:Int)
  .by_cases c2:(m:Int)<=3000
   .rw[decide_eq_true c1,decide_eq_true c2];have hm:=Qp (n:=m) (a:=i+1) (by omega) (by omega);refine Z1.gdI (by rw[show(m:Int)*((i:Int)+1)=((m*(i+1):Nat):Int) by simp];omega) (.gdI (by omega)<|.pure ⟨⟨i+1,m*(i+1),by omega,by simp,hm,Nat.mul_pos i4 (by omega),by omega,?_⟩,by simp only[];omega⟩);rw[show fct (i+1)=fct i*(i+1) from rfl,<- aeP];exact IM _ i5 (by omega)
   rw[decide_eq_true c1,decide_eq_false c2];refine Z1.pure ⟨m,rfl,i3,i4,?_⟩;obtain⟨q,q1,q2⟩:=JS i<|cw (bY p) l-i;rw[show i+(cw (bY p) l-i)=cw (bY p) l by omega] at q2;show _=uj (pT (bY p) l*((cw (bY p) l+1) ^ cr (bY p) l*fct (cw (bY p) l)));rw[q2,<- aeP,<- aeP];exact MM i5 (by omega) q1
  rw[decide_eq_false c1];refine Z1.pure ⟨m,rfl,i3,i4,?_⟩;show _=uj (pT (bY p) l*((cw (bY p) l+1) ^ cr (bY p) l*fct (cw (bY p) l)));rw[i5,<- aeP,show fct i=fct (cw (bY p) l) by
   rcases i1 with rfl|h
   .rcases (by omega:cw (bY p) l=1\/cw (bY p) l=0) with e|e <;> rw[e] <;> rfl
   rw[show i=cw (bY p) l by omega]]
 subst hv;refine .bifD (λh=>.gdI (by omega)<|.pure ?_) λh=>.pure ?_ <;> (unfold uj at *;omega)
theorem Se:rD p=aag ((uj (H4<|bY p):Nat):Int):=by
 have step:∀x n:Nat,1<=n->n<=1048577->mG (n:Int) ((uj x:Nat):Int)=aag ((uj (x*n):Nat):Int):=by
  intro x n h1 h2;have h3:=Nat.mul_le_mul (VA x) h2;have e:((uj x:Nat):Int)*(n:Int)=((uj x*n:Nat):Int):=by simp
  unfold mG;rw[e];refine Z1.eq<|.gdI (by omega)<|.pure ?_;rw[<- Qq x n h1];unfold uj
  split <;> omega
 unfold rD;refine Z1.eq (Z1.bind (P:=(· =((uj (H4<|bY p):Nat):Int))) ?_ λv hv=>.pure hv);refine Z1.loop (λz=>∃l:Nat,l<=3/\z=(((uj (pT (bY p) l):Nat):Int),(l:Int))) (λz=>((3:Int)-z.2).toNat) ⟨0,by omega,rfl⟩ λz ⟨l,h1,h2⟩=>?_;subst h2;unfold yU;simp only[];refine .bifD (λhl3=>?_) λhl3=>.pure (by rw[show l=3 by omega];rfl);have hcw:cw (bY p) l<=1048576:=aeR (FV _ _) (by unfold bY;rw[yT];exact ht);have hcr:cr (bY p) l<=1048576:=aeR (FV _ _) (by unfold bY;rw[yT];exact ht);refine Z1.bind (P:=(· =((uj (pT (bY p)<|l+1):Nat):Int))) ?_ λv hv=>.gdI (by omega)<|.pure ⟨⟨l+1,by omega,by rw[hv];rfl⟩,by simp only[];omega⟩;refine Z1.bind (P:=(· =((cw (bY p) l:Int),(cr (bY p) l:Int)))) ?_ λs8 h8=>?_
 .refine Z1.loop (λz=>∃i:Nat,i<=p.length/\z=((i:Int),(CC (jb l wrB) p i:Int),(CC (jb l rdB) p i:Int))) (λz=>((p.length:Int)-z.1).toNat) ⟨0,by omega,rfl⟩ λz ⟨i,h1,h2⟩=>?_;subst h2;unfold xK;simp only[];refine .bifD (λhi=>?_) λhi=>.pure (by rw[show i=p.length by omega,BV,BV];rfl);have hi':i<p.length:=by omega
  have hr:(p.getD i aad).length<=1048576:=by
   have:=yS p i hi';rw[Sa hi'];omega
  refine Z1.bind (P:=(· =((CC (jb l wrB) p (i+1):Int),(CC (jb l rdB) p (i+1):Int)))) (.gdD ⟨by omega,hi⟩ ?_) λv hv=>.gdI (by omega)<|.pure ⟨⟨i+1,by omega,by rw[hv];rfl⟩,by simp only[];omega⟩;refine Z1.loop (λz=>∃k:Nat,k<=(p.getD i aad).length/\z=((k:Int),((CC (jb l wrB) p i+Kw (jb l wrB) (p.getD i aad) k:Nat):Int),((CC (jb l rdB) p i+Kw (jb l rdB) (p.getD i aad) k:Nat):Int))) (λz=>(((p.getD i aad).length:Int)-z.1).toNat) ⟨0,by omega,rfl⟩ λz ⟨k,k1,k2⟩=>?_;subst k2;unfold xJ J;simp only[tnn];have hb:=BU (f:=jb l wrB) ht (k:=k) hi';have hb2:=BU (f:=jb l rdB) ht (k:=k) hi';refine .bifD (λhk=>?_) λhk=>.pure (by rw[zx hi',zx hi',show k=(p.getD i aad).length by omega]);refine Z1.bind (P:=(· =(((CC (jb l wrB) p i+Kw (jb l wrB) (p.getD i aad) (k+1):Nat):Int),((CC (jb l rdB) p i+Kw (jb l rdB) (p.getD i aad) (k+1):Nat):Int)))) ?_ λv hv=>.gdI (by omega)<|.pure ⟨⟨k+1,by omega,by rw[hv];rfl⟩,by simp only[];omega⟩;refine .gdD ⟨by omega,hk⟩ ?_;rw[zy (by omega),zy (by omega)];have sel:∀(f:ZW->Option Bool)(g:Ins->Bool)(x:ZW),f x=aag (g<|cm x)->(aeO (bif (x.Loc==(l:Int)) then aeO (f x) λv=>aag v else aag aaf) λs=>(aag s:Option Bool))=aag (jb l g<|cm x):=by
   intro f g x hf;rw[hf];show _=aag (x.Loc==(l:Int)&&_)
   cases x.Loc==(l:Int) <;> rfl
  refine Z1.bind (P:=(· =((CC (jb l rdB) p i+(Kw (jb l rdB) (p.getD i aad) k+if jb l rdB (cm<|(p.getD i aad).getD k aad) then 1 else 0):Nat):Int))) ?_ λa ha=>?_
  .refine Z1.bind (P:=(· =jb l rdB (cm<|(p.getD i aad).getD k aad))) ⟨_,by simpa using sel _ _ _ (U8<|(p.getD i aad).getD k aad),rfl⟩ λb hb2=>?_;subst hb2;exact .bif (λh=>.gdI (by omega)<|.pure<|by rw[if_pos h];omega) λh=>.pure (by rw[h];simp)
  subst ha;refine Z1.bind (P:=(· =jb l wrB (cm<|(p.getD i aad).getD k aad))) ⟨_,by simpa using sel _ _ _ (U9<|(p.getD i aad).getD k aad),rfl⟩ λb hb2=>?_;subst hb2;exact .bif (λh=>.gdI (by omega)<|.pure<|by rw[if_pos h];congr 1) λh=>.pure (by rw[h];simp)
 subst h8;refine Z1.bind (P:=(· =((uj (pT (bY p) l*(cw (bY p) l+1) ^ cr (bY p) l):Nat):Int))) ?_ λv hv=>?_
 .refine Z1.loop (λz=>∃i:Nat,i<=cr (bY p) l/\z=(((uj (pT (bY p) l*(cw (bY p) l+1) ^ i):Nat):Int),(i:Int))) (λz=>((cr (bY p) l:Int)-z.2).toNat) ⟨0,by omega,by simp⟩ λz ⟨i,i1,i2⟩=>?_;subst i2;unfold xL;simp only[];refine .bifD (λhi=>.gdI (by omega) ?_) λhi=>.pure (by rw[show i=cr (bY p) l by omega]);refine Z1.bind (P:=(· =((uj (pT (bY p) l*(cw (bY p) l+1) ^ (i+1)):Nat):Int))) ⟨_,by have:=step (pT (bY p) l*(cw (bY p) l+1) ^ i) (cw (bY p) l+1) (by omega) (by omega);simpa using this,by rw[Nat.pow_succ,aeP]⟩ λv hv=>.gdI (by omega) (.pure ⟨⟨i+1,by omega,by rw[hv];rfl⟩,by simp only[];omega⟩)
 subst hv;refine Z1.loop (λz=>∃i:Nat,i<=cw (bY p) l/\z=(((uj (pT (bY p) l*(cw (bY p) l+1) ^ cr (bY p) l*fct i):Nat):Int),(i:Int))) (λz=>((cw (bY p) l:Int)-z.2).toNat) ⟨0,by omega,by simp[fct]⟩ λz ⟨i,i1,i2⟩=>?_;subst i2;unfold xO;simp only[];refine .bifD (λhi=>.gdI (by omega) ?_) λhi=>.pure (by rw[show i=cw (bY p) l by omega,aeP];rfl);refine Z1.bind (P:=(· =((uj (pT (bY p) l*(cw (bY p) l+1) ^ cr (bY p) l*fct (i+1)):Nat):Int))) ⟨_,by have:=step (pT (bY p) l*(cw (bY p) l+1) ^ cr (bY p) l*fct i) (i+1) (by omega) (by omega);simpa using this,by simp only[fct,aeP]⟩ λv hv=>(.pure ⟨⟨i+1,by omega,by rw[hv];rfl⟩,by simp only[];omega⟩)
omit ht hl in
theorem Uu{i:Nat}(h:i<p.length):(bY p)[i]'(by simpa [bY] using h)=(p.getD i aad).map cm:=Ut h
omit ht hl in
theorem zW{i:Nat}(h:i<p.length):rowOk ((bY p)[i]'(by simpa [bY] using h))=(aai ((p.getD i aad).length<=7)&&(p.getD i aad).all λx=>pQ<|cm x):=by
 rw[Uu h];simp[rowOk,List.all_map,Function.comp_def]
omit ht hl in
theorem Kz{i k:Nat}(hi:i<p.length)(hk:k<(p.getD i aad).length)(h:pQ (cm<|(p.getD i aad).getD k aad)=aaf):uk (bY p)=aaf:=
 CQ i (by simpa [bY] using hi) (by
  rw[zW hi,aeU];refine .inr (List.all_eq_false.2 ⟨_,List.getElem_mem hk,?_⟩);rw[<- Sa hk,h];simp)
omit ht hl in
theorem Io{i:Nat}(hi:i<p.length)(h7:(p.getD i aad).length<=7)(h:∀k,k<(p.getD i aad).length->pQ (cm<|(p.getD i aad).getD k aad)=aae):rowOk ((bY p)[i]'(by simpa [bY] using hi))=aae:=by
 rw[zW hi,decide_eq_true h7,Bool.true_and,ae0];intro x hx;obtain⟨k,hk,rfl⟩:=List.getElem_of_mem hx;rw[<- Sa hk];exact h k hk
theorem Sf:mH p=aag (uk<|bY p):=by
 have hlen:(bY p).length=p.length:=by simp[bY]
 unfold mH;refine Z1.eq<|.bifD (λh=>.pure<|by simp[uk,hlen];omega) λh=>?_;refine Z1.sum (PS:=λn=>n=(Fs BF (bY p):Int)/\∀i,(h:i<p.length)->rowOk ((bY p)[i]'(by simpa [bY] using h))=aae) (PW:=(· =uk (bY p))) ?_ λn ⟨hn,hg⟩=>.pure ?_
 .refine Z1.loop (λz=>∃i:Nat,i<=p.length/\z=((i:Int),(CC BF p i:Int))/\∀j,j<i->(h:j<p.length)->rowOk ((bY p)[j]'(by simpa [bY] using h))=aae) (λz=>((p.length:Int)-z.1).toNat) ⟨0,by omega,rfl,λj h=>absurd h<|by omega⟩ λz ⟨i,h1,h2,h3⟩=>?_;subst h2;unfold wD J;simp only[tnn];refine .bifD (λhi=>?_) λhi=>.pure ⟨by rw[<- BV,show i=p.length by omega],λj hj=>h3 j (by omega) hj⟩;have hi':i<p.length:=by omega
  refine Z1.sum (PS:=λn=>n=(CC BF p (i+1):Int)/\rowOk ((bY p)[i]'(by simpa [bY] using hi'))=aae) (.gdD ⟨by omega,hi⟩<|.bifD (λh7=>.pure ?_) λh7=>?_) λn ⟨hn,hg⟩=>.gdI (by omega)<|.pure ⟨⟨i+1,by omega,by rw[hn];rfl,λj hj hj'=>?_⟩,by simp only[];omega⟩
  .exact(CQ i (by simpa [bY] using hi')<|by rw[zW hi',decide_eq_false (by omega)];rfl).symm
  .refine Z1.loop (λz=>∃k:Nat,k<=(p.getD i aad).length/\z=((k:Int),((CC BF p i+Kw BF (p.getD i aad) k:Nat):Int))/\∀j,j<k->pQ (cm<|(p.getD i aad).getD j aad)=aae) (λz=>(((p.getD i aad).length:Int)-z.1).toNat) ⟨0,by omega,rfl,λj h=>absurd h<|by omega⟩ λz ⟨k,k1,k2,k3⟩=>?_;subst k2;unfold vq J;simp only[tnn];have hb:=BU (f:=BF) ht (k:=k) hi';refine .bifD (λhk=>?_) λhk=>.pure ⟨by rw[zx hi',show k=(p.getD i aad).length by omega],Io hi' (by omega) λj hj=>k3 j<|by omega⟩;refine Z1.sum (PS:=λm=>m=((CC BF p i+Kw BF (p.getD i aad) (k+1):Nat):Int)/\pQ (cm<|(p.getD i aad).getD k aad)=aae) (.gdD ⟨by omega,hk⟩ (Z1.bind (P:=(· =pQ (cm<|(p.getD i aad).getD k aad))) ⟨_,Sc _,rfl⟩ λv hv=>?_)) λm ⟨hm,hg⟩=>.gdI (by omega)<|.pure ⟨⟨k+1,by omega,by rw[hm];rfl,λj hj=>?_⟩,by simp only[];omega⟩
   .subst hv;rw[zy (by omega),show BF (cm<|(p.getD i aad).getD k aad)=(((p.getD i aad).getD k aad).Op != 4) from rfl];refine .bif (λh=>.pure ?_) λh=>.bif (λh2=>.gdI (by omega)<|.pure ⟨by rw[if_pos h2];omega,by simpa using h⟩) λh2=>.pure ⟨by rw[h2];rfl,by simpa using h⟩;exact(Kz (k:=k) hi' (by omega)<|by simpa using h).symm
   rcases aeV j k with h|h
   .exact k3 j h
   obtain rfl:j=k:=by omega
   exact hg
  rcases aeV j i with h|h
  .exact h3 j h hj'
  obtain rfl:j=i:=by omega
  exact hg
 rw[hn,FW (by omega) λj hj=>hg j (by omega)];exact decide_eq_decide.2 (by omega)
theorem Sg:fo p=aag (bh<|bY p):=by
 have hlen:(bY p).length=p.length:=by simp[bY]
 unfold fo;rw[Sf ht hl,Sd ht hl];unfold bh;rw[hlen,show(aai<|(0:Int)<(p.length:Int))=aai (0<p.length) from decide_eq_decide.2 (by omega),<- FX (H4<|bY p)]
 cases uk (bY p) <;> cases aai (0<p.length) <;> rfl
theorem Si:fg p=aag (bh<|bY p):=by
 have hlen:(bY p).length=p.length:=by simp[bY]
 unfold fg;rw[Dl,Se ht hl];have hB:uk (bY p)=aaf->bh (bY p)=aaf:=λh=>by unfold bh;rw[h];rfl
 refine Z1.eq (Z1.bind (P:=(· =(aai ((1:Int)<=(p.length:Int))&&aai ((p.length:Int)<=3)))) (.pure rfl) λv hv=>?_);subst hv;refine .bif (λh=>.pure ?_) λh=>?_
 .simp only[Bool.not_eq_true',aeU,decide_eq_false_iff_not] at h;unfold bh uk;rcases h with h|h
  .rw[decide_eq_false (p:=0<(bY p).length) (by omega)];simp
  rw[decide_eq_false (p:=(bY p).length<=3) (by omega)];simp
 simp only[Bool.not_eq_false',bae,dte] at h;refine Z1.sum (PS:=λn=>n=(Fs BF (bY p):Int)/\∀i,(h:i<p.length)->rowOk ((bY p)[i]'(by simpa [bY] using h))=aae) (PW:=(· =bh (bY p))) ?_ λn ⟨hn,hg⟩=>?_
 .refine Z1.loop (λz=>∃i:Nat,i<=p.length/\z=((i:Int),(CC BF p i:Int))/\∀j,j<i->(h:j<p.length)->rowOk ((bY p)[j]'(by simpa [bY] using h))=aae) (λz=>((p.length:Int)-z.1).toNat) ⟨0,by omega,rfl,λj h=>absurd h<|by omega⟩ λz ⟨i,h1,h2,h3⟩=>?_;subst h2;unfold n8 J;simp only[tnn];refine .bifD (λhi=>?_) λhi=>.pure ⟨by rw[<- BV,show i=p.length by omega],λj hj=>h3 j (by omega) hj⟩;have hi':i<p.length:=by omega
  have hr:(p.getD i aad).length<=1048576:=by
   have:=yS p i hi';rw[Sa hi'];omega
  refine Z1.sum (PS:=λn=>n=(CC BF p (i+1):Int)/\rowOk ((bY p)[i]'(by simpa [bY] using hi'))=aae) (.gdD ⟨by omega,hi⟩ ?_) λn ⟨hn,hg⟩=>.gdI (by omega)<|.pure ⟨⟨i+1,by omega,by rw[hn];rfl,λj hj hj'=>?_⟩,by simp only[];omega⟩
  .refine Z1.sum (PS:=λn=>n=(CC BF p (i+1):Int)/\∀k,k<(p.getD i aad).length->pQ (cm<|(p.getD i aad).getD k aad)=aae) ?_ λn ⟨hn,hg⟩=>.bifD (λh7=>.pure ?_) λh7=>.pure ⟨hn,Io hi' (by omega) hg⟩
   .refine Z1.loop (λz=>∃k:Nat,k<=(p.getD i aad).length/\z=((k:Int),((CC BF p i+Kw BF (p.getD i aad) k:Nat):Int))/\∀j,j<k->pQ (cm<|(p.getD i aad).getD j aad)=aae) (λz=>(((p.getD i aad).length:Int)-z.1).toNat) ⟨0,by omega,rfl,λj h=>absurd h<|by omega⟩ λz ⟨k,k1,k2,k3⟩=>?_;subst k2;unfold nS J;simp only[tnn];have hb:=BU (f:=BF) ht (k:=k) hi';refine .bifD (λhk=>?_) λhk=>.pure ⟨by rw[zx hi',show k=(p.getD i aad).length by omega],λj hj=>k3 j<|by omega⟩;refine Z1.sum (PS:=λm=>m=((CC BF p i+Kw BF (p.getD i aad) (k+1):Nat):Int)/\pQ (cm<|(p.getD i aad).getD k aad)=aae) (.gdD ⟨by omega,hk⟩ (Z1.bind (P:=(· =pQ (cm<|(p.getD i aad).getD k aad))) ⟨_,Sb _,rfl⟩ λv hv=>?_)) λm ⟨hm,hg⟩=>.gdI (by omega)<|.pure ⟨⟨k+1,by omega,by rw[hm];rfl,λj hj=>?_⟩,by simp only[];omega⟩
    .subst hv;rw[zy (by omega),show BF (cm<|(p.getD i aad).getD k aad)=(((p.getD i aad).getD k aad).Op != 4) from rfl];refine .bif (λh=>.pure ?_) λh=>.bif (λh2=>.gdI (by omega)<|.pure ⟨by rw[if_pos h2];omega,by simpa using h⟩) λh2=>.pure ⟨by rw[h2];rfl,by simpa using h⟩;exact(hB<|Kz (k:=k) hi' (by omega)<|by simpa using h).symm
    rcases aeV j k with h|h
    .exact k3 j h
    obtain rfl:j=k:=by omega
    exact hg
   exact(hB<|CQ i (by simpa [bY] using hi')<|by rw[zW hi',decide_eq_false (by omega)];rfl).symm
  rcases aeV j i with h|h
  .exact h3 j h hj'
  obtain rfl:j=i:=by omega
  exact hg
 subst hn;have e:=FW (p:=bY p) (by omega) λj hj=>hg j (by omega);unfold bh;rw[e,decide_eq_true (p:=0<(bY p).length) (by omega),show aai ((Fs BF (bY p):Int)<=12)=aai (Fs BF (bY p)<=12) from decide_eq_decide.2 (by omega),<- FX]
 cases aai (Fs BF (bY p)<=12)
 .exact .pure rfl
 exact .pure (by simp)
end
theorem Wy{p:List (List ZW)}{q:Bool}(h:aZ p=aag q):fg p=aag q:=by
 unfold aZ at h;obtain⟨⟨h1,h2⟩,h⟩:=gdD h;rw[Si h2 h1];exact h
theorem Wz{p:List (List ZW)}{q:Bool}(h:bI p=aag q):fo p=aag q:=by
 unfold bI at h;obtain⟨⟨h1,h2⟩,h⟩:=gdD h;rw[Sg h2 h1];exact h
attribute [local irreducible] T TO TF TG TX ZT EvA
abbrev jA:=@TO.nil
abbrev jC:=@T.region
abbrev jE:=@T.block
abbrev jG:=@T.skip
abbrev jH:=@T.seq
abbrev jI:=@T.sr
abbrev jK:=@T.ret
abbrev jM:=@T.exit
abbrev jN:=@T.ifH
abbrev jO:=@T.loop
abbrev jP:=@T.drawF
abbrev jQ:=@Fin.ret
abbrev jR:=@TF.nil
theorem qD{m:Nat}{H:AH}{a:AV}(h:isF 9 a=aae):Fz m H a a:=.of_isF 9 _ h
theorem qE{α:Sort _}{β:α->Sort _}{f:(x:α)->β x}:∀x,f x=f x:=λ_=>rfl
instance Sj(x:Int)(low:Int)(high:Int):Ct aaj (cz x low high) 43 [I x,I low,I high] Bo:=ctp func43 λq h=>az h
instance Ma(x:ZW):Ct aaj (lV x) 87 [.agg (ZW.c x)] Bo:=ctp func87 λq h=>by
 refine go h λ_ h=>?_;refine eF Z Z Z<|go h λ_ h=>?_;obtain⟨Ks1,es1,ws1,h,ks1⟩:=II h;refine T.join (S:=Int×Int×Int) (G:=Unit) (λs1=>Ks1 s1=aag q) (λs1 gh=>True) (λs1 gh=>[(3,.hp 0 0 4 0 0),(1,.fp (ZW.c x) 0)]) (λs1 gh=>[aag ⟨0,4,113,[[I x.Op,I s1.1,I s1.2.1,I s1.2.2]]⟩]) (λs1 gh h hg=>?_) ?_
 .clear ks1;subst es1;refine go h λ_ h=>?_;refine oN (ZT.aeq (x.Op==x.Op&&(x.Loc==s1.1&&(x.Reg==s1.2.1&&(x.Val==s1.2.2&&aae)))) (cs:=[I x.Op,I x.Loc,I x.Reg,I x.Val]) (ds:=[I x.Op,I s1.1,I s1.2.1,I s1.2.2]) YZ Z Z<|by kernel_rfl) ?_;exact az h
 refine go h λ_ h=>?_;refine qV [8,3,1] h (λs2 k=>(9,Bo s2)::k) (λs2 h=>?_) λs2 h=>?_
 .refine jN Z h (λq4 h=>?_) λq4 h=>?_
  .refine jP (dG [dF,dF,dF,dF,dF,([0],aae),dF,([0],aae)]) (by kernel_rfl) (by kernel_rfl)<|go h λ_ h=>?_
   cases h
   exact⟨(x.Loc,x.Reg,U),(),ks1,trivial,Z9⟩
  refine gi h (λ_ q5 h=>?_) λ_ q5 h=>?_
  .refine jP (dG [dF,dF,dF,dF,dF,([0],aae),dF,([0],aae)]) (by kernel_rfl) (by kernel_rfl)<|go h λ_ h=>?_
   cases h
   exact⟨(x.Loc,U,x.Val),(),ks1,trivial,Z9⟩
  refine gi h (λ_ q6 h=>?_) λ_ q6 h=>?_
  .refine go h λ_ h=>?_
   cases h
   exact⟨(U,U,U),(),ks1,trivial,Z9⟩
  refine gi h (λ_ q7 h=>?_) λ_ q7 h=>?_
  .refine go h λ_ h=>?_
   cases h
   exact⟨(x.Loc,x.Reg,x.Val),(),ks1,trivial,Z9⟩
  refine go h λ_ h=>?_;obtain rfl:=ZV h;replace h:=congrArg aag (show _=_ from ks1);exact gz h
 exact az h
instance KQ(x:ZW):Ct aaj (cT x) 142 [.agg (ZW.c x)] Bo:=ctp func142 λq h=>az h
instance KA(x:ZW):Ct aaj (cF x) 143 [.agg (ZW.c x)] Bo:=ctp func143 λq h=>az h
theorem yt(n:Int)(a1:Int)(aW:Nat){q}(h:mG n a1=aag q):eZ aaj 153 [I n,.hp 0 aW 1 0 0] [aag ⟨aW,1,3,[[I a1]]⟩] (.tup []) [aag ⟨aW,1,3,[[I q]]⟩]:=by
 refine aM func153 Z (by kernel_rfl) Z<|go h λ_ h=>?_;obtain rfl:=ZV h
 repeat (first|refine pG ?_|refine pI ?_)
 exact⟨ak [],[aag ⟨aW,1,3,[[I (if (3001:Int)<(a1*n) then (3001:Int) else (a1*n))]]⟩],Z9,Fin.normal (vs:=[]) .nil ⟨Z,Z⟩⟩
theorem Hd(p:List<|List ZW){q}(h:rD p=aag q):aF aaj 88 [eL (cL ZW.c) p] (I q):=by
 refine pM func88 Z (by kernel_rfl) Z<|jI<|oN as'<|jA<|jI<|oA (EvA.al zs3 Z Z)<|oV (sr [I V] Z8 Z Z Z Z)<|jA<|jI<|oN (ZT.mkfn [.hp 0 0 1 0 0] Z Z)<|oN as'<|jA ?_;refine kV [3] h (λs1 k=>k) (λs1=>[aag ⟨0,1,3,[[I s1]]⟩]) (λs1 h=>?_) λs1 h=>?_
 .exact az h
 refine jI<|oN mv<|jA<|jE ?_;refine T.lU h (λs4=>[(14,I s4.2),(4,.fn (.func 153) [.hp 0 0 1 0 0]),(3,.hp 0 0 1 0 0),(0,eL (cL ZW.c) p)]) (λs4=>[aag ⟨0,1,3,[[I s4.1]]⟩]) (kw Z Z) λs4 ws4 h=>?_;refine jI<|oN (ZT.ilt Z Z)<|jA<|jH ?_;refine jN Z h (λq6 h=>?_) λq6 h=>?_
 .refine jG ?_;refine kV [14,4,3,0] h (λs7 k=>k) (λs7=>[aag ⟨0,1,3,[[I s7]]⟩]) (λs7 h=>?_) λs7 h=>?_
  .exact az h
  refine jE<|jI<|oN mv<|oN as'<|jA<|jI<|oN as'<|oN as'<|jA ?_;refine qV [14,4,3,0] h (λs8 k=>(7,I s8.1)::(6,I s8.2)::k) (λs8 h=>?_) λs8 h=>?_
  .refine kV [7,14,4,3,0] h (λs36 k=>k) (λs36=>[aag ⟨0,1,3,[[I s36]]⟩]) (λs36 h=>?_) λs36 h=>?_
   .refine jI<|oN mv<|oN mv<|jA<|jE ?_;refine T.lU h (λs47=>[(60,I s47.2),(59,I s8.1),(14,I s4.2),(4,.fn (.func 153) [.hp 0 0 1 0 0]),(3,.hp 0 0 1 0 0),(0,eL (cL ZW.c) p)]) (λs47=>[aag ⟨0,1,3,[[I s47.1]]⟩]) (kw Z Z) λs47 ws47 h=>?_;refine jI<|oN (ZT.ilt Z Z)<|jA<|jH ?_;refine jN Z h (λq49 h=>?_) λq49 h=>?_
    .refine jG<|jH<|jE<|jI<|oN mv<|oN as'<|jA<|jC<|oN mv<|oN mv<|jW h λg50 h=>oN (ZT.add Z Z g50)<|jB h λv51 cv51 h=>oA (EvA.call Z Z Z<|(yt (s47.2+V) s47.1 0 cv51).one 0 Z (.cons (.pF Z)<|.cons (.hp Z) .nil) (au Z) (au Z) Z)<|jA<|jC ?_;refine oN (ZT.add Z Z g50)<|oN mv<|jA ?_;exact lE h<|kw Z Z
    exact az h
   refine jI<|oN mv<|oN mv<|jA<|jE ?_;refine T.lU h (λs39=>[(52,I s39.2),(51,I s8.2),(7,I s8.1),(14,I s4.2),(4,.fn (.func 153) [.hp 0 0 1 0 0]),(3,.hp 0 0 1 0 0),(0,eL (cL ZW.c) p)]) (λs39=>[aag ⟨0,1,3,[[I s39.1]]⟩]) (kw Z Z) λs39 ws39 h=>?_;refine jI<|oN (ZT.ilt Z Z)<|jA<|jH ?_;refine jN Z h (λq41 h=>?_) λq41 h=>?_
   .refine jG<|jH<|jE<|jC<|oN mv<|oN mv<|jW h λg42 h=>oN (ZT.add Z Z g42)<|jB h λv43 cv43 h=>oA (EvA.call Z Z Z<|(yt (s8.1+V) s39.1 0 cv43).one 0 Z (.cons (.pF Z)<|.cons (.hp Z) .nil) (au Z) (au Z) Z)<|jA<|jC<|jW h λg44 h=>oN (ZT.add Z Z g44)<|oN mv<|jA ?_;exact lE h<|kw Z Z
   exact az h
  refine jI<|oN mv<|oN (ZT.lenL Ha Z)<|oN mv<|jA<|jE ?_;refine T.lU h (λs11=>[(19,I s11.1),(18,I (p.length:Int)),(17,eL (cL ZW.c) p),(7,I s11.2.1),(6,I s11.2.2),(5,I s4.2),(14,I s4.2),(4,.fn (.func 153) [.hp 0 0 1 0 0]),(3,.hp 0 0 1 0 0),(0,eL (cL ZW.c) p)]) (λs11=>[aag ⟨0,1,3,[[I s4.1]]⟩]) (kw Z Z) λs11 ws11 h=>?_;refine jI<|oN (ZT.ilt Z Z)<|jA<|jH ?_;refine jN Z h (λq13 h=>?_) λq13 h=>?_
  .refine jG ?_;refine qV [19,18,17,5,14,4,3,0] h (λs14 k=>(7,I s14.1)::(6,I s14.2)::k) (λs14 h=>?_) λs14 h=>?_
   .exact az h
   refine jE<|jI<|jD h λg15 h=>oN (ZT.ixL Ha Z Z g15 qE)<|oN (lf (eL ZW.c<|J p s11.1) Ko Z)<|oN as'<|jA<|jI<|oN mv<|oN (ZT.lenL BS Z)<|oN mv<|jA<|jE ?_;refine T.lU h (λs18=>[(25,I s18.1),(24,I ((J p s11.1).length:Int)),(23,eL ZW.c<|J p s11.1),(19,I s11.1),(18,I (p.length:Int)),(17,eL (cL ZW.c) p),(7,I s18.2.1),(6,I s18.2.2),(5,I s4.2),(14,I s4.2),(4,.fn (.func 153) [.hp 0 0 1 0 0]),(3,.hp 0 0 1 0 0),(0,eL (cL ZW.c) p)]) (λs18=>[aag ⟨0,1,3,[[I s4.1]]⟩]) (kw Z Z) λs18 ws18 h=>?_;refine jI<|oN (ZT.ilt Z Z)<|jA<|jH ?_;refine jN Z h (λq20 h=>?_) λq20 h=>?_
   .refine jG ?_;refine qV [25,24,23,19,18,17,5,14,4,3,0] h (λs21 k=>(7,I s21.1)::(6,I s21.2)::k) (λs21 h=>?_) λs21 h=>?_
    .exact az h
    refine jE<|jI<|jD h λg22 h=>oN (ZT.ixL BS Z Z g22 qE)<|oN (lf (.agg<|ZW.c<|J (J p s11.1) s18.1) xw Z)<|oA (EvA.al L9 Z Z)<|oV (sr (ZW.c<|J (J p s11.1) s18.1) xw Z Z Z Z)<|jA ?_;refine qV [11,25,24,23,19,18,17,7,5,14,4,3,0] h (λs23 k=>(6,I s23)::k) (λs23 h=>?_) λs23 h=>?_
    .refine jI<|oN (fa Em Z)<|oA (lh (I<|(J (J p s11.1) s18.1).Loc) Z8 Z Z Z)<|oN mv<|oN (ZT.ieq Z Z)<|oN mv ?_;refine gB [6,25,24,23,19,18,17,7,5,14,4,3,0] h 3 (λs29 k=>(46,Bo s29)::k) λs29 h=>?_;refine jA ?_;refine jN Z h (λq32 h=>?_) λq32 h=>?_
     .refine jC<|oN mv<|jW h λg33 h=>oN (ZT.add Z Z g33)<|oN as'<|jA ?_
      cases h
      exact⟨(),trivial,qH Z (.cons (.row<|.cons (.fz<|qD Z) .nil) .nil)<|ai (.fz<|qD Z)<|ai (.fz<|qD Z)<|ai (.fz<|qD Z)<|ai (.fz<|qD Z)<|ai (.fz<|qD Z)<|ai (.fz<|qD Z)<|ai (.fz<|qD Z)<|ai (.fz<|qD Z)<|ai (.fz<|qD Z)<|ai (.fz<|qD Z)<|ai (.fnL<|.cons (.hp<|nlb Z) .nil)<|ai (.hp<|nlb Z)<|ai (.fz<|qD Z) aO⟩
     refine jG ?_
     cases h
     exact⟨(),trivial,qH Z (.cons (.row<|.cons (.fz<|qD Z) .nil) .nil)<|ai (.fz<|qD Z)<|ai (.fz<|qD Z)<|ai (.fz<|qD Z)<|ai (.fz<|qD Z)<|ai (.fz<|qD Z)<|ai (.fz<|qD Z)<|ai (.fz<|qD Z)<|ai (.fz<|qD Z)<|ai (.fz<|qD Z)<|ai (.fz<|qD Z)<|ai (.fnL<|.cons (.hp<|nlb Z) .nil)<|ai (.hp<|nlb Z)<|ai (.fz<|qD Z) aO⟩
    exact az h
   exact az h
  exact az h
 exact az h
instance S0(p:List<|List ZW):Ct aaj (rD p) 88 [eL (cL ZW.c) p] I:=⟨Hd p⟩
instance yF(p:List<|List ZW):Ct aaj (fg p) 40 [eL (cL ZW.c) p] Bo:=ctp func40 λq h=>by
 refine go h λ_ h=>?_;refine gC h λv1 h=>?_;refine gx h λq2 h=>?_;refine go h λ_ h=>?_;obtain⟨Ks3,es3,ws3,h,ks3⟩:=II h;refine T.join (S:=Int) (G:=Unit) (λs3=>Ks3 s3=aag q) (λs3 gh=>True) (λs3 gh=>[(3,I s3),(0,eL (cL ZW.c) p)]) (λs3 gh=>[]) (λs3 gh h hg=>?_) ?_
 .exact az h
 refine go h λ_ h=>?_;refine qU [13,12,0] h (λs6 k=>(14,I s6.1)::(3,I s6.2)::k) λs6 ws6 h=>?_;refine gy h λq8 h=>?_;refine go h λ_ h=>?_;obtain⟨Ks9,es9,ws9,h,ks9⟩:=II h;refine T.join (S:=Int) (G:=Unit) (λs9=>Ks9 s9=aag ws6) (λs9 gh=>True) (λs9 gh=>[(14,I s6.1),(13,I (p.length:Int)),(12,eL (cL ZW.c) p),(3,I s9),(0,eL (cL ZW.c) p)]) (λs9 gh=>[]) (λs9 gh h hg=>?_) ?_
 .exact az h
 refine go h λ_ h=>?_;obtain⟨Ks11,es11,ws11,h,ks11⟩:=II h;refine T.join (S:=Int) (G:=Unit) (λs11=>Ks11 s11=aag ws9) (λs11 gh=>True) (λs11 gh=>[(5,eL ZW.c<|J p s6.1),(14,I s6.1),(13,I (p.length:Int)),(12,eL (cL ZW.c) p),(3,I s11),(0,eL (cL ZW.c) p)]) (λs11 gh=>[]) (λs11 gh h hg=>?_) ?_
 .clear ks11;subst es11;refine gi h (λ_ q24 h=>?_) λ_ q24 h=>?_
  .refine go h λ_ h=>?_;obtain rfl:=ZV h;replace h:=congrArg aag (show _=_ from ks9);refine lX h λh=>?_;obtain rfl:=ZV h;replace h:=congrArg aag (show _=_ from ks3);exact gz h
  refine go h λ_ h=>?_;obtain rfl:=ZV h;exact⟨s11,(),ks9,trivial,Z9⟩
 refine go h λ_ h=>?_;refine qU [19,18,5,14,13,12,0] h (λs14 k=>(20,I s14.1)::(3,I s14.2)::k) λs14 ws14 h=>?_;refine gy h λq16 h=>?_;refine go h λ_ h=>?_;obtain⟨Ks17,es17,ws17,h,ks17⟩:=II h;refine T.join (S:=Int) (G:=Unit) (λs17=>Ks17 s17=aag ws14) (λs17 gh=>True) (λs17 gh=>[(3,I s17),(20,I s14.1),(19,I ((J p s6.1).length:Int)),(18,eL ZW.c<|J p s6.1),(5,eL ZW.c<|J p s6.1),(14,I s6.1),(13,I (p.length:Int)),(12,eL (cL ZW.c) p),(0,eL (cL ZW.c) p)]) (λs17 gh=>[]) (λs17 gh h hg=>?_) ?_
 .exact az h
 refine go h λ_ h=>?_;refine gC h λv19 h=>?_;refine gy h λq20 h=>?_;refine go h λ_ h=>?_;obtain rfl:=ZV h;replace h:=congrArg aag (show _=_ from ks17);refine lX h λh=>?_;obtain rfl:=ZV h;replace h:=congrArg aag (show _=_ from ks11);obtain rfl:=ZV h;replace h:=congrArg aag (show _=_ from ks9);refine lX h λh=>?_;obtain rfl:=ZV h;replace h:=congrArg aag (show _=_ from ks3);exact gz h
theorem yG(p:List<|List ZW){q}(h:fg p=aag q):aF aaj 40 [eL (cL ZW.c) p] (Bo q):=(yF p).c h
instance Jh(n:Int)(most:Int):Ct aaj (eO n most) 80 [I n,I most] Bo:=ctp func80 λq h=>az h
theorem Ji(n:Int)(most:Int){q}(h:eO n most=aag q):aF aaj 80 [I n,I most] (Bo q):=(Jh n most).c h
instance AY(x:ZW):Ct aaj (iL x) 190 [.agg (ZW.c x)] Bo:=ctp func190 λq h=>az h
theorem A7(x:ZW){q}(h:iL x=aag q):aF aaj 190 [.agg (ZW.c x)] (Bo q):=(AY x).c h
theorem En(p:List<|List ZW){q}(h:mH p=aag q):aF aaj 144 [eL (cL ZW.c) p] (Bo q):=by
 refine pM func144 Z (by kernel_rfl) Z<|jI<|oN as'<|jA<|jH<|jI<|oN mv<|oN (ZT.lenL Ha Z)<|oN (ZT.igt Z Z)<|jA ?_;refine jN Z h (λq1 h=>?_) λq1 h=>?_
 .exact az h
 refine jG<|jI<|oN as'<|jA ?_;obtain⟨Ks2,es2,ws2,h,ks2⟩:=II h;refine T.join (S:=Int) (G:=Unit) (λs2=>Ks2 s2=aag q) (λs2 gh=>True) (λs2 gh=>[(3,I s2)]) (λs2 gh=>[]) (λs2 gh h hg=>?_) ?_
 .exact az h
 refine jI<|oN as'<|jA<|jE ?_;refine T.lU h (λs5=>[(4,I s5.1),(3,I s5.2),(0,eL (cL ZW.c) p)]) (λs5=>[]) (kw Z Z) λs5 ws5 h=>?_;refine jH<|jI<|oN mv<|oN mv<|oN (ZT.lenL Ha Z)<|oN (ZT.ilt Z Z)<|jA ?_;refine jN Z h (λq7 h=>?_) λq7 h=>?_
 .refine jG ?_;obtain⟨Ks8,es8,ws8,h,ks8⟩:=II h;refine T.join (S:=Int) (G:=Unit) (λs8=>Ks8 s8=aag ws5) (λs8 gh=>True) (λs8 gh=>[(4,I s5.1),(3,I s8),(0,eL (cL ZW.c) p)]) (λs8 gh=>[]) (λs8 gh h hg=>?_) ?_
  .exact az h
  refine jE<|jH<|jI<|oN mv<|oN mv<|jD h λg9 h=>oN (ZT.ixL Ha Z Z g9 qE)<|oN (lf (eL ZW.c<|J p s5.1) Ko Z)<|oN (ZT.lenL BS Z)<|oN (ZT.igt Z Z)<|jA ?_;refine jN Z h (λq10 h=>?_) λq10 h=>?_
  .refine jI<|oN as'<|jA<|jK ?_;obtain rfl:=ZV h;replace h:=congrArg aag (show _=_ from ks8);refine lX h λh=>?_;obtain rfl:=ZV h;replace h:=congrArg aag (show _=_ from ks2)
   cases h
   exact SV Z Z Z
  refine jG<|jI<|oN as'<|jA<|jE ?_;refine T.lU h (λs13=>[(5,I s13.1),(4,I s5.1),(3,I s13.2),(0,eL (cL ZW.c) p)]) (λs13=>[]) (kw Z Z) λs13 ws13 h=>?_;refine jH<|jI<|oN mv<|oN mv<|oN mv<|oN (ZT.ixL Ha Z Z g9 qE)<|oN (lf (eL ZW.c<|J p s5.1) Ko Z)<|oN (ZT.lenL BS Z)<|oN (ZT.ilt Z Z)<|jA ?_;refine jN Z h (λq15 h=>?_) λq15 h=>?_
  .refine jG ?_;obtain⟨Ks16,es16,ws16,h,ks16⟩:=II h;refine T.join (S:=Int) (G:=Unit) (λs16=>Ks16 s16=aag ws13) (λs16 gh=>True) (λs16 gh=>[(3,I s16),(5,I s13.1),(4,I s5.1),(0,eL (cL ZW.c) p)]) (λs16 gh=>[]) (λs16 gh h hg=>?_) ?_
   .exact az h
   refine jE<|jH<|jI<|oN mv<|oN mv<|oN (ZT.ixL Ha Z Z g9 qE)<|oN (lf (eL ZW.c<|J p s5.1) Ko Z)<|oN mv<|jD h λg17 h=>oN (ZT.ixL BS Z Z g17 qE)<|oN (lf (.agg<|ZW.c<|J (J p s5.1) s13.1) xw Z)<|oC h (λ_=>A7 _) Z Z Z Z λv18 _ h=>oN (ZT.not Z)<|jA ?_;refine jN Z h (λq19 h=>?_) λq19 h=>?_
   .refine jH<|T.clean (H0:=[]) (e0:=ak []) Z ZQ<|jC<|oN as'<|jA<|jK ?_;obtain rfl:=ZV h;replace h:=congrArg aag (show _=_ from ks16);refine lX h λh=>?_;obtain rfl:=ZV h;replace h:=congrArg aag (show _=_ from ks8);refine lX h λh=>?_;obtain rfl:=ZV h;replace h:=congrArg aag (show _=_ from ks2)
    cases h
    exact SV Z Z Z
   refine jG<|jH<|T.clean (H0:=[]) (e0:=ak [(5,I s13.1),(4,I s5.1),(3,I s13.2),(0,eL (cL ZW.c) p)]) Z (ZR Z<|ZR Z<|ZR Z<|ZR Z ZQ)<|jC<|oN mv<|oN mv<|oN (ZT.ixL Ha Z Z g9 qE)<|oN (lf (eL ZW.c<|J p s5.1) Ko Z)<|oN mv<|oN (ZT.ixL BS Z Z g17 qE)<|oN (fa Em Z)<|oN (lf (I<|(J (J p s5.1) s13.1).Op) Z8 Z)<|oN (ZT.ine Z Z)<|jA ?_;refine jN Z h (λq20 h=>?_) λq20 h=>?_
   .exact az h
   exact az h
  exact az h
 exact az h
instance O4(p:List<|List ZW):Ct aaj (mH p) 144 [eL (cL ZW.c) p] Bo:=⟨En p⟩
instance Dm(x:ZW):Ct aaj (bF x) 152 [.agg (ZW.c x)] Bo:=ctp func152 λq h=>az h
theorem wR(x:ZW){q}(h:bF x=aag q):aF aaj 152 [.agg (ZW.c x)] (Bo q):=(Dm x).c h
instance Eo(x:ZW):Ct aaj (bN x) 151 [.agg (ZW.c x)] Bo:=ctp func151 λq h=>az h
theorem yu(x:ZW){q}(h:bN x=aag q):aF aaj 151 [.agg (ZW.c x)] (Bo q):=(Eo x).c h
instance Ep(p:List<|List ZW)(loc:Int)(writes:Bool):Ct aaj (cO p loc writes) 121 [eL (cL ZW.c) p,I loc,Bo writes] I:=ctp func121 λq h=>by
 refine go h λ_ h=>?_;refine qV [] h (λs1 k=>(7,I s1)::k) (λs1 h=>?_) λs1 h=>?_
 .exact az h
 refine go h λ_ h=>?_;refine qU [0,1,2] h (λs4 k=>(8,I s4.1)::(7,I s4.2)::k) λs4 ws4 h=>?_;refine gy h λq6 h=>?_;refine go h λ_ h=>?_;refine qV [8,0,1,2] h (λs7 k=>(7,I s7)::k) (λs7 h=>?_) λs7 h=>?_
 .exact az h
 refine go h λ_ h=>?_;refine qU [8,0,1,2] h (λs10 k=>(9,I s10.1)::(7,I s10.2)::k) λs10 ws10 h=>?_;refine gs h λf h=>?_;obtain⟨g12,_⟩:=f;refine jN Z h (λq13 h=>?_) λq13 h=>?_
 .refine go h λ_ h=>?_;refine qV [9,8,0,1,2] h (λs14 k=>(7,I s14)::k) (λs14 h=>?_) λs14 h=>?_
  .exact az h
  refine go h λ_ h=>?_;refine qB [9,8,7,0,1,2] h 14 (λs16 k=>(51,Bo s16)::k) (λs16 q17 h js16=>?_) (λs16 q17 h js16=>?_) λs16 h=>?_
  .refine go h λ_ h=>?_;refine qB [39,38,37,10,9,8,7,0,1,2] h 3 (λs18 k=>(42,Bo s18)::k) (λs18 q19 h js18=>?_) (λs18 q19 h js18=>?_) λs18 h=>?_
   .refine gA Z q19 (lh (.agg<|ZW.c<|J (J p s4.1) s10.1) xw Z Z Z)<|jB h λv20 cv20 h=>gN Z q19 (ZT.call Z Z Z (wR (⟨(J (J p s4.1) s10.1).Op,(J (J p s4.1) s10.1).Loc,(J (J p s4.1) s10.1).Reg,(J (J p s4.1) s10.1).Val⟩:ZW) cv20) Z)<|gN Z q17 (ZT.pickT Z q19 (Bo v20) Z) ?_
    cases h
    exact js18 _ _ Z9
   .refine go h λ_ h=>?_;refine gN Z q17 (ZT.pickF Z q19 (Bo aaf) Z) ?_
    cases h
    exact js18 _ _ Z9
   refine go h λ_ h=>?_;refine qB [43,42,39,38,37,9,8,7,0,1,2] h 7 (λs21 k=>(50,Bo s21)::k) (λs21 q22 h js21=>?_) (λs21 q22 h js21=>?_) λs21 h=>?_
   .refine go h λ_ h=>?_;refine gN Z q17 (ZT.pickT Z q22 (Bo aae) Z) ?_
    cases h
    exact js21 _ _ Z9
   .refine go h λ_ h=>?_;refine qB [46,45,44,43,42,39,38,37,9,8,7,0,1,2] h 3 (λs23 k=>(49,Bo s23)::k) (λs23 q24 h js23=>?_) (λs23 q24 h js23=>?_) λs23 h=>?_
    .refine gA Z q24 (lh (.agg<|ZW.c<|J (J p s4.1) s10.1) xw Z Z Z)<|jB h λv25 cv25 h=>gN Z q24 (ZT.call Z Z Z (yu (⟨(J (J p s4.1) s10.1).Op,(J (J p s4.1) s10.1).Loc,(J (J p s4.1) s10.1).Reg,(J (J p s4.1) s10.1).Val⟩:ZW) cv25) Z)<|gN Z q22 (ZT.pickT Z q24 (Bo v25) Z) ?_
     cases h
     exact js23 _ _ Z9
    .refine go h λ_ h=>?_;refine gN Z q22 (ZT.pickF Z q24 (Bo aaf) Z) ?_
     cases h
     exact js23 _ _ Z9
    refine gN Z q17 (ZT.pickF Z q22 (Bo s23) Z) ?_
    cases h
    exact js21 _ _ Z9
   exact gj h js16
  .exact gj h js16
  exact az h
 exact az h
theorem yw(p:List<|List ZW)(loc:Int)(writes:Bool){q}(h:cO p loc writes=aag q):aF aaj 121 [eL (cL ZW.c) p,I loc,Bo writes] (I q):=(Ep p loc writes).c h
theorem Er(p:List<|List ZW)(most:Int){q}(h:fJ p most=aag q):aF aaj 58 [eL (cL ZW.c) p,I most] (I q):=by
 refine pM func58 Z (by kernel_rfl) Z<|jI<|oN as'<|jA<|jI<|oN as'<|jA ?_;refine qV [1] h (λs1 k=>(5,I s1)::k) (λs1 h=>?_) λs1 h=>?_
 .exact az h
 refine jI<|oN as'<|jA<|jE ?_;refine T.lU h (λs4=>[(6,I s4.1),(5,I s4.2),(0,eL (cL ZW.c) p),(1,I most)]) (λs4=>[]) (kw Z Z) λs4 ws4 h=>?_;refine jH<|jI<|oN mv<|oN (ZT.ile Z Z)<|jA ?_;refine jN Z h (λq6 h=>?_) λq6 h=>?_
 .refine jG ?_;refine qV [6,0,1] h (λs7 k=>(5,I s7)::k) (λs7 h=>?_) λs7 h=>?_
  .exact az h
  refine jE<|jI<|oN mv<|oN mv<|oC h (λ_=>yw _ _ _) Z Z Z Z λv8 _ h=>oN as'<|jA ?_;refine qV [7,6,0,1] h (λs9 k=>(5,I s9)::k) (λs9 h=>?_) λs9 h=>?_
  .refine jI<|oN as'<|jA<|jE ?_;refine T.lU h (λs23=>[(9,I s23.1),(7,I v8),(6,I s4.1),(5,I s23.2),(0,eL (cL ZW.c) p),(1,I most)]) (λs23=>[]) (kw Z Z) λs23 ws23 h=>?_;refine jH<|jI<|oN mv<|oN mv<|oN (ZT.ile Z Z)<|oN mv ?_;refine qB [9,7,6,5,0,1] h 4 (λs25 k=>(40,Bo s25)::k) (λs25 q26 h js25=>?_) (λs25 q26 h js25=>?_) λs25 h=>?_
   .refine gN Z q26 mv<|gN Z q26 mv<|gN Z q26 (ZT.ile Z Z)<|oN (ZT.pickT Z q26 (Bo<|aai<|s23.2<=most) Z) ?_
    cases h
    exact js25 _ _<|kw Z Z
   .refine gS Z q26<|gS Z q26<|gS Z q26<|oN (ZT.pickF Z q26 (Bo aaf) Z) ?_
    cases h
    exact js25 _ _<|kw Z Z
   exact az h
  refine jI<|oN as'<|jA<|jE ?_;refine T.lU h (λs12=>[(8,I s12.1),(7,I v8),(6,I s4.1),(5,I s12.2),(0,eL (cL ZW.c) p),(1,I most)]) (λs12=>[]) (kw Z Z) λs12 ws12 h=>?_;refine jH<|jI<|oN mv<|oN mv<|oN mv<|oC h (λ_=>yw _ _ _) Z Z Z Z λv14 _ h=>oN (ZT.ilt Z Z)<|oN mv ?_;refine qB [8,7,6,5,0,1] h 4 (λs15 k=>(26,Bo s15)::k) (λs15 q16 h js15=>?_) (λs15 q16 h js15=>?_) λs15 h=>?_
  .refine gN Z q16 mv<|gN Z q16 mv<|gN Z q16 (ZT.ile Z Z)<|oN (ZT.pickT Z q16 (Bo<|aai<|s12.2<=most) Z) ?_
   cases h
   exact js15 _ _<|kw Z Z
  .refine gS Z q16<|gS Z q16<|gS Z q16<|oN (ZT.pickF Z q16 (Bo aaf) Z) ?_
   cases h
   exact js15 _ _<|kw Z Z
  refine jA ?_;refine jN Z h (λq17 h=>?_) λq17 h=>?_
  .exact az h
  exact az h
 exact az h
instance O5(p:List<|List ZW)(most:Int):Ct aaj (fJ p most) 58 [eL (cL ZW.c) p,I most] I:=⟨Er p most⟩
instance yH(p:List<|List ZW):Ct aaj (fo p) 78 [eL (cL ZW.c) p] Bo:=ctp func78 λq h=>az h
theorem yI(p:List<|List ZW){q}(h:fo p=aag q):aF aaj 78 [eL (cL ZW.c) p] (Bo q):=(yH p).c h
section
variable{α β:Type}[Inhabited β]{f:α->List Value}{s:Nat}{c:β->List AV}{w:World}{fz:Nat->Prop}{v:Value}
theorem Va{u x:Value}(h:FRel w fz (.v u) x):x=u:=by
 cases h with
 |v _=>rfl
theorem OH{e:β->α}(hf:∀x,c x=(f<|e x).map AV.v)(hs:∀x,(f<|e x).length=s){l:List β}(h:FRel w fz (eL c l) v):Sl f s w 0 w.heap.size v (l.map e):=by
 unfold eL at h
 cases h with
 |sl us hc hm ha hr hu h1 h=>
  refine⟨_,_,by rw[llm],by simpa using hc,hm,λhn=>?_⟩;rw[llm] at hn;obtain⟨rfl,hg,hlt⟩:=ha hn;refine⟨_,_,rfl,aeS _,hlt,hlt,λk hk j u hu'=>?_⟩;rw[llm] at hk;rw[List.getElem_map] at hu';have hk0:l.getD k aad=l[k]:=by simp[List.getD,hk]
  have hrow:(c<|l.getD k aad)[j]?=aag (.v u):=by rw[hk0,hf,aeW,hu'];rfl
  have hs':=hr k hk
  dsimp only at hs'
  rw[hf,llm,hs] at hs';subst hs';have h2:=hu k j _ hk hrow;rw[Va (h k j _ hk hrow)] at h2;exact h2
theorem OI{e:α->β}(hf:∀x,c (e x)=(f x).map AV.v)(hs:∀x,(f x).length=s)(hp:∀x,∀u∈f x,plain u=aae){l:List α}{hi:Nat}(h:Sl f s w 0 hi v l):FRel w (λg=>g<w.heap.size) (eL c<|l.map e) v:=by
 obtain⟨A,cap,rfl,hc,hm,h⟩:=h;have key:∀(g o:Nat),(0<l.length->A=aag ⟨g,o,aah⟩/\g<w.heap.size/\∀(k:Nat)(h:k<l.length)(j:Nat)(u:Value),(f l[k])[j]?=aag u->w.cell? ⟨g,o+k*s+j,aah⟩=aag u)->FRel w (λg=>g<w.heap.size) (eL c<|l.map e) (.slice A l.length cap):=by
  intro g o hh;have hrow:∀(i j:Nat)(a:AV),i<l.length->(c<|(l.map e).getD i aad)[j]?=aag a->∃u,l[i]?.bind (λx=>(f x)[j]?)=aag u/\a= .v u/\plain u=aae/\w.cell? ⟨g,o+i*s+j,aah⟩=aag u:=by
   intro i j a hi ha;have h0:(l.map e).getD i aad=e l[i]:=by simp[List.getD,hi]
   rw[h0,hf,aeW] at ha
   cases hq:(f l[i])[j]? with
   |none=>rw[hq] at ha;cases ha
   |some u=>
    rw[hq] at ha;refine⟨u,by rw[geq hi];exact hq,(osl ha).symm,hp _ u<|List.mem_of_getElem? hq,(hh<|by omega).2.2 i hi j u hq⟩
  have e0:(l.map e).length=l.length:=by simp
  unfold eL;rw[e0];refine FRel.sl (s:=s) (g:=g) (o:=o) (λi j=>(l[i]?.bind λx=>(f x)[j]?).getD<|.bool aaf) hc hm (λhn=>⟨(hh hn).1,(hh hn).2.1,(hh hn).2.1⟩) (λi hi=>?_) (λi j a hi ha=>?_) (λi j a hi ha=>?_) λi j a hi ha=>?_
  .have h0:(l.map e).getD i aad=e l[i]:=by simp[List.getD,hi]
   rw[h0,hf,llm,hs]
  .obtain⟨u,h1,h2,h3,h4⟩:=hrow i j a hi ha;simp only[h1,ae1];exact h4
  .obtain⟨u,h1,h2,h3,h4⟩:=hrow i j a hi ha;simp only[h1,ae1];exact Jy h3
  obtain⟨u,h1,h2,h3,h4⟩:=hrow i j a hi ha;subst h2;simp only[h1,ae1];exact .v h3
 by_cases h0:0<l.length
 .obtain⟨b,o,hA,_,_,hlt,hcell⟩:=h h0;exact key b o λ_=>⟨hA,hlt,hcell⟩
 exact key 0 0 λh1=>absurd h1 h0
theorem Jj{P:Program}{g:FuncId}{ars:List AV}{r:AV}(h:aF P g ars r)(vs:Array Value)(hl:vs.size=ars.length)(hr:∀(i:Nat)(a:AV)(v:Value),ars[i]?=aag a->vs[i]?=aag v->FRel w (λg=>g<w.heap.size) a v)(hgl:Gl w (λg=>g<w.heap.size):=by exact gl_none) :
  Calls P g vs w λe w'=>∃v fz',e= .returned v/\Below w.heap.size w w'/\FRel w' fz' r v:=
 (h.2 w _ vs (λg hg=>hg) hgl hl hr).mono λe w' ⟨v,fz',h1,h2,h3,_⟩=>⟨v,fz',h1,h2,h3⟩
theorem Y6{a:AV}{u:Value}(h:FRel w fz a u):∀(i:Nat)(a':AV)(v:Value),[a][i]?=aag a' -> #[u][i]?=aag v->FRel w fz a' v:=by
 intro i a' v h1 h2
 match i with
 |0=>
  obtain rfl:=osl h1;obtain rfl:u=v:=by simpa using h2
  exact h
 |i+1=>simp at h1
end
theorem OJ{w:World}{v:Value}{hi:Nat}{l:LI}(h:Sl Ob 1 w 0 hi v l):FRel w (λg=>g<w.heap.size) (eL cY l) v:=by
 have:=OI (f:=Ob) (s:=1) (c:=cY) (e:=id) (λ_=>rfl) (λ_=>rfl) (λx u hu=>by simp[Ob] at hu;subst hu;rfl) h
 rwa [List.map_id] at this
theorem Mb{P:Program}{g:FuncId}{ars:List AV}{w:World}{vs:Array Value}(h:aF P g ars<|Bo aae)(hl:vs.size=ars.length)(hr:∀(i:Nat)(a:AV)(v:Value),ars[i]?=aag a->vs[i]?=aag v->FRel w (λg=>g<w.heap.size) a v)(hgl:Gl w (λg=>g<w.heap.size):=by exact gl_none) :
  Calls P g vs w λe w'=>e= .returned (.bool aae)/\Below w.heap.size w w':=
 (Jj h vs hl hr hgl).mono λe w' ⟨v,fz',h1,h2,h3⟩=>⟨by rw[h1,Va h3],h2⟩
theorem rL(p:List<|List ZW){q}(h:aZ p=aag q):aF aaj 40 [eL (cL ZW.c) p] (Bo q):=yG p<|Wy h
theorem lM(p:List<|List ZW){q}(h:bI p=aag q):aF aaj 78 [eL (cL ZW.c) p] (Bo q):=yI p<|Wz h
open Go.Shelf Go.RowKit Go.Lib

open Go.RowKit Go.Shelf

instance KC(p:List<|List ZW):Ct aaj (aZ p) 40 [eL (cL ZW.c) p] Bo:=⟨rL p⟩
open Go.RowKit Go.WideShapes Go.ChangeShapes Go.Deep
section
variable{H:Type}{enc:TypeId×Value->H}{P:Program}
theorem Jk{f:Func}{s:ChangeSpec}{apart fresh handsOn again:Bool}{W W':World}{args:Array Value}{v:Value}{ds gs:List (DataW H)}{before pa pv:List MemPlace}
  (hW:DataW.Whole enc P f.params.toList s.vars apart W args.toList ds gs before)
  (hres:∀(b:Nat)(sp:Nat->Bool)(hd:Bool),DataW.TrodAll enc P W' b sp hd f.resultTypes.toList (v.resultList f.resultTypes.size) (s.fn H<|ds++gs).results [])
  (hargs:∀sp:Nat->Bool,(∀p∈before,sp p.block=aae)->DataW.TrodAll enc P W' 0 sp aae f.params.toList args.toList (s.fn H<|ds++gs).args pa)
  (hvars:∀sp:Nat->Bool,(∀p∈before,sp p.block=aae)->DataW.TrodVars enc P W' sp s.vars (s.fn H<|ds++gs).vars pv)
  (hps:before=pa++pv) (hb:Below W.heap.size W W')
  (hok:∀(j:Nat)(t:TypeId)(r:Value),f.resultTypes[j]?=aag t->(v.resultList f.resultTypes.size)[j]?=aag r->Value.okWide P W' .any 0 t r) :
  s.post enc P f apart fresh handsOn again W args v W':=by
 have hlt:∀p∈before,p.block<W.heap.size:=λp hp=>hW.lt p hp;have hold:∀p∈before,(λb=>aai<|b<W.heap.size) p.block=aae:=λp hp=>by simpa using hlt p hp
 refine⟨ds,gs,before,[],pa,pv,hW,hres _ _ _,hargs _ hold,hvars _ hold,World.keptBut_mono (λp hp=>⟨hp,?_⟩) (hb.frame (· ∈ before)),λ_=>?_⟩
 .rw[hps,List.mem_append] at hp;exact Or.inr hp
 obtain⟨_,_,_,_,_,hz,hn⟩:=hW;refine⟨hok,_,_,([]++pa)++pv,⟨[]++pa,pv,trodAll_append (hargs _ λ_ _=>rfl)<|hres _ _ _,hvars _ λ_ _=>rfl,rfl,?_,?_⟩,?_⟩
 .intro b off hp;have hin:MemPlace.cell b off∈before:=by rw[hps];simpa using hp
  rw[hb.frozen (hlt _ hin)];exact hz b off hin
 .intro ha;have:=hn ha;rw[hps] at this;simpa using this
 intro p hp _;rw[hps];simpa using hp
theorem BW(hl:laidOutB P=aae){W W':World}(hb:Below W.heap.size W W'){sp:Nat->Bool}:∀(ts:List TypeId)(vs:List Value)(ds:List<|DataW H)(ps:List MemPlace),
  (∀t∈ts,P.readableRec t=aae/\t<P.types.size)->DataW.TrodAll enc P W 0 (λ_=>aae) aae ts vs ds ps->(∀x∈ps,x.block<W.heap.size)->(∀x∈ps,sp x.block=aae) ->
  DataW.TrodAll enc P W' 0 sp aae ts vs ds ps
 |[],[],[],_,_,h,_,_=>h
 |t::ts,v::vs,d::ds,ps,hr,⟨p,q,h1,h2,hpq⟩,hlt,hs=>by
  subst hpq;have hp:∀x∈p,x.block<W.heap.size:=λx hx=>hlt x (aeZ _ hx);exact⟨p,q,WideElems.Trod_stays hl (hr t (by simp)).1 (hr t (by simp)).2 h1 (λx hx=>hb.same (hp x hx)) (λx hx=>hs x (aeZ _ hx)),
   BW hl hb ts vs ds q (λt ht=>hr t (List.mem_cons_of_mem _ ht)) h2 (λx hx=>hlt x (ae7 _ hx)) (λx hx=>hs x (ae7 _ hx)),rfl⟩
 |[],_::_,_,_,_,h,_,_=>(by cases h)
 |[],[],_::_,_,_,h,_,_=>(by cases h)
 |_::_,[],_,_,_,h,_,_=>(by cases h)
 |_::_,_::_,[],_,_,h,_,_=>(by cases h)
variable{w:World}{spare:Nat->Bool}{held:Bool}
theorem Uv{α:Type}{f:α->List Value}{s:Nat}{t e:TypeId}(hs:P.cellsOf e=s)(hs0:0<s)(ht:P.underlying t=aag (.slice e)){Good:α->Prop}
  (hel:∀(fuel:Nat)(cs:List Value)(x:DataW H×List MemPlace),DataW.trod enc P w 0 spare held fuel e cs=aag x->∃a,cs=f a/\Good a) {fuel:Nat} {cs:List Value} {x:DataW H×List MemPlace}
  (h:DataW.trod enc P w 0 spare held fuel t cs=aag x):∃v,cs=[v]/\∃xs:List α,Sl f s w 0 w.heap.size v xs/\∀y∈xs,Good y:=by
 rcases open_slice ht h with⟨rfl,_⟩|⟨a,len,cap,m,n,D,Pl,rfl,_,hl,hm,hmm,_,hi⟩
 .exact⟨_,rfl,[],Sl.nil_ _ _ (by omega),λy hy=>absurd hy<|by simp⟩
 refine⟨_,rfl,?_⟩;have hlm:len<=m:=by rw[hmm];split <;> omega
 have key:∀i,i<len->∃y:α,Good y/\∀(j:Nat)(u:Value),(f y)[j]?=aag u->w.cell? ((a.add<|i*s).add j)=aag u:=by
  intro i hil;obtain⟨cs',hc,ht'⟩:=hi i (by omega);obtain⟨y,rfl,hg⟩:=hel _ _ _ ht';obtain⟨_,hcl,hat⟩:=World.cells?_some hc;rw[hs] at hat hcl;exact⟨y,hg,λj u hu=>by
   have hj:j<s:=by
    have:=(ges hu).1;omega
   rw[hat j hj];exact hu⟩
 have key2:∀i,i<len->∃cs',w.cells? 0 (a.add<|i*s) s=aag cs':=by
  intro i hil;obtain⟨cs',hc,_⟩:=hi i (by omega);rw[hs] at hc;exact⟨cs',hc⟩
 clear hi;simp only[maxLen] at hm
 by_cases hn:0<len
 .obtain⟨cs0,hc0⟩:=key2 0 hn;obtain⟨_,hcl,hat⟩:=World.cells?_some hc0;have h00:=hat 0 hs0;rw[geq (by omega)] at h00;have hspot:=World.cell?_spot h00;obtain⟨b,o,sp⟩:=a;have hsp:sp=aah:=by simpa [Addr.add] using hspot
  subst hsp;have hb:b<w.heap.size:=by
   have:=World.block_lt_of_cell? w _ h00;simpa [CP] using this
  have hch:∃F:Nat->α,∀i,i<len->Good (F i)/\∀(j:Nat)(u:Value),(f<|F i)[j]?=aag u->w.cell? (((⟨b,o,aah⟩:Addr).add<|i*s).add j)=aag u:=by
   obtain⟨y0,_⟩:=key 0 hn;refine⟨λi=>if h:i<len then (key i h).choose else y0,λi hil=>?_⟩;simp only[dif_pos hil];exact(key i hil).choose_spec
  obtain⟨F,hF⟩:=hch;refine⟨(List.range len).map F,⟨_,cap,by simp,by simpa using hl,by omega,λ_=>⟨b,o,rfl,aeS _,hb,hb,λk hk j u hu=>?_⟩⟩,λy hy=>?_⟩
  .have hk':k<len:=by simpa using hk
   have:=(hF k hk').2 j u (by simpa using hu)
   rwa [CP,CP] at this
  rw[List.mem_map] at hy;obtain⟨i,hi,rfl⟩:=hy;exact(hF i<|by simpa using hi).1
 have h0:len=0:=by omega
 subst h0;exact⟨[],Sl.nil_ _ _ (by omega),λy hy=>absurd hy<|by simp⟩
theorem Yl{t:TypeId}{k:IntKind}(ht:P.underlying t=aag (.int k))(fuel:Nat)(cs:List Value)(x:DataW H×List MemPlace)(h:DataW.trod enc P w 0 spare held fuel t cs=aag x) :
  ∃a:Int,cs=[.int k a]/\(Lit.int k a).wf=aae:=by
 obtain⟨n,h1,_,h3⟩:=DataW.trod_int ht h;exact⟨n,h1,h3⟩
end
theorem one_cell{v u:Value}(h:v.cells.toList=[u])(hv:∃a len cap,v= .slice a len cap):v=u:=by
 obtain⟨a,len,cap,rfl⟩:=hv;simpa [Value.cells] using h
open Go.ChangeShapes Go.WideShapes Go.ChangeAt Go.RowKit Go.Sort
theorem Gm{w:World}{blk off g:Nat}{d:Array Int}(h:g≠blk):(putRow (Value.int .i64) w blk off d).heap[g]?=w.heap[g]?:=by
 show(w.heap.modify blk _)[g]?=_;rw[aeX,if_neg (Ne.symm h)]
theorem Gn{w:World}{blk off:Nat}{d:Array Int}{cs:Array Value}{t:TypeId}{fr:Nat×Nat}(h:w.heap[blk]?=aag (.cells cs t fr)):(putRow (Value.int .i64) w blk off d).heap[blk]?=aag (.cells (putCells (Value.int .i64) off d cs) t fr):=by
 show(w.heap.modify blk _)[blk]?=_;rw[aeX,if_pos rfl,h]
 rfl
theorem rB{off:Nat}{d:Array Int}{cs:Array Value}:(putCells (Value.int .i64) off d cs).size=cs.size:=by simp[putCells]
theorem Jl{off:Nat}{d:Array Int}{cs:Array Value}{k:Nat}(h:off+d.size<=cs.size)(hk:k<d.size):(putCells (Value.int .i64) off d cs)[off+k]?=aag (.int .i64 d[k]!):=by
 unfold putCells;rw[ae8,ae9 (by omega)];simp only[Option.map_some];rw[if_pos (by omega),show off+k-off=k by omega]
theorem Nn{c:Cx}(hr:HRel c){l q:LI}{ver pY:Nat}(hH:c.H=[aag ⟨ver,1,3,l.map cI⟩]){cs:Array Value}{fr0:Nat×Nat}(hB:BRel c 0 ⟨ver,1,3,l.map cI⟩ cs<|aag fr0){d':Array Int}(hd:d'.size=l.length)(hq:q.length<=d'.size)
  (hqe:∀i(h:i<q.length),d'[i]! =q[i]) {m:Nat} {os:Array Obj} (hv:(pY=ver/\q.length=l.length)\/ver<pY) :
  ∃c',c'.w=grow (putRow (Value.int .i64) (Sort.ahead c.w m) (c.φ 0).1 (c.φ 0).2 d') os/\c'.H=[aag ⟨pY,1,3,q.map cI⟩]/\HRel c'/\Ext c c'/\c'.φ 0=c.φ 0/\c'.w.heap[(c.φ 0).1]?=aag (.cells (putCells (Value.int .i64) (c.φ 0).2 d' cs) 3 fr0):=by
 have hlv:c.live 0 ⟨ver,1,3,l.map cI⟩:=by
  unfold Cx.live;rw[hH]
  rfl
 have hat:c.w.heap[(c.φ 0).1]?=aag (.cells cs 3 fr0):=hB.at_;have hblk:(c.φ 0).1<c.w.heap.size:=hr.live_lt hlv;have hfit:(c.φ 0).2+l.length<=cs.size:=by
  have:=hB.fits;simpa using this
 have he1:Ext c (c.upd 0 ⟨pY,1,3,q.map cI⟩ ((c.φ 0).1,(c.φ 0).2) (putCells (Value.int .i64) (c.φ 0).2 d' cs)):=Cx.upd_ext hr hlv hB rB (by
  rcases hv with⟨h1,h2⟩|h
  .exact .inl ⟨h1,rfl,by simp[h2],rfl⟩
  exact .inr h)
 have hr1:=Cx.upd_rel hr hlv hB (k:=⟨pY,1,3,q.map cI⟩) (o:=(c.φ 0).2) (cs:=putCells (Value.int .i64) (c.φ 0).2 d' cs) rB rfl he1 Nat.one_pos (by rw[rB];simp;omega) (λi row h=>by
  obtain⟨x,_,rfl⟩:=by simpa [aeW,afa] using h
  rfl) (λi row j a h1 h2=>by
  have hi:i<q.length:=by simpa using (ges h1).1
  have hrw:row=cI q[i]:=by
   have:=(ges h1).2;rw[<- this];simp
  subst hrw
  match j,h2 with
  |0,h2=>
   obtain rfl:=osl h2;refine⟨.int .i64 d'[i]!,?_,rfl,?_⟩
   .have:=Jl (off:=(c.φ 0).2) (d:=d') (cs:=cs) (k:=i) (by omega) (by omega);simpa using this
   rw[hqe i hi];exact .fr<|.v rfl
  |j+1,h2=>simp[cI] at h2)
 have hbl:Below (c.upd 0 ⟨pY,1,3,q.map cI⟩ ((c.φ 0).1,(c.φ 0).2)<|putCells (Value.int .i64) (c.φ 0).2 d' cs).w.heap.size (c.upd 0 ⟨pY,1,3,q.map cI⟩ ((c.φ 0).1,(c.φ 0).2)<|putCells (Value.int .i64) (c.φ 0).2 d' cs).w (grow (putRow (Value.int .i64) (Sort.ahead c.w m) (c.φ 0).1 (c.φ 0).2 d') os):=by
  have hz:(c.upd 0 ⟨pY,1,3,q.map cI⟩ ((c.φ 0).1,(c.φ 0).2)<|putCells (Value.int .i64) (c.φ 0).2 d' cs).w.heap.size=c.w.heap.size:=by simp[Cx.upd]
  have hs:(putRow (Value.int .i64) (Sort.ahead c.w m) (c.φ 0).1 (c.φ 0).2 d').heap.size=c.w.heap.size:=by rw[size_putRow];rfl
  refine⟨rfl,rfl,rfl,?_,λg hg=>?_⟩
  .rw[hz];show _<=((putRow (Value.int .i64) (Sort.ahead c.w m) (c.φ 0).1 (c.φ 0).2 d').heap++os).size;rw[ae2,hs];omega
  rw[hz] at hg;show((putRow (Value.int .i64) (Sort.ahead c.w m) (c.φ 0).1 (c.φ 0).2 d').heap++os)[g]?=(c.w.setRow (c.φ 0).1<|putCells (Value.int .i64) (c.φ 0).2 d' cs).heap[g]?;rw[afb (by rw[hs];exact hg)]
  by_cases e:g=(c.φ 0).1
  .subst e;rw[Gn (w:=Sort.ahead c.w m) hat,setRow_heap _ _ _ _ _ _ hat]
  rw[Gm e,setRow_other _ _ _ _ e]
  rfl
 obtain⟨g1,g2⟩:=Bw hr1 hbl (fz':=λ_=>False) (λ_ h=>h.elim) (λ_ h=>h.elim) λ_ _ _ h=>h;refine⟨_,rfl,?_,g1,he1.trans g2,?_,?_⟩
 .show c.H.set 0 _=_;rw[hH]
  rfl
 .rfl
 have hz:(c.upd 0 ⟨pY,1,3,q.map cI⟩ ((c.φ 0).1,(c.φ 0).2)<|putCells (Value.int .i64) (c.φ 0).2 d' cs).w.heap.size=c.w.heap.size:=by simp[Cx.upd]
 have:=hbl.block (c.φ 0).1 (by rw[hz];exact hblk);refine this.trans ?_;show(c.w.setRow (c.φ 0).1<|putCells (Value.int .i64) (c.φ 0).2 d' cs).heap[_]?=_;exact setRow_heap _ _ _ _ _ _ hat
theorem Np{c:Cx}(hr:HRel c){l:LI}{ver:Nat}(hH:c.H=[aag ⟨ver,1,3,l.map cI⟩]){u:Value}(hu:c.rel (.hs 0 ver 1 0 l.length) u)(hn:0<l.length) :
  ∃cs fr0 cap,BRel c 0 ⟨ver,1,3,l.map cI⟩ cs (aag fr0)/\u= .slice (aag ⟨(c.φ 0).1,(c.φ 0).2,aah⟩) l.length cap/\l.length<=cap/\cap<=9223372036854775807/\(c.φ 0).2+cap<=cs.size/\Holds (Value.int .i64) c.w (c.φ 0).1 (c.φ 0).2 l.toArray/\(c.φ 0).1<c.w.heap.size:=by
 have hlv:c.live 0 ⟨ver,1,3,l.map cI⟩:=by
  unfold Cx.live;rw[hH]
  rfl
 obtain⟨cs,fr0,hB⟩:=hr.blk 0 _ hlv
 cases hu with
 |fr h=>cases h
 |@hs _ _ _ _ _ cap A hb hc hm h0 h=>
 obtain⟨f,rfl,hat,hhd⟩:=hB.cells hlv λx hx=>(h x hx).1;obtain⟨_,_,h3,h4⟩:=h _ hhd;have hA:=h3 (by omega);simp only[Nat.zero_mul,Nat.add_zero,Nat.mul_one] at hA h4;refine⟨cs,f,cap,hB,by rw[hA],hc,hm,h4,λj hj=>?_,hr.live_lt hlv⟩;have hj:j<l.length:=by simpa using hj
 have hj2:(c.φ 0).2+j<cs.size:=by omega
 obtain⟨u,g1,g2,g3⟩:=hB.rel j (cI l[j]) 0 (I l[j]) (by simp[hj]) rfl;refine⟨?_,?_⟩
 .simp only[World.cell?,hat];have:=iw g3;simp only[Nat.mul_one,Nat.add_zero] at g1;rw[g1];obtain⟨rfl,_⟩:=this;simp[hj]
 have:=hB.fre f rfl _ hj2;obtain⟨lo,hi'⟩:=f;simp only[World.frozen?,hat,aeU,decide_eq_false_iff_not];simp only at this;omega
open Go.Shelf Go.RowKit Go.Lib Go.Sort
def Ym:ae3:=⟨λ|23=>182|n=>n,λ|22=>25|3=>3|4=>4|0=>0|n=>n,λ|n=>n⟩
theorem Yn:Go.Proofs.Lays2.n23 aaj Ym where
 mixed:=by kernel_rfl
 f23:=func182.trans<|congrArg aag (by kernel_rfl)
 t0:=underlying0
 a0:=Tryz.isAgg0
 z0:=Tryz.sizeOf0
 v0:=Tryz.zeroValue0
 t3:=underlying3
 a3:=Tryz.isAgg3
 z3:=Tryz.sizeOf3
 v3:=Tryz.zeroValue3
 t4:=underlying4
 a4:=Tryz.isAgg4
 z4:=Tryz.sizeOf4
 v4:=Tryz.zeroValue4
 t22:=underlying25
 a22:=Tryz.isAgg25
 z22:=Tryz.sizeOf25
 v22:=Tryz.zeroValue25
 i3:=by kernel_rfl
open Go.ChangeShapes Go.WideShapes Go.ChangeAt Go.RowKit Go.Shelf Go.Sort
theorem Dq(l:LI)(i j:Int)(g:Bool)(ver:Nat)(hg:g=aae->l=[]){q}(h:ul l i j=aag q) :
  cN aaj 182 [hS g 0 ver 1 l.length,I i,I j] [bE g ver 1 3 (l.map cI)] (KO 1 3 (λx=>x) q.length (q.map cI) 0 []):=by
 obtain⟨⟨h0,h1,h2,hn⟩,h⟩:=gdD h;obtain rfl:=osl h;obtain rfl:g=aaf:=by
  cases g with
  |false=>rfl
  |true=>
   rw[hg rfl] at hn;exact absurd hn (by simp)
 refine⟨by kernel_rfl,λc vs hH hr hall=>?_⟩;obtain⟨hsz,hrel⟩:=hall;obtain⟨u,a,b,rfl⟩:∃u a b,vs=#[u,a,b]:=by
  match vs,hsz with
  |⟨[u,a,b]⟩,_=>exact⟨u,a,b,rfl⟩
 obtain⟨rfl,_⟩:=iw<|hrel 1 _ a rfl rfl;obtain⟨rfl,_⟩:=iw<|hrel 2 _ b rfl rfl;have hH:c.H=[aag ⟨ver,1,3,l.map cI⟩]:=hH;obtain⟨cs,fr0,cap,hB,rfl,hc,hm,hcs,hHo,hblk⟩:=Np hr hH (hrel 0 _ u rfl rfl) hn;have hcon:=Any.slices_Delete_int Yn (c.φ 0).1 (c.φ 0).2 cap i.toNat j.toNat l c.w hHo hc hm (by omega) (by omega);rw[show(i.toNat:Int)=i by omega,show(j.toNat:Int)=j by omega] at hcon;refine(show Calls aaj 182 _ _ _ from hcon).mono ?_;rintro e w' ⟨rfl,m,rfl⟩;have hql:(l.take i.toNat++l.drop j.toNat).length=l.length-(j.toNat-i.toNat):=by simp;omega
 have hdl:(l.take i.toNat++l.drop j.toNat++List.replicate (j.toNat-i.toNat) (0:Int)).toArray.size=l.length:=by simp;omega
 obtain⟨c',w1,w2,w3,w4,w5,w6⟩:=Nn hr hH hB (q:=l.take i.toNat++l.drop j.toNat) (pY:=ver+1) (d':=(l.take i.toNat++l.drop j.toNat++List.replicate (j.toNat-i.toNat) (0:Int)).toArray) hdl (by rw[hdl,hql];omega) (λk hk=>by
  rw[getElem!_pos _ k (by rw[hdl];omega)];simp only[List.getElem_toArray];rw[List.getElem_append_left hk]) (m:=m) (os:=#[]) (.inr (Nat.lt_succ_self _))
 rw[grow_empty] at w1;have hlv:c'.live 0 ⟨ver+1,1,3,(l.take i.toNat++l.drop j.toNat).map cI⟩:=by
  unfold Cx.live;rw[w2]
  rfl
 refine⟨_,c',hS aaf 0 (ver+1) 1 (l.take i.toNat++l.drop j.toNat).length,Z,w1,⟨aaf,ver+1,λe=>(by cases e),Z,w2⟩,w3,w4,?_⟩;rw[<- hql];refine .hs ?_ (by omega) hm (λ_=>⟨_,Z⟩) λx hx=>?_
 .unfold Cx.born;rw[show c'.H[0]?=aag (aag _) from hlv];exact Nat.le_refl _
 have:=Cx.hd_of hlv (by rw[w5];exact w6);rw[show(⟨ver+1,1,3,(l.take i.toNat++l.drop j.toNat).map cI⟩:ABlk).ver=ver+1 from rfl] at this;rw[this] at hx;obtain rfl:=osl hx;rw[w5];refine⟨Z,by simp,λ_=>by simp,?_⟩;show(c.φ 0).2+0*1+cap*1<=(putCells (Value.int .i64) (c.φ 0).2 _ cs).size;rw[rB];omega
def Yo:ae3:=⟨λ|5=>95|8=>158|7=>157|19=>207|20=>208|10=>198|11=>199|12=>200|13=>201|14=>202|15=>203|16=>204|17=>205|18=>206|30=>242|31=>243|32=>244|33=>245|34=>246|35=>217|40=>269|n=>n,λ|23=>25|25=>3|3=>3|32=>183|22=>25|0=>0|44=>214|46=>216|4=>4|36=>208|35=>207|41=>168|5=>5|9=>9|53=>230|57=>234|63=>250|64=>251|n=>n,λ|n=>n⟩
theorem Vb:Go.Proofs.SlLaysM.n5 aaj Yo where
 mixed:=by kernel_rfl
 f5:=⟨"slices.Sort[[]int,int]",by decide,Tryz.func95.trans (congrArg some (by kernel_rfl))⟩
 f7:=⟨"slices.pdqsortOrdered[int]",by decide,Tryz.func157.trans (congrArg some (by kernel_rfl))⟩
 f8:=func158.trans<|congrArg aag (by kernel_rfl)
 f10:=⟨"slices.insertionSortOrdered[int]",by decide,Tryz.func198.trans (congrArg some (by kernel_rfl))⟩
 f11:=⟨"slices.heapSortOrdered[int]",by decide,Tryz.func199.trans (congrArg some (by kernel_rfl))⟩
 f12:=⟨"slices.breakPatternsOrdered[int]",by decide,Tryz.func200.trans (congrArg some (by kernel_rfl))⟩
 f13:=⟨"slices.choosePivotOrdered[int]",by decide,Tryz.func201.trans (congrArg some (by kernel_rfl))⟩
 f14:=⟨"slices.reverseRangeOrdered[int]",by decide,Tryz.func202.trans (congrArg some (by kernel_rfl))⟩
 f15:=⟨"slices.partialInsertionSortOrdered[int]",by decide,Tryz.func203.trans (congrArg some (by kernel_rfl))⟩
 f16:=⟨"cmp.Less[int]",by decide,Tryz.func204.trans (congrArg some (by kernel_rfl))⟩
 f17:=⟨"slices.partitionEqualOrdered[int]",by decide,Tryz.func205.trans (congrArg some (by kernel_rfl))⟩
 f18:=⟨"slices.partitionOrdered[int]",by decide,Tryz.func206.trans (congrArg some (by kernel_rfl))⟩
 f19:=func207.trans<|congrArg aag (by kernel_rfl)
 f20:=func208.trans<|congrArg aag (by kernel_rfl)
 f30:=⟨"slices.siftDownOrdered[int]",by decide,Tryz.func242.trans (congrArg some (by kernel_rfl))⟩
 f31:=func243.trans<|congrArg aag (by kernel_rfl)
 f32:=func244.trans<|congrArg aag (by kernel_rfl)
 f33:=⟨"slices.medianAdjacentOrdered[int]",by decide,Tryz.func245.trans (congrArg some (by kernel_rfl))⟩
 f34:=⟨"slices.medianOrdered[int]",by decide,Tryz.func246.trans (congrArg some (by kernel_rfl))⟩
 f35:=⟨"cmp.isNaN[int]",by decide,Tryz.func217.trans (congrArg some (by kernel_rfl))⟩
 f40:=⟨"slices.order2Ordered[int]",by decide,Tryz.func269.trans (congrArg some (by kernel_rfl))⟩
 t0:=underlying0
 a0:=Tryz.isAgg0
 z0:=Tryz.sizeOf0
 v0:=Tryz.zeroValue0
 t3:=underlying3
 a3:=Tryz.isAgg3
 z3:=Tryz.sizeOf3
 v3:=Tryz.zeroValue3
 t4:=underlying4
 a4:=Tryz.isAgg4
 z4:=Tryz.sizeOf4
 v4:=Tryz.zeroValue4
 t5:=underlying5
 a5:=Tryz.isAgg5
 z5:=Tryz.sizeOf5
 v5:=Tryz.zeroValue5
 t9:=underlying9
 a9:=Tryz.isAgg9
 z9:=Tryz.sizeOf9
 v9:=Tryz.zeroValue9
 t22:=underlying25
 a22:=Tryz.isAgg25
 z22:=Tryz.sizeOf25
 v22:=Tryz.zeroValue25
 t23:=underlying25
 a23:=Tryz.isAgg25
 z23:=Tryz.sizeOf25
 v23:=Tryz.zeroValue25
 t25:=underlying3
 a25:=Tryz.isAgg3
 z25:=Tryz.sizeOf3
 v25:=Tryz.zeroValue3
 t32:=underlying183
 a32:=Tryz.isAgg183
 z32:=Tryz.sizeOf183
 v32:=Tryz.zeroValue183
 t35:=underlying207
 a35:=Tryz.isAgg207
 z35:=Tryz.sizeOf207
 v35:=Tryz.zeroValue207
 t36:=underlying208
 a36:=Tryz.isAgg208
 z36:=Tryz.sizeOf208
 v36:=Tryz.zeroValue208
 t41:=underlying168
 a41:=Tryz.isAgg168
 z41:=Tryz.sizeOf168
 v41:=Tryz.zeroValue168
 t44:=underlying214
 a44:=Tryz.isAgg214
 z44:=Tryz.sizeOf214
 v44:=Tryz.zeroValue214
 t46:=underlying216
 a46:=Tryz.isAgg216
 z46:=Tryz.sizeOf216
 v46:=Tryz.zeroValue216
 t53:=underlying230
 a53:=Tryz.isAgg230
 z53:=Tryz.sizeOf230
 v53:=Tryz.zeroValue230
 t57:=underlying234
 a57:=Tryz.isAgg234
 z57:=Tryz.sizeOf234
 v57:=Tryz.zeroValue234
 t63:=underlying250
 a63:=Tryz.isAgg250
 z63:=Tryz.sizeOf250
 v63:=Tryz.zeroValue250
 t64:=underlying251
 a64:=Tryz.isAgg251
 z64:=Tryz.sizeOf251
 v64:=Tryz.zeroValue251
theorem Gp(l:LI)(g:Bool)(ver:Nat)(hg:g=aae->l=[]){q}(h:sU l=aag q) :
  eZ aaj 95 [hS g 0 ver 1 l.length] [bE g ver 1 3 (l.map cI)] (.tup []) [bE g ver 1 3 (q.map cI)]:=by
 obtain⟨hl,h⟩:=gdD h;obtain rfl:=osl h;refine⟨by kernel_rfl,λc vs hH hr hall=>?_⟩;obtain⟨hsz,hrel⟩:=hall;obtain⟨u,rfl⟩:∃u,vs=#[u]:=by
  match vs,hsz with
  |⟨[u]⟩,_=>exact⟨u,rfl⟩
 have hu:=hrel 0 _ u rfl rfl
 by_cases hn:0<l.length
 .obtain rfl:g=aaf:=by
   cases g with
   |false=>rfl
   |true=>
    rw[hg rfl] at hn;exact absurd hn (by simp)
  have hH:c.H=[aag ⟨ver,1,3,l.map cI⟩]:=hH;obtain⟨cs,fr0,cap,hB,rfl,hc,hm,hcs,hHo,hblk⟩:=Np hr hH hu hn;have hcon:=AnyM.slices_Sort_int Vb (c.φ 0).1 (c.φ 0).2 cap l c.w hHo hblk hl;refine(show Calls aaj 95 _ _ _ from hcon).mono ?_;rintro e w' ⟨rfl,m,os,rfl⟩;have hll:(Tw l).length=l.length:=(um l).length_eq;obtain⟨c',w1,w2,w3,w4,w5,w6⟩:=Nn hr hH hB (q:=Tw l) (pY:=ver) (d':=(Tw l).toArray) (by simpa using hll) (by simp) (λk hk=>by
   rw[getElem!_pos _ k (by simpa using hk)];simp) (m:=m) (os:=os) (.inl ⟨rfl,hll⟩)
  exact⟨_,c',Z,w1,w2,w3,w4,.tup Z λi x y hx=>by simp at hx⟩
 obtain rfl:l=[]:=afc (by omega);obtain⟨A,cap,rfl⟩:∃A cap,u= .slice A 0 cap:=by
  cases g with
  |true=>
   cases hu with
   |fr h=>cases h;exact⟨_,_,rfl⟩
  |false=>
   obtain⟨A,cap,h6,_⟩:=ny hu;exact⟨A,cap,h6⟩
 refine(show Calls aaj 95 _ _ _ from AnyM.slices_Sort_int_none Vb A cap c.w).mono ?_;rintro e w' ⟨rfl,rfl⟩;refine⟨_,c,Z,Z,?_,hr,Ext.refl c,.tup Z λi x y hx=>by simp at hx⟩;rw[hH,(um []).eq_nil]
def Yp:ae3:=⟨λ|6=>96|15=>158|14=>159|28=>207|29=>208|20=>209|21=>210|22=>211|23=>212|24=>213|25=>214|26=>215|27=>216|46=>247|47=>243|48=>244|49=>248|50=>249|57=>270|n=>n,λ|22=>28|24=>25|25=>58|3=>3|39=>183|0=>0|53=>214|55=>216|4=>4|46=>208|45=>207|50=>168|5=>5|9=>9|66=>230|70=>234|76=>250|77=>251|n=>n,λ|n=>n⟩
theorem Vd:Go.Proofs.SlLaysF.n6 aaj Yp where
 mixed:=by kernel_rfl
 f6:=⟨"slices.SortFunc[[][]int,[]int]",by decide,Tryz.func96.trans (congrArg some (by kernel_rfl))⟩
 f14:=⟨"slices.pdqsortCmpFunc[[]int]",by decide,Tryz.func159.trans (congrArg some (by kernel_rfl))⟩
 f15:=func158.trans<|congrArg aag (by kernel_rfl)
 f20:=⟨"slices.insertionSortCmpFunc[[]int]",by decide,Tryz.func209.trans (congrArg some (by kernel_rfl))⟩
 f21:=⟨"slices.heapSortCmpFunc[[]int]",by decide,Tryz.func210.trans (congrArg some (by kernel_rfl))⟩
 f22:=⟨"slices.breakPatternsCmpFunc[[]int]",by decide,Tryz.func211.trans (congrArg some (by kernel_rfl))⟩
 f23:=⟨"slices.choosePivotCmpFunc[[]int]",by decide,Tryz.func212.trans (congrArg some (by kernel_rfl))⟩
 f24:=⟨"slices.reverseRangeCmpFunc[[]int]",by decide,Tryz.func213.trans (congrArg some (by kernel_rfl))⟩
 f25:=⟨"slices.partialInsertionSortCmpFunc[[]int]",by decide,Tryz.func214.trans (congrArg some (by kernel_rfl))⟩
 f26:=⟨"slices.partitionEqualCmpFunc[[]int]",by decide,Tryz.func215.trans (congrArg some (by kernel_rfl))⟩
 f27:=⟨"slices.partitionCmpFunc[[]int]",by decide,Tryz.func216.trans (congrArg some (by kernel_rfl))⟩
 f28:=func207.trans<|congrArg aag (by kernel_rfl)
 f29:=func208.trans<|congrArg aag (by kernel_rfl)
 f46:=⟨"slices.siftDownCmpFunc[[]int]",by decide,Tryz.func247.trans (congrArg some (by kernel_rfl))⟩
 f47:=func243.trans<|congrArg aag (by kernel_rfl)
 f48:=func244.trans<|congrArg aag (by kernel_rfl)
 f49:=⟨"slices.medianAdjacentCmpFunc[[]int]",by decide,Tryz.func248.trans (congrArg some (by kernel_rfl))⟩
 f50:=⟨"slices.medianCmpFunc[[]int]",by decide,Tryz.func249.trans (congrArg some (by kernel_rfl))⟩
 f57:=⟨"slices.order2CmpFunc[[]int]",by decide,Tryz.func270.trans (congrArg some (by kernel_rfl))⟩
 t0:=underlying0
 a0:=Tryz.isAgg0
 z0:=Tryz.sizeOf0
 v0:=Tryz.zeroValue0
 t3:=underlying3
 a3:=Tryz.isAgg3
 z3:=Tryz.sizeOf3
 v3:=Tryz.zeroValue3
 t4:=underlying4
 a4:=Tryz.isAgg4
 z4:=Tryz.sizeOf4
 v4:=Tryz.zeroValue4
 t5:=underlying5
 a5:=Tryz.isAgg5
 z5:=Tryz.sizeOf5
 v5:=Tryz.zeroValue5
 t9:=underlying9
 a9:=Tryz.isAgg9
 z9:=Tryz.sizeOf9
 v9:=Tryz.zeroValue9
 t22:=underlying28
 a22:=Tryz.isAgg28
 z22:=Tryz.sizeOf28
 v22:=Tryz.zeroValue28
 a24:=Tryz.isAgg25
 z24:=Tryz.sizeOf25
 t25:=underlying58
 a25:=Tryz.isAgg58
 z25:=Tryz.sizeOf58
 v25:=Tryz.zeroValue58
 t39:=underlying183
 a39:=Tryz.isAgg183
 z39:=Tryz.sizeOf183
 v39:=Tryz.zeroValue183
 t45:=underlying207
 a45:=Tryz.isAgg207
 z45:=Tryz.sizeOf207
 v45:=Tryz.zeroValue207
 t46:=underlying208
 a46:=Tryz.isAgg208
 z46:=Tryz.sizeOf208
 v46:=Tryz.zeroValue208
 t50:=underlying168
 a50:=Tryz.isAgg168
 z50:=Tryz.sizeOf168
 v50:=Tryz.zeroValue168
 t53:=underlying214
 a53:=Tryz.isAgg214
 z53:=Tryz.sizeOf214
 v53:=Tryz.zeroValue214
 t55:=underlying216
 a55:=Tryz.isAgg216
 z55:=Tryz.sizeOf216
 v55:=Tryz.zeroValue216
 t66:=underlying230
 a66:=Tryz.isAgg230
 z66:=Tryz.sizeOf230
 v66:=Tryz.zeroValue230
 t70:=underlying234
 a70:=Tryz.isAgg234
 z70:=Tryz.sizeOf234
 v70:=Tryz.zeroValue234
 t76:=underlying250
 a76:=Tryz.isAgg250
 z76:=Tryz.sizeOf250
 v76:=Tryz.zeroValue250
 t77:=underlying251
 a77:=Tryz.isAgg251
 z77:=Tryz.sizeOf251
 v77:=Tryz.zeroValue251
theorem Uw{α:Type}(f:α->LI):SWO (ltOf λx y=>cmpL (f x)<|f y) where
 irrefl x:=by simp[ltOf,uo]
 trans x y z h1 h2:=by
  simp only[ltOf,dte] at *;exact tQ h1 h2
 ntrans x y z h1 h2:=by
  simp only[ltOf,decide_eq_false_iff_not] at *;intro h;rcases xa (f x) (f y) with g|g|g
  .exact h1 g
  .rw[g] at h;exact h2 h
  exact h2<|tQ g h
theorem He(x y:Int)(w:World) :
  Calls aaj 160 #[.int .i64 x,.int .i64 y] w λe w'=>e= .returned (.int .i64<|if x<y then -1 else if y<x then 1 else 0)/\w'=w:=by
 go_enter func160,Tryz.ntmps160
 by_cases h1:x<y
 .rw[if_pos h1]
  go_wp2
  go_ret
  exact⟨rfl,rfl⟩
 rw[if_neg h1]
 by_cases h2:y<x
 .rw[if_pos h2]
  go_wp2
  go_ret
  exact⟨rfl,rfl⟩
 rw[if_neg h2]
 go_wp2
 go_ret
 exact⟨rfl,rfl⟩
theorem Mc{lo hi lo' hi':Nat}{u v:Value}{xs ys:LI}{w:World}(hu:Sl Xf 1 w lo hi u xs)(hv:Sl Xf 1 w lo' hi' v ys) :
  Calls aaj 97 #[u,v] w λe w'=>e= .returned (.int .i64<|cmpL xs ys)/\w'=w:=by
 obtain⟨A,ca,rfl,hca,hma,hA⟩:=hu.ints;obtain⟨B,cb,rfl,hcb,hmb,hB⟩:=hv.ints;have HAA:=Lib.hid hA;clear hA;have HBB:=Lib.hid hB;clear hB
 go_enter func97,Tryz.ntmps97
 go_wp2_with fail
 go_loopw [11] (λi wr=>∃k:Nat,k<=xs.length/\k<=ys.length/\i= .int .i64 k/\wr=w/\cmpL xs ys=cmpL (xs.drop k) (ys.drop k)) (λi _=>xs.length-(intOf i).toNat)
 case atStart=>exact⟨0,aeS _,aeS _,rfl,rfl,rfl⟩
 case round=>
  obtain⟨k,hk,hk2,rfl,rfl,he⟩:=hrel;have HE:=Lib.hid he;clear he
  by_cases hlt:k<xs.length
  .obtain⟨ba,oa,rfl,_,_,hba,hA⟩:=HAA.out (by omega);have ca1:=hA k hlt;clear hA;have i1:(0:Int)<=(k:Int):=by omega
   have i2:(k:Int)<(xs.length:Int):=by omega
   have HX:=Lib.hid<|ae4 hlt
   by_cases hlt2:k<ys.length
   .obtain⟨bb,ob,rfl,_,_,hbb,hB⟩:=HBB.out (by omega);have cb1:=hB k hlt2;clear hB;have i3:(k:Int)<(ys.length:Int):=by omega
    have HY:=Lib.hid<|ae4 hlt2;generalize xs[k]=x at *;generalize ys[k]=y at *;have hc:=He x y wr
    by_cases h1:x<y
    .rw[if_pos h1] at hc;have HR:=Lib.hid (show cmpL xs ys=-1 by rw[HE.out,HX.out,HY.out,cmpL,if_pos h1])
     go_wp2_with (go_at_call 160;refine hc.mono ?_;rintro e w' ⟨rfl,rfl⟩)
     go_ret
     exact⟨by rw[HR.out];rfl,rfl⟩
    rw[if_neg h1] at hc
    by_cases h2:y<x
    .rw[if_pos h2] at hc;have HR:=Lib.hid (show cmpL xs ys=1 by rw[HE.out,HX.out,HY.out,cmpL,if_neg h1,if_pos h2])
     go_wp2_with (go_at_call 160;refine hc.mono ?_;rintro e w' ⟨rfl,rfl⟩)
     go_ret
     exact⟨by rw[HR.out];rfl,rfl⟩
    rw[if_neg h2] at hc;have HR:=Lib.hid (show cmpL xs ys=cmpL (xs.drop<|k+1) (ys.drop<|k+1) by rw[HE.out,HX.out,HY.out,cmpL,if_neg h1,if_neg h2])
    go_wp2_with (go_at_call 160;refine hc.mono ?_;rintro e w' ⟨rfl,rfl⟩)
    go_roundw
    case rel=>exact⟨k+1,by omega,by omega,by go_num,by first|rfl|trivial,HR.out⟩
    case measure=>simp[intOf];omega
   have hky:k=ys.length:=by omega
   have i3:((ys.length:Int)<=(k:Int)):=by omega
   have HR:=Lib.hid (show cmpL xs ys=1 by rw[HE.out,HX.out,afd (show ys.length<=k by omega)];rfl);clear hky
   go_wp2_with fail
   go_ret
   exact⟨by rw[HR.out];rfl,rfl⟩
  have hkx:k=xs.length:=by omega
  have HF:=Lib.hid (show cmpL xs ys=cmpL [] (ys.drop xs.length) by rw[HE.out,hkx,List.drop_length]);clear HE;subst hkx
  by_cases hl:xs.length<ys.length
  .have i3:((xs.length:Int)<(ys.length:Int)):=by omega
   go_wp2_with fail
   go_ret
   exact⟨by rw[HF.out,ae4 hl];rfl,rfl⟩
  have i3 : ¬ ((xs.length:Int)<(ys.length:Int)):=by omega
  go_wp2_with fail
  go_ret
  exact⟨by rw[HF.out,afd (by omega)];rfl,rfl⟩
theorem BX{w:World}{fz:Nat->Prop}{v:Value}{l:LI}(h:FRel w fz (eL cI l) v):Sl Xf 1 w 0 w.heap.size v l:=by
 have:=OH (f:=Xf) (s:=1) (c:=cI) (e:=id) (λ_=>rfl) (λ_=>rfl) h
 rwa [List.map_id] at this
def Rd1(w:World)(fz:Nat->Prop):Type:={ p:Value×LI // p.1.oneCell'=aae/\FRel w fz (eL cI p.2) p.1 }
theorem Sk(w:World)(fz:Nat->Prop):FRel w fz (eL cI ([]:LI)) (.slice aah 0 0):=
 .sl (s:=1) (g:=0) (o:=0) (λ_ _=>.bool aaf) (Nat.le_refl _) (by decide) (λh=>absurd h<|by simp) (λi h=>absurd h<|by simp) (λi j a h=>absurd h<|by simp) (λi j a h=>absurd h<|by simp) λi j a h=>absurd h (by simp)
instance{w:World}{fz:Nat->Prop}:Inhabited (Rd1 w fz):=⟨⟨(.slice aah 0 0,[]),rfl,Sk w fz⟩⟩
def Jt{w:World}{fz:Nat->Prop}(x:Rd1 w fz):Value:=x.1.1
def Sn{w:World}{fz:Nat->Prop}(x:Rd1 w fz):LI:=x.1.2
theorem Ar{α:Type}[Inhabited α]{enc:α->Value}{w:World}{blk off g:Nat}{d:Array α}(h:g≠blk):(putRow enc w blk off d).heap[g]?=w.heap[g]?:=by
 show(w.heap.modify blk _)[g]?=_;rw[aeX,if_neg (Ne.symm h)]
theorem Hf{α:Type}[Inhabited α]{enc:α->Value}{w:World}{blk off:Nat}{d:Array α}{cs:Array Value}{t:TypeId}{fr:Nat×Nat}(h:w.heap[blk]?=aag (.cells cs t fr)):(putRow enc w blk off d).heap[blk]?=aag (.cells (putCells enc off d cs) t fr):=by
 show(w.heap.modify blk _)[blk]?=_;rw[aeX,if_pos rfl,h]
 rfl
theorem Au{α:Type}[Inhabited α]{enc:α->Value}{w:World}{blk off m g:Nat}{d:Array α}{os:Array Obj}(hg:g<w.heap.size):(sortWorld enc w blk off m d os).heap[g]?=(putRow enc w blk off d).heap[g]?:=by
 show((putRow enc (Sort.ahead w m) blk off d).heap++os)[g]?=_;have hs:(putRow enc (Sort.ahead w m) blk off d).heap.size=w.heap.size:=by rw[size_putRow];rfl
 rw[afb (by rw[hs];exact hg)]
 rfl
theorem xy{α:Type}[Inhabited α]{enc:α->Value}{off:Nat}{d:Array α}{cs:Array Value}:(putCells enc off d cs).size=cs.size:=by simp[putCells]
theorem KD{α:Type}[Inhabited α]{enc:α->Value}{off:Nat}{d:Array α}{cs:Array Value}{k:Nat}(h:off+d.size<=cs.size)(hk:k<d.size):(putCells enc off d cs)[off+k]?=aag (enc d[k]!):=by
 unfold putCells;rw[ae8,ae9 (by omega)];simp only[Option.map_some];rw[if_pos (by omega),show off+k-off=k by omega]
theorem WA{c:Cx}{blk off size:Nat}(hnf : ¬ c.fz blk)(hlt:∀g,c.fz g->g<c.w.heap.size):CmpLays1 aaj 97 #[] (Jt (w:=c.w) (fz:=c.fz)) (λx y=>cmpL (Sn x)<|Sn y) blk off size c.w:=by
 intro m os dk hs x y;have hW:∀g,c.fz g->g<c.w.heap.size->(sortWorld Jt c.w blk off m dk os).heap[g]?=c.w.heap[g]? /\ c.fz g:=λg hg hl=>by
  rw[Au hl,Ar (by rintro rfl;exact hnf hg)];exact⟨rfl,hg⟩
 have hsz:c.w.heap.size<=(sortWorld Jt c.w blk off m dk os).heap.size:=by
  show _<=((putRow Jt (Sort.ahead c.w m) blk off dk).heap++os).size;rw[ae2,size_putRow];show c.w.heap.size<=c.w.heap.size+os.size;omega
 have hx:=BX<|x.2.2.mono hsz hW;have hy:=BX<|y.2.2.mono hsz hW;refine(Mc hx hy).mono λe w' ⟨he,hw⟩=>⟨he,0,#[],?_⟩;rw[hw,grow_empty]
 rfl
theorem Ux{c:Cx}(hr:HRel c){l:LL}{ver:Nat}(hH:c.H=[aag ⟨ver,1,25,l.map<|cL cI⟩]){u:Value}(hu:c.rel (.hs 0 ver 1 0 l.length) u)(hl:l.length<4611686018427387904)(hn:0<l.length) :
  Calls aaj 96 #[u,.func (.func 97) #[] #[]] c.w λe w'=>∃c',e= .returned (.tuple #[])/\c'.w=w'/\c'.H=[aag ⟨ver,1,25,(JU l).map<|cL cI⟩]/\HRel c'/\Ext c c':=by
 have hlv:c.live 0 ⟨ver,1,25,l.map<|cL cI⟩:=by
  unfold Cx.live;rw[hH]
  rfl
 obtain⟨cs,fr0,hB⟩:=hr.blk 0 _ hlv
 cases hu with
 |fr h=>cases h
 |@hs _ _ _ _ _ cap A hb hc hm h0 h=>
 obtain⟨f,rfl,hat,hhd⟩:=hB.cells hlv λx hx=>(h x hx).1;obtain⟨_,_,h3,_⟩:=h _ hhd;have hA:=h3 (by omega);have hfit:(c.φ 0).2+l.length<=cs.size:=by
  have:=hB.fits;simpa using this
 have hrow:∀i(hi:i<l.length),∃p:Rd1 c.w c.fz,cs[(c.φ 0).2+i]?=aag (Jt p)/\Sn p=l[i]:=λi hi=>by
  obtain⟨u,g1,g2,g3⟩:=hB.rel i (cL cI l[i]) 0 (eL cI l[i]) (by simp[hi]) rfl;refine⟨⟨(u,l[i]),g2,AA 1 _ _ rfl g3⟩,?_,rfl⟩;show _=aag u;simpa using g1
 obtain⟨d,hds,hd1,hd2⟩:∃d:Array (Rd1 c.w c.fz),d.size=l.length/\(∀i,i<l.length->cs[(c.φ 0).2+i]?=aag (Jt d[i]!))/\d.toList.map Sn=l:=by
  refine⟨Array.ofFn (λi:_root_.Fin l.length=>(hrow i.1 i.2).choose),by simp,λi hi=>?_,?_⟩
  .rw[getElem!_pos _ i (by simpa using hi),afe];exact(hrow i hi).choose_spec.1
  apply List.ext_getElem
  .simp
  intro i h1 h2;simp only[List.getElem_map,Array.getElem_toList,afe];exact(hrow i h2).choose_spec.2
 have hblk:(c.φ 0).1<c.w.heap.size:=hr.live_lt hlv;have hH2:Holds (Jt (w:=c.w) (fz:=c.fz)) c.w (c.φ 0).1 (c.φ 0).2 d:=λj hj=>by
  have hj2:(c.φ 0).2+j<cs.size:=by omega
  refine⟨?_,?_⟩
  .simp only[World.cell?,hat];exact hd1 j (by omega)
  have:=hB.fre f rfl _ hj2;obtain⟨lo,hi'⟩:=f;simp only[World.frozen?,hat,aeU,decide_eq_false_iff_not];simp only at this;omega
 have eg:∀args w,(callFunc 97 args).run aaj w= .ok (.enter 97 args) w:=enters_of func97 (by kernel_rfl) rfl;have hcon:=Any.slices_SortFunc Vd (Jt (w:=c.w) (fz:=c.fz)) (λx=>x.2.1) (λx y=>cmpL (Sn x)<|Sn y) (Uw Sn) 97 #[] (c.φ 0).1 (c.φ 0).2 cap d c.w eg (WA (hr.not_fz hlv) hr.lt) hH2 hblk (by omega);rw[hA,show(c.φ 0).2+0*1=(c.φ 0).2 by omega,<- hds];refine(show Calls aaj 96 _ _ _ from hcon).mono ?_;rintro e w' ⟨rfl,d',m,os,hp,hs,rfl⟩;have hds':d'.size=l.length:=hp.1.trans hds;have hpl:d'.toList.Perm d.toList:=by
  have:=hp.2.2
  rwa [aff (by omega),aff (by omega)] at this
 have hsl:d'.toList.map Sn=JU l:=by
  refine FZ ((hpl.map Sn).trans<|hd2 ▸ (uq l).symm) ?_<|FY l;rw[List.pairwise_map,List.pairwise_iff_getElem];intro i j h1 h2 hij;have:=hs i j (aeS _) hij (by rw[hds,<- hds'];simpa using h2);rw[getElem!_pos d' j (by simpa using h2),getElem!_pos d' i (by simpa using h1)] at this;unfold ltOf at this;unfold leL;rw[dte];simpa using this
 have hat':∀i(hi:i<(JU l).length),Sn d'[i]! =(JU l)[i]:=λi hi=>by
  have hi2:i<d'.size:=by
   rw[(uq l).length_eq] at hi;omega
  rw[getElem!_pos d' i hi2];have : (d'.toList.map Sn)[i]?=(JU l)[i]?:=by rw[hsl]
  rw[geq (by simpa using hi2),geq hi] at this;simpa using this
 have hll:(JU l).length=l.length:=(uq l).length_eq;have he1:Ext c (c.upd 0 ⟨ver,1,25,(JU l).map (cL cI)⟩ ((c.φ 0).1,(c.φ 0).2) (putCells Jt (c.φ 0).2 d' cs)):=Cx.upd_ext hr hlv hB xy (.inl ⟨rfl,rfl,by simp[hll],rfl⟩);have hr1:=Cx.upd_rel hr hlv hB (k:=⟨ver,1,25,(JU l).map (cL cI)⟩) (o:=(c.φ 0).2) (cs:=putCells Jt (c.φ 0).2 d' cs) xy rfl he1 Nat.one_pos (by rw[xy];simpa [hll] using hfit) (λi row h=>by
  obtain⟨x,_,rfl⟩:=by simpa [aeW,afa] using h
  rfl) (λi row j a h1 h2=>by
  have hi:i<(JU l).length:=by simpa using (ges h1).1
  have hrw:row=cL cI (JU l)[i]:=by
   have:=(ges h1).2;rw[<- this];simp
  subst hrw
  match j,h2 with
  |0,h2=>
   obtain rfl:=osl h2;refine⟨Jt d'[i]!,?_,d'[i]!.2.1,?_⟩
   .have:=KD (enc:=Jt) (off:=(c.φ 0).2) (d:=d') (cs:=cs) (k:=i) (by omega) (by omega);simpa using this
   rw[<- hat' i hi];exact .fr d'[i]!.2.2
  |j+1,h2=>simp[cL] at h2)
 have hbl:Below (c.upd 0 ⟨ver,1,25,(JU l).map<|cL cI⟩ ((c.φ 0).1,(c.φ 0).2)<|putCells Jt (c.φ 0).2 d' cs).w.heap.size (c.upd 0 ⟨ver,1,25,(JU l).map<|cL cI⟩ ((c.φ 0).1,(c.φ 0).2)<|putCells Jt (c.φ 0).2 d' cs).w (sortWorld Jt c.w (c.φ 0).1 (c.φ 0).2 m d' os):=by
  have hz:(c.upd 0 ⟨ver,1,25,(JU l).map<|cL cI⟩ ((c.φ 0).1,(c.φ 0).2)<|putCells Jt (c.φ 0).2 d' cs).w.heap.size=c.w.heap.size:=by simp[Cx.upd]
  refine⟨rfl,rfl,rfl,?_,λg hg=>?_⟩
  .rw[hz];show _<=((putRow Jt (Sort.ahead c.w m) (c.φ 0).1 (c.φ 0).2 d').heap++os).size;rw[ae2,size_putRow];show c.w.heap.size<=c.w.heap.size+os.size;omega
  rw[hz] at hg;rw[Au hg];show _=(c.w.setRow (c.φ 0).1<|putCells Jt (c.φ 0).2 d' cs).heap[g]?
  by_cases e:g=(c.φ 0).1
  .subst e;rw[Hf hat,setRow_heap _ _ _ _ _ _ hat]
  rw[Ar e,setRow_other _ _ _ _ e]
 obtain⟨g1,g2⟩:=Bw hr1 hbl (fz':=λ_=>False) (λ_ h=>h.elim) (λ_ h=>h.elim) λ_ _ _ h=>h;refine⟨_,rfl,rfl,?_,g1,he1.trans g2⟩;show c.H.set 0 _=_;rw[hH]
 rfl
theorem A8(l:LL)(g:Bool)(ver:Nat)(hg:g=aae->l=[]){q}(h:iM l=aag q) :
  eZ aaj 96 [hS g 0 ver 1 l.length,.fn (.func 97) []] [bE g ver 1 25 (l.map<|cL cI)] (.tup []) [bE g ver 1 25 (q.map<|cL cI)]:=by
 obtain⟨hl,h⟩:=gdD h;obtain rfl:=osl h;refine⟨by kernel_rfl,λc vs hH hr hall=>?_⟩;obtain⟨hsz,hrel⟩:=hall;obtain⟨u,f,rfl⟩:∃u f,vs=#[u,f]:=by
  match vs,hsz with
  |⟨[u,f]⟩,_=>exact⟨u,f,rfl⟩
 have hu:=hrel 0 _ u rfl rfl;obtain⟨vs2,rfl,h5,_⟩:=DV<|hrel 1 _ f rfl rfl;obtain rfl:vs2=#[]:=Array.eq_empty_of_size_eq_zero h5
 by_cases hn:0<l.length
 .obtain rfl:g=aaf:=by
   cases g with
   |false=>rfl
   |true=>
    rw[hg rfl] at hn;exact absurd hn (by simp)
  refine(Ux hr hH hu hl hn).mono ?_;rintro e w' ⟨c',rfl,hw,hH',h1,h2⟩;exact⟨_,c',Z,hw,hH',h1,h2,.tup Z λi x y hx=>by simp at hx⟩
 obtain rfl:l=[]:=afc (by omega);obtain⟨A,cap,rfl⟩:∃A cap,u= .slice A 0 cap:=by
  cases g with
  |true=>
   cases hu with
   |fr h=>cases h;exact⟨_,_,rfl⟩
  |false=>
   obtain⟨A,cap,h6,_⟩:=ny hu;exact⟨A,cap,h6⟩
 refine(show Calls aaj 96 _ _ _ from AnyF.slices_SortFunc_none { Vd with } A cap _ c.w).mono ?_;rintro e w' ⟨rfl,rfl⟩;refine⟨_,c,Z,Z,?_,hr,Ext.refl c,.tup Z λi x y hx=>by simp at hx⟩;rw[hH,(uq []).eq_nil]
open Go.RowKit
end
end Go.Proofs.YtoagamanbofngaaGreatDoor
