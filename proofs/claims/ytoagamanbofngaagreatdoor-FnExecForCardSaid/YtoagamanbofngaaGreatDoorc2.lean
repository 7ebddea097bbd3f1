/- Texts joined. No conditions. -/
import Derived.Laws.BytesArg
import Derived.ChangeKeysEq
import Derived.Lib.Bytealg
import Derived.Laws.Externs
import Derived.Lib.Join
import Derived.Test.YtoagamanbofngaaGreatDoorc1
namespace Go.Proofs.YtoagamanbofngaaGreatDoor
noncomputable section
set_option linter.defProp false
open _root_.Inhabited renaming default -> aad
open _root_.Bool renaming true -> aae
open _root_.Bool renaming false -> aaf
open _root_.Option renaming some -> aag
open _root_.Option renaming none -> aah
open _root_.Decidable renaming decide -> aai
open _root_.Nat renaming ble -> aaW,blt -> aaX,le_refl -> aa1,zero_add -> aa3,beq -> aa5,lt_or_ge -> aa9,add_mul -> abb,zero_le -> abf,mul_le_mul_right -> abh,add_assoc -> abl,add_comm -> abw,add_zero -> abx,mul_comm -> abC,eq_of_beq_eq_true -> abD,ble_eq_true_of_le -> abG,min_eq_left -> abN
open _root_.List renaming replicate -> aaY,all_eq_true -> aaZ,range -> aa0,getElem?_set_ne -> aa2,ext_getElem? -> aa4,getElem?_cons_zero -> aa7,mem_of_getElem? -> aba,mem_map -> abe,length_take -> abj,getElem?_take -> abk,getElem?_set_self -> abn,mem_replicate -> abo,range'_succ -> abp,length_replicate -> abu,contains_eq_mem -> aby,getElem?_map -> abF,mem_range -> abJ,length_drop -> abO
open _root_.BitVec renaming ofInt -> aa6
open _root_.Array renaming getElem?_toList -> aa8,replicate -> abd,mem_of_getElem? -> abg,getElem?_eq_getElem -> abt,getElem?_eq_some_iff -> abz,length_toList -> abA,range -> abB,setIfInBounds_comm -> abH,any_eq_true' -> abK,mem_toList_iff -> abL,getElem?_append_left -> abQ,getElem?_map -> abR
open _root_.Bool renaming or_eq_true -> abm,not_eq_true' -> abI,eq_false_iff -> abM
open _root_.Option renaming map_some -> abq,bind_eq_some_iff -> abr,map_eq_some_iff -> abv,bind_some -> abE,isSome_iff_exists -> abP
theorem osi{α:Type}{a b:α}(h:aag a=aag b):a=b:=osl h
open Go.RowKit
def Fg(k:Env->AH->Prop)(Q:Exit->Env->AH->Prop):Exit->Env->AH->Prop:=λx e H=>match x with
 | .normal=>k e H
 |x=>Q x e H
def PZ(i:Nat)(Q:Exit->Env->AH->Prop):Exit->Env->AH->Prop:=λx e H=>match x with
 | .exit j=>bif aa5 j i then Q .normal e H else Q (.exit j) e H
 |x=>Q x e H
def T(P:Program)(nt b0:Nat)(code:Code)(Q:Exit->Env->AH->Prop)(e:Env)(H:AH):Prop:=
 codeOk nt code=aae->∀(c c0:Cx)(a:Act),c.H=H->c0.H.length<=b0->Ext c0 c->SRel c nt e a->code.wp P (WM nt c0 Q) a c.w
def TO(P:Program)(nt b0:Nat)(ops:Array Oper)(l:List Oper)(Q:Exit->Env->AH->Prop)(e:Env)(H:AH):Prop:=
 NS nt ops.toList=aae->∀(k:Nat),(∀j,l[j]?=ops[k+j]?)->k+l.length=ops.size->∀(c c0:Cx)(a:Act),c.H=H->c0.H.length<=b0->Ext c0 c->SRel c nt e a->wpOps P ops (WM nt c0 Q) (List.range' k l.length) a c.w
section
variable{P:Program}{nt b0:Nat}{Q:Exit->Env->AH->Prop}{e e0:Env}{H H0:AH}
theorem T.skip(h:Q .normal e H):T P nt b0 .skip Q e H:=λ_ c c0 a hH _ hx hs=>wp_skip ⟨trivial,c,e,rfl,hx,hs,hH ▸ h⟩
theorem T.ret(h:Q .ret e H):T P nt b0 .ret Q e H:=λ_ c c0 a hH _ hx hs=>wp_ret ⟨trivial,c,e,rfl,hx,hs,hH ▸ h⟩
theorem T.exit{i:Nat}(h:Q (.exit i) e H):T P nt b0 (.exit i) Q e H:=λ_ c c0 a hH _ hx hs=>wp_exit ⟨trivial,c,e,rfl,hx,hs,hH ▸ h⟩
theorem T.cut{code:Code}(hs:bK b0 e H e0 H0)(h:T P nt b0 code Q e0 H0):T P nt b0 code Q e H:=by
 intro hok c c0 a hH hb hx hr;subst hH;obtain⟨c',h4,h5,h6,h7⟩:=hs.state hx hr hb;rw[<- h4];exact h hok c' c0 a h7 hb h5 h6
theorem T.weak{code:Code}(hw:GX e e0)(h:T P nt b0 code Q e0 H):T P nt b0 code Q e H:=h.cut<|.inl ⟨rfl,hw⟩
theorem T.seq{x y:Code}(h:T P nt b0 x (Fg (T P nt b0 y Q) Q) e H):T P nt b0 (.seq x y) Q e H:=by
 intro hok c c0 a hH hb hx hr;simp[codeOk,bae] at hok;refine wp_seq<|wp_mono (h hok.1 c c0 a hH hb hx hr) λex a' w' hl=>?_;obtain⟨hg,c',e',rfl,hx',hs',hq⟩:=hl
 cases ex with
 |normal=>exact hq hok.2 c' c0 a' rfl hb hx' hs'
 |exit i=>exact⟨hg,c',e',rfl,hx',hs',hq⟩
 |ret=>exact⟨hg,c',e',rfl,hx',hs',hq⟩
 |_=>exact hg.elim
theorem T.reserve{code:Code}(h:T P nt b0 code Q e<|H++[aah]):T P nt b0 code Q e H:=by
 intro hok c c0 a hH hb hx hr;subst hH;exact h hok c.res c0 a rfl hb (hx.trans c.res_ext) ⟨hr.size,hr.defers,λt=>(hr.rel t).ext hr.heap c.res_ext,Cx.res_heap hr.heap⟩
def Cut(b0:Nat){S G:Type}(ok:S->Prop)(inv:S->G->Prop)(slots:S->G->List (Nat×AV))(heap:S->G->AH)(e:Env)(H:AH):Prop:=
 ∃s g,ok s/\inv s g/\bK b0 e H (ak<|slots s g) (heap s g)
theorem T.mono{code:Code}{Q':Exit->Env->AH->Prop}(h:T P nt b0 code Q e H)(hq:∀x e H,Q x e H->∀c c0:Cx,∀a:Act,c.H=H->c0.H.length<=b0->Ext c0 c->SRel c nt e a->WM nt c0 Q' x a c.w)(hg:∀x e H,Q x e H->Vl x):T P nt b0 code Q' e H:=by
 intro hok c c0 a hH hb hx hr;refine wp_mono (h hok c c0 a hH hb hx hr) λex a' w' ⟨_,c',e',hw,_,_,_⟩=>?_
 grind
theorem T.join{S G:Type}{x y:Code}(ok:S->Prop)(inv:S->G->Prop)(slots:S->G->List (Nat×AV))(heap:S->G->AH)
  (J:∀s g,ok s->inv s g->T P nt b0 y Q (ak<|slots s g) (heap s g)) (h:T P nt b0 x (Fg (Cut b0 ok inv slots heap) Q) e H):T P nt b0 (.seq x y) Q e H:=by
 intro hok c c0 a hH hb hx hr;simp[codeOk,bae] at hok;refine wp_seq<|wp_mono (h hok.1 c c0 a hH hb hx hr) λex a' w' hl=>?_;obtain⟨hg,c',e',rfl,hx',hs',hq⟩:=hl
 cases ex with
 |normal=>
  obtain⟨s,g,h1,h2,h3⟩:=hq;obtain⟨c2,h4,h5,h6,h7⟩:=h3.state hx' hs' hb;rw[<- h4];exact J s g h1 h2 hok.2 c2 c0 a' h7 hb h5 h6
 |exit i=>exact⟨hg,c',e',rfl,hx',hs',hq⟩
 |ret=>exact⟨hg,c',e',rfl,hx',hs',hq⟩
 |_=>exact hg.elim
theorem T.block{i:Nat}{x:Code}(h:T P nt b0 x (PZ i Q) e H):T P nt b0 (.block i x) Q e H:=by
 intro hok c c0 a hH hb hx hr;refine wp_block<|wp_mono (h hok c c0 a hH hb hx hr) λex a' w' hl=>?_;obtain⟨hg,c',e',rfl,hx',hs',hq⟩:=hl
 cases ex with
 |exit j=>
  simp only[PZ] at hq;simp[Exit.inBlock]
  cases hb:aa5 j i with
  |true=>
   rw[hb] at hq;rw[if_pos (abD hb)];exact⟨trivial,c',e',rfl,hx',hs',hq⟩
  |false=>
   rw[hb] at hq;rw[if_neg (λhe=>by simp_all)];exact⟨trivial,c',e',rfl,hx',hs',hq⟩
 |normal=>exact⟨hg,c',e',rfl,hx',hs',hq⟩
 |ret=>exact⟨hg,c',e',rfl,hx',hs',hq⟩
 |_=>exact hg.elim
theorem T.cond{q:Bool}{x:Operand}{t f:Code}(hc:rho e x= .v (.bool q))(h1:q=aae->T P nt b0 t Q e H)(h2:q=aaf->T P nt b0 f Q e H):T P nt b0 (.cond x t f) Q e H:=by
 intro hok c c0 a hH hb hx hr;simp[codeOk,bae] at hok;have hrel:=hr.rho x;rw[hc] at hrel;have he:=(iw hrel).1
 cases q with
 |true=>exact wp_cond_true he (h1 rfl hok.1 c c0 a hH hb hx hr)
 |false=>exact wp_cond_false he (h2 rfl hok.2 c c0 a hH hb hx hr)
theorem T.region{i:Nat}{ops:Array Oper}(h:TO P nt b0 ops ops.toList Q e H):T P nt b0 (.region i ops aaf) Q e H:=by
 intro hok c c0 a hH hb hx hr;refine wp_region ?_;have:=h hok 0 (λj=>by simp) (by simp) c c0 a hH hb hx hr;rw[List.range_eq_range'];omega
theorem TO.nil{ops:Array Oper}(h:Q .normal e H):TO P nt b0 ops [] Q e H:=by
 intro hd k hl hn c c0 a hH hb hx hr;exact⟨trivial,c,e,rfl,hx,hr,hH ▸ h⟩
theorem TO.cut{ops:Array Oper}{l:List Oper}(hs:bK b0 e H e0 H0)(h:TO P nt b0 ops l Q e0 H0):TO P nt b0 ops l Q e H:=by
 intro hd k hl hn c c0 a hH hb hx hr;subst hH;obtain⟨c',h4,h5,h6,h7⟩:=hs.state hx hr hb;rw[<- h4];exact h hd k hl hn c' c0 a h7 hb h5 h6
def EvA(P:Program)(ρ:Operand->AV)(op:Op)(H:AH)(r:AV)(H':AH):Prop:=∀o:Oper,o.op=op->ZP P o ρ H r H'
def ZT(P:Program)(ρ:Operand->AV)(op:Op)(r:AV):Prop:=∀o:Oper,o.op=op->∀G,ZP P o ρ G r G
theorem EvA.mk{ρ:Operand->AV}{op:Op}{r:AV}{H H':AH}(h:∀K:AV->AH->Prop,K r H'->aop P ρ op H K):EvA P ρ op H r H':=λo ho=>by
 obtain⟨r',H2,hop,hr',hH'⟩:=WY (K:=λr' H2=>r'=r/\H2=H') (by rw[ho];exact h _ ⟨rfl,rfl⟩)
 simp_all
theorem ZT.mk{ρ:Operand->AV}{op:Op}{r:AV}(h:∀K:AV->Prop,K r->WL P ρ op K):ZT P ρ op r:=λo ho=>by
 obtain⟨r',hop,hr'⟩:=Vj (by rw[ho];exact h _ rfl)
 simp_all
theorem ZT.toA{ρ:Operand->AV}{op:Op}{r:AV}{H:AH}(h:ZT P ρ op r):EvA P ρ op H r H:=λo ho=>h o ho H
theorem JM{ops:Array Oper}{c:Cx}{a:Act}{j:Nat}{q:Bool}(hs:SRel c nt e a)(hq:fe ops.toList e j= .v (.bool q)):yielded ops a.tmps j=aag q:=by
 unfold fe at hq
 split at hq
 .rename_i d hd';rw[aa8] at hd';have hrel:=hs.rel d;rw[hq] at hrel;have:=(iw hrel).1;unfold yielded
  by_cases hlt:d<a.tmps.size
  .simp_all
  have e2:a.tmps.getD d undef=undef:=by grind
  rw[e2] at this
  cases this
 simp_all
theorem P5{ops:Array Oper}{c:Cx}{a:Act}{j:Nat}(hs:SRel c nt e a)(hq:fe ops.toList e j= .tup []):yielded ops a.tmps j=aah:=by
 unfold fe at hq
 split at hq
 .rename_i d hd';rw[aa8] at hd';have hrel:=hs.rel d;rw[hq] at hrel;obtain⟨us,h1,_⟩:=CE hrel;unfold yielded
  by_cases hlt:d<a.tmps.size
  .simp_all
  grind
 simp_all
def CH(ops:Array Oper)(e:Env)(o:Oper)(w:Bool):Prop:=∀(nt:Nat)(c:Cx)(a:Act),SRel c nt e a->Region.wanted o (yielded ops a.tmps)=w
theorem CH.free{ops:Array Oper}{o:Oper}(h:o.guard=aah):CH ops e o aae:=λ_ _ _ _=>by simp[Region.wanted,h]
theorem CH.yes{ops:Array Oper}{o:Oper}{j:Nat}{b q:Bool}(h:o.guard=aag (j,b))(hy:fe ops.toList e j= .v (.bool q))(hq:q=b):CH ops e o aae:=λ_ _ _ hs=>by
 subst hq;simp[Region.wanted,h,JM hs hy]
theorem CH.no{ops:Array Oper}{o:Oper}{j:Nat}{b q:Bool}(h:o.guard=aag (j,b))(hy:fe ops.toList e j= .v (.bool q))(hq:q= !b):CH ops e o aaf:=λ_ _ _ hs=>by
 simp[Region.wanted,h,JM hs hy]
 simp_all
theorem CH.un{ops:Array Oper}{o:Oper}{j:Nat}{b:Bool}(h:o.guard=aag (j,b))(hy:fe ops.toList e j= .tup []):CH ops e o aaf:=λ_ _ _ hs=>by
 simp[Region.wanted,h,P5 hs hy]
theorem TO.run{ops:Array Oper}{o:Oper}{l:List Oper}{r:AV}{H':AH}(hw:CH ops e o aae)(hv:EvA P (rho e) o.op H r H')(h:TO P nt b0 ops l Q (ww e o.dst r) H'):TO P nt b0 ops (o::l) Q e H:=by
 intro hd k hl hn c c0 a hH hb hx hr;have h0:=by simpa using (hl 0).symm
 have ho:o∈ops.toList:=by grind
 have hl':∀j,l[j]?=ops[k+1+j]?:=λj=>by have:=hl<|j+1;grind
 simp[llc] at hn;simp[llc,abp,wpOps,h0];rw[if_pos (hw nt c a hr)];refine .inl<|hv o rfl c a _ _ hH hr.heap (λx _=>hr.rho x) λv c' hH' hr' hx' hv=>?_;exact h hd (k+1) hl' (by omega) c' c0 _ hH' hb (hx.trans hx')<|hr.put o.dst (rC hd ho) hx' hr' hv
theorem TO.pass{ops:Array Oper}{o:Oper}{l:List Oper}(hw:CH ops e o aaf)(h:TO P nt b0 ops l Q (ww e o.dst<|.tup []) H):TO P nt b0 ops (o::l) Q e H:=by
 intro hd k hl hn c c0 a hH hb hx hr;have h0:=by simpa using (hl 0).symm
 have ho:o∈ops.toList:=by grind
 have hl':∀j,l[j]?=ops[k+1+j]?:=λj=>by have:=hl<|j+1;grind
 simp[llc] at hn;simp[llc,abp,wpOps,h0];rw[hw nt c a hr];exact h hd (k+1) hl' (by omega) c c0 _ hH hb hx<|hr.put o.dst (rC hd ho) (Ext.refl c) hr.heap<|.tup rfl (λi q u hq=>by grind)
def TL(P:Program)(cls:Nat->Nat):Nat->List Oper->(Env->AH->Prop)->Env->AH->Prop
 |_,[],K,e,H=>K e H
 |k,o::rest,K,e,H=>∃r H',NR P (cls k) o (rho e) H r H'/\TL P cls (k+1) rest K (ww e o.dst r) H'
theorem TL.nil{cls:Nat->Nat}{k:Nat}{K:Env->AH->Prop}(h:K e H):TL P cls k [] K e H:=h
theorem TL.op1{cls:Nat->Nat}{k:Nat}{K:Env->AH->Prop}{o:Oper}{l:List Oper}{r:AV}(hc:cls k=1)(hv:EvA P (rho e) o.op H r H)(h:TL P cls (k+1) l K (ww e o.dst r) H):TL P cls k (o::l) K e H:=
 ⟨r,H,.inr<|.inl ⟨hc,rfl,hv o rfl⟩,h⟩
def Eb{S E:Type}(step:S->Option (S ⊕ E)):Nat->S->Option E
 |0,_=>aah
 |n+1,s=>match step s with
  |none=>aah
  |some (.inl s')=>Eb step n s'
  |some (.inr x)=>aag x
theorem CI{S E:Type}{step:S->Option (S ⊕ E)}{x:E}:∀(n m:Nat)(s:S),n<=m->Eb step n s=aag x->Eb step m s=aag x
 |0,_,_,_,h=>by cases h
 |n+1,0,_,hle,_=>by omega
 |n+1,m+1,s,hle,h=>by
  simp[Eb] at h ⊢
  split at h
  .cases h
  .exact CI n m _ (by omega) h
  omega
open Classical in
def aA{S E:Type}(step:S->Option (S ⊕ E))(s:S):Option E:=if h:∃x,∃n,Eb step n s=aag x then aag h.choose else aah
theorem Bx{S E:Type}{step:S->Option (S ⊕ E)}{s:S}{x:E}:aA step s=aag x↔∃n,Eb step n s=aag x:=by
 unfold aA
 constructor
 .intro h
  split at h
  .grind
  grind
 rintro⟨n,h⟩;have hx:∃x,∃n,Eb step n s=aag x:=⟨x,n,h⟩;obtain⟨m,hm⟩:=hx.choose_spec;have h1:=CI n (max n m) s (by omega) h;have h2:=CI m (max n m) s (by omega) hm
 simp_all
theorem Bz{S E:Type}(step:S->Option (S ⊕ E))(s:S):aA step s=(step s).bind λz=>match z with
  | .inl s'=>aA step s'
  | .inr x=>aag x:=by
 apply Option.ext;intro x;rw[Bx]
 constructor
 .rintro⟨n,h⟩
  cases n with
  |zero=>cases h
  |succ n=>
   simp[Eb] at h
   split at h
   .cases h
   .rename_i s' hs;rw[hs];exact Bx.2 ⟨n,h⟩
   simp_all
 intro h
 cases hs:step s with
 |none=>simp_all
 |some z=>
  rw[hs] at h
  cases z with
  |inl s'=>
   obtain⟨n,hn⟩:=Bx.1 h;exact⟨n+1,by simp[Eb,hs];exact hn⟩
  |inr y=>exact⟨1,by simp only[Eb,hs];exact h⟩
theorem JN{S E:Type}{step:S->Option (S ⊕ E)}(st:Nat->S)(n:Nat){x:E}(h:∀i,i<n->step (st i)=aag (.inl<|st<|i+1))(hx:step (st n)=aag (.inr x)):aA step (st 0)=aag x:=by
 have key:∀k i,i+k=n->aA step (st i)=aag x:=by
  intro k
  induction k with
  |zero=>intro i hi;rw[Bz,show i=n by omega,hx];rfl
  |succ k ih=>intro i hi;rw[Bz];grind
 simp_all
def Ec(b0:Nat){S E G:Type}(inv:S->G->Prop)(slots:S->G->List (Nat×AV))(heap:S->G->AH)(z:S ⊕ E)(e:Env)(H:AH):Prop:=∃s g,z= .inl s/\inv s g/\bK b0 e H (ak<|slots s g) (heap s g)
def Leave{S E:Type}(Q:Exit->Env->AH->Prop)(x:E)(z:S ⊕ E):Exit->Env->AH->Prop:=λex e H=>∃y,z= .inr y/\(y=x->Q ex e H)
theorem T.loop{S E G:Type}{body:Code}{x:E}(step:S->Option (S ⊕ E))(inv:S->G->Prop)(slots:S->G->List (Nat×AV))(heap:S->G->AH){s0:S}(g0:G)(hx0:aA step s0=aag x)(hi:inv s0 g0)
  (hs:bK b0 e H (ak<|slots s0 g0)<|heap s0 g0)
  (round:∀s g z,step s=aag z->inv s g->T P nt b0 body (Fg (Ec b0 inv slots heap z)<|Leave Q x z) (ak<|slots s g) (heap s g)):T P nt b0 (.loop body) Q e H:=by
 refine T.cut hs ?_;intro hok c c0 a hH hb hx hr;obtain⟨n,hn⟩:=Bx.1 hx0;refine NV (λn a w=>∃c' s g,c'.w=w/\c'.H=heap s g/\Ext c0 c'/\SRel c' nt (ak<|slots s g) a/\inv s g/\Eb step n s=aag x) ⟨c,s0,g0,rfl,hH,hx,hr,hi,hn⟩ λm a' w' ⟨c',s',g',hw',hH',hx',hs',hi',hm⟩=>?_;subst hw'
 cases m with
 |zero=>cases hm
 |succ m=>
  simp[Eb] at hm
  cases hst:step s' with
  |none=>simp_all
  |some z=>
   rw[hst] at hm;refine wp_mono (round s' g' z hst hi' hok c' c0 a' hH' hb hx' hs') λex a2 w2 hl=>?_;obtain⟨hg,c2,e2,rfl,hx2,hs2,hq⟩:=hl;have other:∀ex,Vl ex->ex ≠ .normal->Fg (Ec b0 inv slots heap z) (Leave Q x z) ex e2 c2.H->Q ex e2 c2.H:=λex hg hne hq=>by
    have hq:Leave Q x z ex e2 c2.H:=by
     cases ex with
     |normal=>grind
     |_=>exact hq
    obtain⟨y,rfl,hy⟩:=hq
    simp_all
   cases ex with
   |normal=>
    obtain⟨s3,g3,rfl,hi3,hst3⟩:=hq;obtain⟨c3,h4,h5,h6,h7⟩:=hst3.state hx2 hs2 hb;exact⟨m,by omega,c3,s3,g3,h4,h7,h5,h6,hi3,hm⟩
   |exit i=>exact⟨hg,c2,e2,rfl,hx2,hs2,by grind⟩
   |ret=>exact⟨hg,c2,e2,rfl,hx2,hs2,by grind⟩
   |_=>exact hg.elim
end
open Go.RowKit
abbrev I(n:Int):AV:=.v<|.int .i64 n
abbrev Bo(b:Bool):AV:=.v<|.bool b
abbrev St(s:BA):AV:=.v<|.string s
abbrev Y(n:Int):AV:=.v<|.int .u8 n
def eL{α:Type}[Inhabited α](f:α->List AV)(l:List α):AV:=.sl l.length λi=>f<|l.getD i aad
structure TyF(P:Program)(t:TypeId)(ag:Bool)(n:Nat):Prop where
 ag:Bj P t=ag
 und:(P.underlying t).isSome=aae
 cells:P.cellsOf t=n
 info:(P.info? t).isSome=aae
structure TyZ(P:Program)(t:TypeId)(zs:List AV):Prop where
 z:((P.info? t).bind (·.zero)).map eC=aag zs
 one:((P.info? t).bind (·.zero)).map (λz=>nW z.cells)=aag aae
structure TyS(P:Program)(t:TypeId)(pl:List (Nat×Nat)):Prop where
 s:(match P.underlying t with
  |some (.struct fs)=>fs.toList.mapM (λf=>(P.info? f.type).map λi=>(f.offset,i.size))
  |_=>aah)=aag pl
def wC(ag:Bool)(n:Nat)(row:List AV)(j:Nat):Option AV:=match ag with
 |true=>if j+n<=row.length then aag (.agg<|(row.drop j).take n) else aah
 |false=>row[j]?
section
variable{P:Program}{ρ:Operand->AV}{H H':AH}{x y z:Operand}{a b c:AV}{t u:TypeId}
theorem ZT.mv(a:AV)(h:ρ x=a):ZT P ρ (.move x) a:=.mk λK hK=>by
 show(ρ x).force K;rw[AV.force_iff,h];exact hK
theorem ZT.asg(a:AV)(h:ρ x=a):ZT P ρ (.assign x) a:=.mk λK hK=>by
 show(ρ x).force K;rw[AV.force_iff,h];exact hK
theorem ZT.pickT{q:Bool}(hc:ρ x= .v (.bool q))(hq:q=aae)(a:AV)(h:ρ y=a):ZT P ρ (.pick x y z) a:=.mk λK hK=>by
 show Bc P ρ (.pick x y z) K;subst hq;simp[Bc,hc];rw[AV.force_iff,h];exact hK
theorem ZT.pickF{q:Bool}(hc:ρ x= .v (.bool q))(hq:q=aaf)(a:AV)(h:ρ z=a):ZT P ρ (.pick x y z) a:=.mk λK hK=>by
 show Bc P ρ (.pick x y z) K;subst hq;simp[Bc,hc];refine Br.no rfl ?_;rw[AV.force_iff,h];exact hK
theorem ZT.nilfp{row:List AV}{j:Nat}(h:ρ x= .fp row j):ZT P ρ (.nilCheck x) (.fp row j):=.mk λK hK=>by
 show Bc P ρ (.nilCheck x) K;simp[Bc,h];exact hK
theorem ZT.nilhp{b q s i j:Nat}(h:ρ x= .hp b q s i j):ZT P ρ (.nilCheck x) (.hp b q s i j):=.mk λK hK=>by
 show Bc P ρ (.nilCheck x) K;simp[Bc,h];exact hK
theorem BB{ag:Bool}{n:Nat}(ty:TyF P t ag n){row:List AV}{j:Nat}{K:AV->Prop}(hp:wC ag n row j=aag a)(hK:K a):apart P t row j K:=by
 unfold apart;rw[ty.ag]
 cases ag with
 |true=>
  simp only[wC] at hp
  split at hp
  .rename_i hle;injection hp with hp;rw[ty.cells];refine Ck.intro (decide_eq_true hle) ?_;rw[wy,hp];exact hK
  simp_all
 |false=>
  have hd:row.drop j=a::row.drop (j+1):=by
   obtain⟨hlt,h1⟩:=ges hp;rw[List.drop_eq_getElem_cons hlt,h1]
  rw[hd];simp only;have:=ty.und
  split
  .rw[AV.force_iff];exact hK
  simp_all
theorem ZT.loadfp(a:AV){ag:Bool}{n:Nat}(ty:TyF P t ag n){row:List AV}{j:Nat}(h:ρ x= .fp row j)(hp:wC ag n row j=aag a):ZT P ρ (.load t x) a:=.mk λK hK=>by
 show Bc P ρ (.load t x) K;simp[Bc,h];exact BB ty hp hK
section
variable{k:IntKind}{m n:Int}
theorem ZT.add(hx:ρ x= .v (.int k m))(hy:ρ y= .v (.int k n))(hw:k.wrap (m+n)=m+n):ZT P ρ (.binOp .add t x y u) (.v<|.int k<|m+n):=.mk λK hK=>by
 show DU P .add t (ρ x) (ρ y) K
 simp_all
 exact Ck.intro (by simp) ⟨hw,hK⟩
theorem ZT.sub(hx:ρ x= .v (.int k m))(hy:ρ y= .v (.int k n))(hw:k.wrap (m-n)=m-n):ZT P ρ (.binOp .sub t x y u) (.v<|.int k<|m-n):=.mk λK hK=>by
 show DU P .sub t (ρ x) (ρ y) K
 simp_all
 exact Ck.intro (by simp) ⟨hw,hK⟩
theorem ZT.mul(hx:ρ x= .v (.int k m))(hy:ρ y= .v (.int k n))(hw:k.wrap (m*n)=m*n):ZT P ρ (.binOp .mul t x y u) (.v<|.int k<|m*n):=.mk λK hK=>by
 show DU P .mul t (ρ x) (ρ y) K
 simp_all
 exact Ck.intro (by simp) ⟨hw,hK⟩
theorem ZT.quo(hx:ρ x= .v (.int k m))(hy:ρ y= .v (.int k n))(h0:n≠0)(hw:k.wrap (m.tdiv n)=m.tdiv n):ZT P ρ (.binOp .quo t x y u) (.v<|.int k<|m.tdiv n):=.mk λK hK=>by
 show DU P .quo t (ρ x) (ρ y) K
 simp_all
 exact Ck.intro (by simp) ⟨h0,hw,hK⟩
theorem ZT.rem(hx:ρ x= .v (.int k m))(hy:ρ y= .v (.int k n))(h0:n≠0):ZT P ρ (.binOp .rem t x y u) (.v<|.int k<|m.tmod n):=.mk λK hK=>by
 show DU P .rem t (ρ x) (ρ y) K
 simp_all
 exact Ck.intro (by simp) ⟨h0,hK⟩
def jc(k:IntKind)(m n:Int):Int:=k.wrap ((aa6 k.bits m&&&aa6 k.bits n).toNat:Int)
def bOr(k:IntKind)(m n:Int):Int:=k.wrap ((aa6 k.bits m|||aa6 k.bits n).toNat:Int)
def W7(k:IntKind)(m n:Int):Int:=k.wrap ((aa6 k.bits m ^^^ aa6 k.bits n).toNat:Int)
def p5(k:IntKind)(m n:Int):Int:=k.wrap ((aa6 k.bits m &&& ~~~aa6 k.bits n).toNat:Int)
def ME(k:IntKind)(m n:Int):Int:=k.wrap<|m*2 ^ (min n.toNat k.bits)
def mZ(k:IntKind)(m n:Int):Int:=m.fdiv<|2 ^ (min n.toNat k.bits)
theorem ZT.band(hx:ρ x= .v (.int k m))(hy:ρ y= .v (.int k n)):ZT P ρ (.binOp .and t x y u) (.v<|.int k<|jc k m n):=.mk λK hK=>by
 show DU P .and t (ρ x) (ρ y) K
 simp_all
 exact Ck.intro (by simp) hK
theorem ZT.bor(hx:ρ x= .v (.int k m))(hy:ρ y= .v (.int k n)):ZT P ρ (.binOp .or t x y u) (.v<|.int k<|bOr k m n):=.mk λK hK=>by
 show DU P .or t (ρ x) (ρ y) K
 simp_all
 exact Ck.intro (by simp) hK
theorem ZT.bxor(hx:ρ x= .v (.int k m))(hy:ρ y= .v (.int k n)):ZT P ρ (.binOp .xor t x y u) (.v<|.int k<|W7 k m n):=.mk λK hK=>by
 show DU P .xor t (ρ x) (ρ y) K
 simp_all
 exact Ck.intro (by simp) hK
theorem ZT.bandNot(hx:ρ x= .v (.int k m))(hy:ρ y= .v (.int k n)):ZT P ρ (.binOp .andNot t x y u) (.v<|.int k<|p5 k m n):=.mk λK hK=>by
 show DU P .andNot t (ρ x) (ρ y) K
 simp_all
 exact Ck.intro (by simp) hK
theorem ZT.shl{k':IntKind}(hx:ρ x= .v (.int k m))(hy:ρ y= .v (.int k' n))(h0:0<=n):ZT P ρ (.binOp .shl t x y u) (.v<|.int k<|ME k m n):=.mk λK hK=>by
 show DU P .shl t (ρ x) (ρ y) K
 simp_all
 exact⟨h0,hK⟩
theorem ZT.shr{k':IntKind}(hx:ρ x= .v (.int k m))(hy:ρ y= .v (.int k' n))(h0:0<=n):ZT P ρ (.binOp .shr t x y u) (.v<|.int k<|mZ k m n):=.mk λK hK=>by
 show DU P .shr t (ρ x) (ρ y) K
 simp_all
 exact⟨h0,hK⟩
theorem ZT.ieq(hx:ρ x= .v (.int k m))(hy:ρ y= .v (.int k n)):ZT P ρ (.binOp .eql t x y u) (.v<|.bool<|m==n):=.mk λK hK=>by
 show DU P .eql t (ρ x) (ρ y) K
 simp_all
 exact Ck.intro (by simp) hK
theorem ZT.ine(hx:ρ x= .v (.int k m))(hy:ρ y= .v (.int k n)):ZT P ρ (.binOp .neq t x y u) (.v<|.bool<|m != n):=.mk λK hK=>by
 show DU P .neq t (ρ x) (ρ y) K
 simp_all
 exact Ck.intro (by simp) hK
theorem ZT.ilt(hx:ρ x= .v (.int k m))(hy:ρ y= .v (.int k n)):ZT P ρ (.binOp .lss t x y u) (.v<|.bool<|aai<|m<n):=.mk λK hK=>by
 show DU P .lss t (ρ x) (ρ y) K
 simp_all
 exact Ck.intro (by simp) hK
theorem ZT.ile(hx:ρ x= .v (.int k m))(hy:ρ y= .v (.int k n)):ZT P ρ (.binOp .leq t x y u) (.v<|.bool<|aai<|m<=n):=.mk λK hK=>by
 show DU P .leq t (ρ x) (ρ y) K
 simp_all
 exact Ck.intro (by simp) hK
theorem ZT.igt(hx:ρ x= .v (.int k m))(hy:ρ y= .v (.int k n)):ZT P ρ (.binOp .gtr t x y u) (.v<|.bool<|aai<|n<m):=.mk λK hK=>by
 show DU P .gtr t (ρ x) (ρ y) K
 simp_all
 exact Ck.intro (by simp) hK
theorem ZT.ige(hx:ρ x= .v (.int k m))(hy:ρ y= .v (.int k n)):ZT P ρ (.binOp .geq t x y u) (.v<|.bool<|aai<|n<=m):=.mk λK hK=>by
 show DU P .geq t (ρ x) (ρ y) K
 simp_all
 exact Ck.intro (by simp) hK
theorem ZT.neg(hx:ρ x= .v (.int k m))(hw:k.wrap (0-m)=0-m):ZT P ρ (.unOp .neg t x) (.v<|.int k<|0-m):=.mk λK hK=>by
 show aun .neg (ρ x) K;simp[aun,hx]
 simp_all
theorem ZT.iconv{k':IntKind}{d:TypeId}(hs:(P.underlying t).isSome=aae)(hd:P.underlying d=aag (.int k'))(hx:ρ x= .v (.int k m))(hw:k'.wrap m=m):ZT P ρ (.convert t d x) (.v<|.int k' m):=.mk λK hK=>by
 show NE P t d (ρ x) K;obtain⟨q,hq⟩:=abP.1 hs;simp[NE,hx,hd,hq]
 simp_all
end
theorem ZT.sconv{d:TypeId}{s:BA}(hs:(P.underlying t).isSome=aae)(hd:P.underlying d=aag .string)(hx:ρ x= .v (.string s)):ZT P ρ (.convert t d x) (.v<|.string s):=.mk λK hK=>by
 show NE P t d (ρ x) K;obtain⟨q,hq⟩:=abP.1 hs;simp[NE,hx,hd,hq];exact hK
theorem ZT.cat{s r:BA}(hx:ρ x= .v (.string s))(hy:ρ y= .v (.string r))(hn:s.size+r.size<=9223372036854775807):ZT P ρ (.binOp .add t x y u) (.v<|.string<|s++r):=.mk λK hK=>by
 show DU P .add t (ρ x) (ρ y) K;simp[DU,hx,hy]
 simp_all
theorem ZT.seq{s r:BA}(hx:ρ x= .v (.string s))(hy:ρ y= .v (.string r)):ZT P ρ (.binOp .eql t x y u) (.v<|.bool<|aai<|s=r):=.mk λK hK=>by
 show DU P .eql t (ρ x) (ρ y) K
 simp_all
 exact hK
theorem ZT.sne{s r:BA}(hx:ρ x= .v (.string s))(hy:ρ y= .v (.string r)):ZT P ρ (.binOp .neq t x y u) (.v<|.bool<|!decide (s=r)):=.mk λK hK=>by
 show DU P .neq t (ρ x) (ρ y) K
 simp_all
 exact hK
theorem ZT.beq{p q:Bool}(ht:wW P t=aae)(hx:ρ x= .v (.bool p))(hy:ρ y= .v (.bool q)):ZT P ρ (.binOp .eql t x y u) (.v<|.bool<|p==q):=.mk λK hK=>by
 show DU P .eql t (ρ x) (ρ y) K
 simp_all
 exact Ck.intro ht hK
theorem ZT.bne{p q:Bool}(ht:wW P t=aae)(hx:ρ x= .v (.bool p))(hy:ρ y= .v (.bool q)):ZT P ρ (.binOp .neq t x y u) (.v<|.bool<|!(p==q)):=.mk λK hK=>by
 show DU P .neq t (ρ x) (ρ y) K
 simp_all
 exact Ck.intro ht hK
theorem ZT.not{p:Bool}(hx:ρ x= .v (.bool p)):ZT P ρ (.unOp .not t x) (.v<|.bool !p):=.mk λK hK=>by
 show aun .not (ρ x) K
 simp_all
 exact hK
theorem ZT.fafp{fs:Array Field}{f:Nat}{fl:Field}{row:List AV}{j:Nat}(hu:P.underlying t=aag (.struct fs))(hf:fs[f]?=aag fl)(hc:(P.cellsOf fl.type != 0)=aae)(hx:ρ x= .fp row j):ZT P ρ (.fieldAddr t x f) (.fp row<|j+fl.offset):=.mk λK hK=>by
 show Bc P ρ (.fieldAddr t x f) K;simp[Bc,hu,hf,hx];exact Ck.intro hc hK
theorem ZT.fahp{fs:Array Field}{f:Nat}{fl:Field}{b v s i j:Nat}(hu:P.underlying t=aag (.struct fs))(hf:fs[f]?=aag fl)(hc:(P.cellsOf fl.type != 0)=aae)(hx:ρ x= .hp b v s i j):ZT P ρ (.fieldAddr t x f) (.hp b v s i<|j+fl.offset):=.mk λK hK=>by
 show Bc P ρ (.fieldAddr t x f) K;simp[Bc,hu,hf,hx];exact Ck.intro hc hK
theorem ZT.field(a:AV){fs:Array Field}{f:Nat}{fl:Field}{cs:List AV}{ag:Bool}{n:Nat}(hu:P.underlying t=aag (.struct fs))(hf:fs[f]?=aag fl)(ty:TyF P fl.type ag n)(hx:ρ x= .agg cs)(hp:wC ag n cs fl.offset=aag a):ZT P ρ (.field t x f) a:=.mk λK hK=>by
 show Bc P ρ (.field t x f) K;simp[Bc,hu,hf,hx];exact BB ty hp hK
theorem ZT.ixsl{e:TypeId}{ag:Bool}{w n:Nat}{row:Nat->List AV}{k:IntKind}{q:Int}(hu:P.underlying t=aag (.slice e))(ty:TyF P e ag w)(hx:ρ x= .sl n row)(hy:ρ y= .v (.int k q))(hq:0<=q/\q<n)(hl:(row q.toNat).length=w) :
  ZT P ρ (.indexAddr t x y) (.fp (row q.toNat) 0):=.mk λK hK=>by
 show iK P t (ρ x) (ρ y) K;simp[iK,hu,hx,hy];refine⟨hq,Ck.intro ?_ hK⟩;rw[hl,ty.cells,ty.info];simp
theorem ZT.ixhs{e:TypeId}{ag:Bool}{w b ver off len:Nat}{k:IntKind}{q:Int}(hu:P.underlying t=aag (.slice e))(ty:TyF P e ag w)(hx:ρ x= .hs b ver w off len)(hy:ρ y= .v (.int k q))(hq:0<=q/\q<len) :
  ZT P ρ (.indexAddr t x y) (.hp b ver w (off+q.toNat) 0):=.mk λK hK=>by
 show iK P t (ρ x) (ρ y) K;simp[iK,hu,hx,hy];refine⟨hq,Ck.intro ?_ hK⟩;rw[ty.cells,ty.info];simp
theorem ZT.ixst{s:BA}{k:IntKind}{q:Int}(hu:P.underlying t=aag .string)(hx:ρ x= .v (.string s))(hy:ρ y= .v (.int k q))(hq:0<=q/\q<s.size):ZT P ρ (.index t x y) (.v<|.int .u8 ((s.data.getD q.toNat 0).toNat:Int)):=.mk λK hK=>by
 show FC P t (ρ x) (ρ y) K;simp[FC,hu,hx,hy]
 simp_all
def bnd(ρ:Operand->AV)(x:Option Operand)(d m:Int):Prop:=match x with
 |none=>d=m
 |some y=>∃k,ρ y= .v (.int k m)
theorem bnd.no{d:Int}:bnd ρ aah d d:=rfl
theorem bnd.yes{d m:Int}{k:IntKind}(h:ρ y= .v (.int k m)):bnd ρ (aag y) d m:=⟨k,h⟩
theorem zL{w:Option Operand}{d m:Int}{K:Int->Prop}(h:bnd ρ w d m)(hK:K m):bound (w.map ρ) d K:=by
 cases w with
 |none=>obtain rfl:=h;exact hK
 |some y=>
  obtain⟨k,h⟩:=h
  simp_all
  exact hK
theorem ZT.slst{s:BA}{lo hi:Option Operand}{l h:Int}(hu:P.underlying t=aag .string)(hx:ρ x= .v (.string s))(hl:bnd ρ lo 0 l)(hh:bnd ρ hi s.size h)(hq:0<=l/\l<=h/\h<=s.size):ZT P ρ (.slice t x lo hi aah) (.v<|.string<|s.extract l.toNat h.toNat):=.mk λK hK=>by
 show Ag P t (ρ x) (lo.map ρ) (hi.map ρ) aah K;simp[Ag,hu,hx];exact zL hl<|zL hh ⟨hq,hK⟩
theorem ZT.slsl{e:TypeId}{ag:Bool}{w n:Nat}{row:Nat->List AV}{lo hi:Option Operand}{l h:Int}(hu:P.underlying t=aag (.slice e))(ty:TyF P e ag w)(hx:ρ x= .sl n row)(hl:bnd ρ lo 0 l)(hh:bnd ρ hi n h)(hq:0<=l/\l<=h/\h<=n)(hr:∀i,i<n->(row i).length=w) :
  ZT P ρ (.slice t x lo hi aah) (.sl (h.toNat-l.toNat) λi=>row<|i+l.toNat):=.mk λK hK=>by
 show Ag P t (ρ x) (lo.map ρ) (hi.map ρ) aah K;simp[Ag,hu,hx];exact zL hl<|zL hh ⟨⟨hq.1,hq.2.1,hq.2.2,λi hi=>(hr i hi).trans ty.cells.symm,ty.info⟩,hK⟩
theorem ZT.slhs{e:TypeId}{ag:Bool}{w b ver off n:Nat}{lo hi:Option Operand}{l h:Int}(hu:P.underlying t=aag (.slice e))(ty:TyF P e ag w)(hx:ρ x= .hs b ver w off n)(hl:bnd ρ lo 0 l)(hh:bnd ρ hi n h)(hq:0<=l/\l<=h/\h<=n) :
  ZT P ρ (.slice t x lo hi aah) (.hs b ver w (off+l.toNat)<|h.toNat-l.toNat):=.mk λK hK=>by
 show Ag P t (ρ x) (lo.map ρ) (hi.map ρ) aah K;simp[Ag,hu,hx];exact zL hl<|zL hh ⟨⟨hq.1,hq.2.1,hq.2.2,ty.cells.symm,ty.info⟩,hK⟩
theorem ZT.ext(a:AV){xs:List AV}{i:Nat}(hx:ρ x= .tup xs)(hi:xs[i]?=aag a):ZT P ρ (.extract x i) a:=.mk λK hK=>by
 show Bc P ρ (.extract x i) K;obtain⟨hlt,h1⟩:=ges hi;simp[Bc,hx];refine Ck.intro (decide_eq_true hlt) ?_;rw[AV.force_iff]
 simp_all
theorem ZT.build(cs:List AV){parts:Array (Nat×Operand)}{fs:Array Field}{zs:List AV}{pl:List (Nat×Nat)}{ps:List (Nat×AV)}(hu:P.underlying t=aag (.struct fs))(z:TyZ P t zs)(s:TyS P t pl)(hp:(parts.toList.map λp=>(p.1,ρ p.2))=ps)(hf:FD (pl.toArray[·]?) zs ps=aag cs) :
  ZT P ρ (.build t parts) (.agg cs):=.mk λK hK=>by
 show JA P t (parts.toList.map λp=>(p.1,ρ p.2)) K;rw[hp];have hz:=z.z;have ho:=z.one;have hs:=s.s
 cases hi:P.info? t with
 |none=>simp_all
 |some i=>
  rw[hi] at hz ho
  cases hzz:i.zero with
  |none=>simp_all
  |some zv=>
   simp[abE,hzz,abq,sie] at hz ho;rw[hu] at hs;simp only[JA,hi,hu,hzz,hs,hz,hf];exact Ck.intro ho hK
theorem ZT.mkfn{f:Fn}{first pK:Array Operand}(cs:List AV)(h0:(first.size==0)=aae)(hc:pK.toList.map ρ=cs):ZT P ρ (.makeFunc f first pK) (.fn f cs):=.mk λK hK=>by
 show Bc P ρ (.makeFunc f first pK) K;simp[Bc,hc];exact Ck.intro h0 hK
theorem ZT.of_acallN{cl:Call}{r:AV}(hv:∀f,cl.callee ≠ .value f)(h:∀K:AV->Prop,K r->wz P ρ cl.callee cl.args.toList cl.argTypes.toList K):ZT P ρ (.call cl) r:=.mk λK hK=>by
 unfold WL
 cases hc:cl.callee with
 |value f=>simp_all
 |invoke x m=>simp_all;show wz P ρ cl.callee cl.args.toList cl.argTypes.toList K;simp_all
 |builtin f=>simp_all;show wz P ρ cl.callee cl.args.toList cl.argTypes.toList K;simp_all
theorem ZT.lensl{e:TypeId}{n:Nat}{row:Nat->List AV}(hu:P.underlying t=aag (.slice e))(hx:ρ x= .sl n row):ZT P ρ (.call ⟨.builtin .len,#[x],#[t]⟩) (.v<|.int .i64 n):=.of_acallN (by simp) λK hK=>by
 simp[wz,hu,hx];exact hK
theorem ZT.lenhs{e:TypeId}{b v s o n:Nat}(hu:P.underlying t=aag (.slice e))(hx:ρ x= .hs b v s o n):ZT P ρ (.call ⟨.builtin .len,#[x],#[t]⟩) (.v<|.int .i64 n):=.of_acallN (by simp) λK hK=>by
 simp[wz,hu,hx];exact hK
theorem ZT.lennil{e:TypeId}(hu:P.underlying t=aag (.slice e))(hx:ρ x= .nil):ZT P ρ (.call ⟨.builtin .len,#[x],#[t]⟩) (.v<|.int .i64 0):=.of_acallN (by simp) λK hK=>by
 simp[wz,hu,hx];exact hK
theorem ZT.lenst{s:BA}(hu:P.underlying t=aag .string)(hx:ρ x= .v (.string s)):ZT P ρ (.call ⟨.builtin .len,#[x],#[t]⟩) (.v<|.int .i64 s.size):=.of_acallN (by simp) λK hK=>by
 simp[wz,hu,hx];exact hK
theorem ZT.min{k k':IntKind}{m n:Int}{ts:Array TypeId}(hx:ρ x= .v (.int k m))(hy:ρ y= .v (.int k' n)):ZT P ρ (.call ⟨.builtin .min,#[x,y],ts⟩) (.v<|.int k<|if n<m then n else m):=.of_acallN (by simp) λK hK=>by
 simp[wz,hx,hy];exact hK
theorem ZT.max{k k':IntKind}{m n:Int}{ts:Array TypeId}(hx:ρ x= .v (.int k m))(hy:ρ y= .v (.int k' n)):ZT P ρ (.call ⟨.builtin .max,#[x,y],ts⟩) (.v<|.int k<|if n>m then n else m):=.of_acallN (by simp) λK hK=>by
 simp[wz,hx,hy];exact hK
theorem EvA.call{cl:Call}{f:Operand}{g:FuncId}{pK aac:List AV}{r:AV}(hc:cl.callee= .value f)(hf:ρ f= .fn (.func g) pK)(ha:cl.args.toList.map ρ++pK=aac)(h:eZ P g aac H r H'):EvA P ρ (.call cl) H r H':=.mk λK hK=>by
 unfold aop
 simp_all
 exact .intro h hK
theorem ZT.call{cl:Call}{f:Operand}{g:FuncId}{pK aac:List AV}{r:AV}(hc:cl.callee= .value f)(hf:ρ f= .fn (.func g) pK)(ha:cl.args.toList.map ρ++pK=aac)(h:aF P g aac r)(hF:aac.all (isF 9)=aae):ZT P ρ (.call cl) r:=.mk λK hK=>by
 unfold WL;simp[hc,hf,ha];exact .intro (λH=>h.acall hF H) hK
theorem EvA.alloc{zs:List AV}(z:TyZ P t zs)(hn:(aaX 0 zs.length)=aae):EvA P ρ (.alloc t) H (.hp H.length 0 zs.length 0 0) (H++[aag ⟨0,zs.length,t,[zs]⟩]):=.mk λK hK=>by
 show KN P ρ (.alloc t) H K;have hz:=z.z;have ho:=z.one
 cases hi:P.info? t with
 |none=>simp_all
 |some i=>
  cases hzz:i.zero with
  |none=>simp_all
  |some zv=>
   simp_all
   simp[KN,hi,hzz,hz];refine Ck.intro ?_ hK
   simp_all
theorem EvA.box{cs:List AV}(hx:(ρ x).cells=aag cs)(hn:(aaX 0 cs.length)=aae):EvA P ρ (.box t x) H (.hp H.length 0 cs.length 0 0) (H++[aag ⟨0,cs.length,t,[cs]⟩]):=.mk λK hK=>by
 show KN P ρ (.box t x) H K;simp[KN,hx];exact Ck.intro (decide_eq_true<|nlb hn) hK
theorem EvA.bslice{e:TypeId}{w n:Nat}{ag:Bool}{zs:List AV}{parts:Array (Nat×Operand)}(hu:P.underlying t=aag (.slice e))(ty:TyF P e ag w)(z:TyZ P e zs)(hzl:zs.length=w)(rows:List<|List AV)(hr:ma (parts.toList.map λp=>(ρ p.2).cells)=aag rows)
  (hn:(aaX 0 w&&aaW (n*w) 16777216&&(parts.toList.map (·.1)==aa0 n))=aae) (hl:rows.all (λrow=>row.length==w)=aae) :
  EvA P ρ (.buildSlice t n parts) H (.hs H.length 0 w 0 n) (H++[aag ⟨0,w,e,rows⟩]):=.mk λK hK=>by
 show KN P ρ (.buildSlice t n parts) H K;have hz:=z.z;have ho:=z.one;simp[KN,hu,hr];have hz1:((P.info? e).bind (·.zero)).map (λz=>z.cells.size)=aag w:=by
  cases hb:(P.info? e).bind (·.zero) with
  |none=>grind
  |some zv=>
   simp_all
   rw[<- hzl,<- hz];simp[eC]
 rw[ty.cells];refine Ck.intro ?_ hK
 simp_all
theorem EvA.mslice{e:TypeId}{w:Nat}{ag:Bool}{zs:List AV}{l c:Int}(hu:P.underlying t=aag (.slice e))(ty:TyF P e ag w)(z:TyZ P e zs)(hzl:zs.length=w)(hw:(aaX 0 w)=aae)(hx:ρ x= .v (.int .i64 l))(hy:ρ y= .v (.int .i64 c))(n:Nat)(hb:P.bytesOf e=n)
  (hq:0<=l/\l<=c/\c*(n:Int)<=140737488355328/\c<=140737488355328):EvA P ρ (.makeSlice t x y) H (.hs H.length 0 w 0 l.toNat) (H++[aag ⟨0,w,e,aaY c.toNat zs⟩]):=.mk λK hK=>by
 show KN P ρ (.makeSlice t x y) H K;have hz:=z.z;have ho:=z.one
 cases hi:(P.info? e).bind (·.zero) with
 |none=>simp_all
 |some zv=>
  simp_all
  simp[KN,hu,hx,hy,hi,hb];refine⟨hq,?_⟩;rw[ty.cells,hz];refine Ck.intro ?_ hK
  simp_all
theorem EvA.loadhp(a:AV){ag:Bool}{n:Nat}(ty:TyF P t ag n){b ver s i j:Nat}(h:ρ x= .hp b ver s i j){k:ABlk}(hk:H[b]?=aag (aag k))(hv:k.ver=ver)(hs:k.s=s){row:List AV}(hr:k.rows[i]?=aag row)(hp:wC ag n row j=aag a):EvA P ρ (.load t x) H a H:=.mk λK hK=>by
 show KN P ρ (.load t x) H K;simp only[KN,h,hk];obtain⟨hlt,h1⟩:=ges hr;refine⟨⟨hv,hs,hlt⟩,?_⟩;have : k.rows.getD i []=row:=by grind
 rw[this];exact BB ty hp hK
theorem EvA.store{ag:Bool}{n:Nat}(ty:TyF P t ag n){b ver s i j:Nat}(hx:ρ x= .hp b ver s i j){cs:List AV}(hy:(ρ y).cells=aag cs){k:ABlk}(hk:H[b]?=aag (aag k))(hv:k.ver=ver)(hs:k.s=s){row:List AV}(hr:k.rows[i]?=aag row)
  (hl:cs.length=n) (hj:j+n<=s) (k':ABlk) (hk':{ k with rows:=k.rows.set i (splice row j cs) }=k'):EvA P ρ (.store t x y) H .top (H.set b<|aag k'):=.mk λK hK=>by
 show KN P ρ (.store t x y) H K;simp only[KN,hx,hy,hk];obtain⟨hlt,h1⟩:=ges hr;refine⟨by grind,?_⟩;rw[ty.cells,ty.info,hl];refine Ck.intro (by simp) ?_;have : k.rows.getD i []=row:=by grind
 rw[wy,this,hk'];exact hK
end
def gd{α:Type}(b:Bool)(x:Option α):Option α:=bif b then x else aah
theorem gJ{α:Type}{b:Bool}{x:Option α}(h:b=aae):gd b x=x:=by subst h;rfl
theorem gdL{α:Type}{b:Bool}{x:Option α}{r:α}(h:gd b x=aag r):b=aae/\x=aag r:=by
 cases b
 .cases h
 exact⟨rfl,h⟩
theorem gdD{α:Type}{A:Prop}[Decidable A]{x:Option α}{r:α}(h:gd (decide A) x=aag r):A/\x=aag r:=by
 obtain⟨h1,h2⟩:=gdL h
 simp_all
def ZU(k:IntKind)(n:Int):Bool:=aai<|k.wrap n=n
theorem gdW{α:Type}{k:IntKind}{n:Int}{x:Option α}{r:α}(h:gd (ZU k n) x=aag r):k.wrap n=n/\x=aag r:=gdD h
theorem DX{n:Int}(h : -9223372036854775808<=n/\n<=9223372036854775807):ZU .i64 n=aae:=decide_eq_true<|IntWalk.i64_in n h
theorem W8{n:Int}(h:0<=n/\n<=255):ZU .u8 n=aae:=decide_eq_true<|IntWalk.u8_in n h
theorem W9{n:Int}(h:0<=n/\n<=18446744073709551615):ZU .u64 n=aae:=decide_eq_true<|IntWalk.u64_in n h
theorem ve{α β:Type}{o:Option α}{k:α->Option β}{r:β}(h:o.bind k=aag r):∃x,o=aag x/\k x=aag r:=abr.1 h
theorem Vw{α:Type}{b:Bool}{x y r:α}(hb:b=aae)(h:(bif b then x else y)=r):x=r:=by grind
theorem Tn{α:Type}{b:Bool}{x y r:α}(hb:b=aaf)(h:(bif b then x else y)=r):y=r:=by grind
def hS(g:Bool)(b ver s n:Nat):AV:=bif g then .nil else .hs b ver s 0 n
def bE(g:Bool)(ver s:Nat)(ty:TypeId)(rows:List<|List AV):Option ABlk:=bif g then aah else aag ⟨ver,s,ty,rows⟩
def bH(P:Program)(H:AH)(s:Nat)(a:AV)(news:List<|List AV):Prop:=∀(c:Cx)(u:Value),c.H=H->HRel c->c.rel a u->∃vs,SrcIs P c s u news vs
section
variable{P:Program}{ρ:Operand->AV}{H:AH}{x y:Operand}{t u e:TypeId}{s:Nat}
theorem bH.mk{a:AV}{news:List (List AV)}(h:∀K:List (List AV)->Prop,K news->WV H P t s a K):bH P H s a news:=by
 obtain⟨n2,hn,h2⟩:=PQ<|h (λq=>q=news) rfl;subst hn;exact h2
theorem bH.nil:bH P H s .nil []:=.mk (t:=0) λ_ hK=>hK
theorem Aj{α:Type}[Inhabited α](f:α->List AV)(l:List α):(aa0 l.length).map (λi=>f<|l.getD i aad)=l.map f:=by
 apply List.ext_getElem
 .simp
 simp_all
theorem bH.eL{α:Type}[Inhabited α]{f:α->List AV}{l:List α}(hf:∀x,(f x).length=s):bH P H s (eL f l) (l.map f):=.mk (t:=0) λK hK=>by
 exact⟨λi _=>hf _,by rw[Aj];exact hK⟩
theorem bH.sl{n:Nat}{row:Nat->List AV}(hf:∀i,i<n->(row i).length=s):bH P H s (.sl n row) ((aa0 n).map row):=.mk (t:=0) λK hK=>⟨hf,hK⟩
theorem bH.own{b ver off n:Nat}{k:ABlk}(hk:H[b]?=aag (aag k))(hv:k.ver=ver)(hs:k.s=s)(hn:off+n<=k.rows.length){news:List (List AV)}(he:(k.rows.drop off).take n=news):bH P H s (.hs b ver s off n) news:=.mk (t:=0) λK hK=>by
 simp[WV,hk]
 simp_all
theorem bH.hS{g:Bool}{b ver n:Nat}{ty:TypeId}{rows:List (List AV)}(hk:H[b]?=aag (bE g ver s ty rows))(hn:n=rows.length)(hg:g=aae->rows=[]):bH P H s (hS g b ver s n) rows:=by
 cases g with
 |true=>rw[hg rfl];exact .nil
 |false=>subst hn;exact .own hk rfl rfl (by simp) (by simp)
theorem P6{zs:List AV}(z:TyZ P e zs)(hl:zs.length=s):((P.info? e).bind (·.zero)).map (λz=>z.cells.size)=aag s:=by
 have hz:=z.z
 cases hb:(P.info? e).bind (·.zero) with
 |none=>simp_all
 |some zv=>
  simp_all
  rw[<- hl,<- hz];simp[eC]
theorem IE(h:Mt P u=aae):(∃e2,P.underlying u=aag (.slice e2))\/P.underlying u=aag .string:=by
 unfold Mt at h
 grind
theorem IG{α:Type}:∀(l:List α)(i:Nat)(x:α),l[i]?=aag x->l.set i x=l
 |[],_,_,_=>rfl
 |a::l,0,x,h=>by grind
 |a::l,i+1,x,h=>by
  simp[IG l i x h]
theorem EvA.appv{g:Bool}{b ver n m:Nat}{ag:Bool}{zs:List AV}{rows news:List (List AV)}(hu:P.underlying t=aag (.slice e))(hv:Mt P u=aae)(ty:TyF P e ag s)(z:TyZ P e zs)(hzl:zs.length=s)(hs:(aaX 0 s)=aae)
  (hx:ρ x=Go.Proofs.YtoagamanbofngaaGreatDoor.hS g b ver s n) (hk:H[b]?=aag (bE g ver s e rows)) (hn:n=rows.length) (hg:g=aae->rows=[]) (hsrc:bH P H s (ρ y) news) (hm:P.bytesOf e=m) (hb1:(n+news.length)*m<=35184372088832) (hb2:n+news.length<=35184372088832) :
  EvA P ρ (.call ⟨.builtin .append,#[x,y],#[t,u]⟩) H (Go.Proofs.YtoagamanbofngaaGreatDoor.hS (g&&news.isEmpty) b (ver+1) s<|n+news.length) (H.set b<|bE (g&&news.isEmpty) (ver+1) s e<|rows++news):=λo ho=>by
 have hpos:0<P.cellsOf e:=by rw[ty.cells];simp_all
 have hz:=P6 z<|hzl.trans ty.cells.symm;rw[<- ty.cells] at hsrc hx hk ⊢
 cases g with
 |false=>
  have h:=Az ho rfl rfl rfl hu (IE hv) hx hk rfl rfl rfl (by grind) rfl hz (by grind) hb2 hsrc;have e1:(List.drop 0 rows).take n=rows:=by grind
  simp_all
  exact h
 |true=>
  have hr:=hg rfl;subst hr;subst hn;simp only[List.length_nil,aa3] at hb1 hb2 ⊢
  cases news with
  |nil=>
   have h:=DW ho rfl rfl rfl hu (IE hv) hx hz rfl hsrc;have e2:H.set b (bE (aae&&([]:List<|List AV).isEmpty) (ver+1) (P.cellsOf e) e<|[]++[])=H:=IG _ _ _ hk;rw[e2];exact h
  |cons a l=>
   exact K4 hk ho rfl rfl rfl hu (IE hv) hx hpos hz (by simp_all) hb2 (by simp) hsrc
theorem EvA.app{g:Bool}{b ver n m:Nat}{ag:Bool}{zs:List AV}{rows rows':List (List AV)}{a:List AV}{news:List (List AV)}(hu:P.underlying t=aag (.slice e))(hv:Mt P u=aae)(ty:TyF P e ag s)(z:TyZ P e zs)(hzl:zs.length=s)(hs:(aaX 0 s)=aae)
  (hx:ρ x=Go.Proofs.YtoagamanbofngaaGreatDoor.hS g b ver s n) (hk:H[b]?=aag (bE g ver s e rows)) (hn:n=rows.length) (hg:g=aae->rows=[]) (hsrc:bH P H s (ρ y) (a::news)) (hm:P.bytesOf e=m) (hb1:(n+(a::news).length)*m<=35184372088832) (hb2:n+(a::news).length<=35184372088832)
  (hr:rows++(a::news)=rows') {n':Nat} (hn':n+(a::news).length=n') :
  EvA P ρ (.call ⟨.builtin .append,#[x,y],#[t,u]⟩) H (Go.Proofs.YtoagamanbofngaaGreatDoor.hS aaf b (ver+1) s n') (H.set b<|bE aaf (ver+1) s e rows'):=by
 have h:=EvA.appv hu hv ty z hzl hs hx hk hn hg hsrc hm hb1 hb2
 simp_all
theorem ZT.lenhS{g:Bool}{b v s n:Nat}(hu:P.underlying t=aag (.slice e))(hx:ρ x=Go.Proofs.YtoagamanbofngaaGreatDoor.hS g b v s n)(hg:g=aae->n=0):ZT P ρ (.call ⟨.builtin .len,#[x],#[t]⟩) (.v<|.int .i64 n):=by
 cases g with
 |true=>rw[hg rfl];exact ZT.lennil hu hx
 |false=>exact ZT.lenhs hu hx
theorem ZT.ixhS{g:Bool}{ag:Bool}{w b ver len:Nat}{k:IntKind}{q:Int}(hu:P.underlying t=aag (.slice e))(ty:TyF P e ag w)(hx:ρ x=Go.Proofs.YtoagamanbofngaaGreatDoor.hS g b ver w len)(hy:ρ y= .v (.int k q))(hg:g=aae->len=0)(hq:0<=q/\q<len) :
  ZT P ρ (.indexAddr t x y) (.hp b ver w q.toNat 0):=by
 cases g with
 |true=>grind
 |false=>have h:=ZT.ixhs hu ty hx hy hq;simp_all
end
section
variable{m:Nat}{H:AH}{e:Env}
theorem CJ:∀(n:Nat)(m:Nat)(a:AV),isF n a=aae->NU n m a=aae
 |0,_,_,h=>by cases h
 |n+1,m,a,h=>by
  cases a with
  |agg cs=>simp[isF,NU,aaZ] at h ⊢;exact λc hc=>CJ n m c<|h c hc
  |tup cs=>simp[isF,NU,aaZ] at h ⊢;exact λc hc=>CJ n m c<|h c hc
  |fn f cs=>simp[isF,NU,aaZ] at h ⊢;exact λc hc=>CJ n m c<|h c hc
  |ifc t x=>exact CJ n m x h
  |hs=>cases h
  |hp=>cases h
  |mp=>cases h
  |top=>cases h
  |_=>rfl
theorem Fz.of_isF:∀(n:Nat)(a:AV),isF n a=aae->Fz m H a a
 |0,_,h=>by cases h
 |n+1,a,h=>by
  cases a with
  |v x=>exact .v
  |nil=>exact .nil
  |sl k row=>exact .sl λ_ _=>rfl
  |fp row j=>exact .fp
  |agg cs=>
   simp[isF,aaZ] at h;exact .agg rfl (λi c d hc hd=>by obtain⟨rfl,hm⟩:=gY hc hd;exact Fz.of_isF n _<|h _ hm)
  |tup cs=>
   simp[isF,aaZ] at h;exact .tup rfl (λi c d hc hd=>by obtain⟨rfl,hm⟩:=gY hc hd;exact Fz.of_isF n _<|h _ hm)
  |fn f cs=>
   simp[isF,aaZ] at h;exact .fn rfl (λi c d hc hd=>by obtain⟨rfl,hm⟩:=gY hc hd;exact Fz.of_isF n _<|h _ hm)
  |ifc t x=>
   exact .ifc<|Fz.of_isF n x h
  |hs b q s o l=>cases h
  |hp b q s i j=>cases h
  |mp b s=>cases h
  |top=>cases h
theorem Fz.own{α:Type}[Inhabited α]{g:Bool}{b ver s n:Nat}{ty:TypeId}{f:α->List AV}{l:List α}(hm:aaW m b=aae)(hk:H[b]?=aag (bE g ver s ty<|l.map f))(hn:n=l.length)(hg:g=aae->l=[])(hf:∀x,(f x).all (isF 9)=aae):Fz m H (hS g b ver s n) (eL f l):=by
 subst hn
 cases g with
 |true=>rw[hg rfl];exact .nil0
 |false=>
  refine .hs (nlb hm) hk rfl rfl (by simp) (λi r hi hr=>?_) λi r j c d hi hr hc hd=>?_
  .simp_all
  simp[aa3,abF,geq hi,abq,sie] at hr;subst hr;have e1:l.getD i aad=l[i]:=by grind
  rw[e1] at hd;obtain⟨rfl,hm⟩:=gY hc hd;exact Fz.of_isF 9 _ (by grind)
inductive FzL(m:Nat)(H:AH):List AV->List AV->Prop
 |nil:FzL m H [] []
 |cons {a b:AV} {l k:List AV} (h:Fz m H a b) (t:FzL m H l k):FzL m H (a::l) (b::k)
theorem FzL.spec{l k:List AV}(h:FzL m H l k):l.length=k.length/\∀(i:Nat)(c d:AV),l[i]?=aag c->k[i]?=aag d->Fz m H c d:=by
 induction h with
 |nil=>simp_all
 |cons h t ih=>
  grind
theorem Fz.tupL{l k:List AV}(h:FzL m H l k):Fz m H (.tup l) (.tup k):=.tup h.spec.1 h.spec.2
theorem Fz.aggL{l k:List AV}(h:FzL m H l k):Fz m H (.agg l) (.agg k):=.agg h.spec.1 h.spec.2
theorem Stl.hS{g:Bool}{b ver s n:Nat}(hb:aaX b m=aae):Stl m H (hS g b ver s n) (hS g b ver s n):=by
 cases g with
 |true=>exact .fz .nil
 |false=>exact .hs (nlb hb)
theorem Stl.eqv{a a' b:AV}(h:a=a')(k:Stl m H a' b):Stl m H a b:=h ▸ k
inductive StlL(m:Nat)(H:AH):List AV->List AV->Prop
 |nil:StlL m H [] []
 |cons {a b:AV} {l k:List AV} (h:Stl m H a b) (t:StlL m H l k):StlL m H (a::l) (b::k)
theorem StlL.spec{l k:List AV}(h:StlL m H l k):l.length=k.length/\∀(i:Nat)(c d:AV),l[i]?=aag c->k[i]?=aag d->Stl m H c d:=by
 induction h with
 |nil=>simp_all
 |cons h t ih=>
  grind
theorem Stl.fnL{f:Fn}{l k:List AV}(h:StlL m H l k):Stl m H (.fn f l) (.fn f k):=.fn h.spec.1 h.spec.2
theorem StayB.list{α:Type}{g:Bool}{ver s:Nat}{ty:TypeId}{f:α->List AV}{l:List α}(hf:∀x,(f x).all (isF 9)=aae):StayB m H (bE g ver s ty<|l.map f) (bE g ver s ty<|l.map f):=by
 cases g with
 |true=>exact .dead
 |false=>
  refine .keep λr hr a ha=>?_;exact CJ 9 m a (by grind)
theorem StayB.row{ver s:Nat}{ty:TypeId}{r r0:List AV}(h:StlL m H r r0):StayB m H (aag ⟨ver,s,ty,[r]⟩) (aag ⟨ver,s,ty,[r0]⟩):=.same rfl λi q q0 hq hq0=>by
 cases i with
 |zero=>
  simp_all
  exact h.spec
 |succ i=>grind
theorem qH{b0:Nat}{e0:Env}{H0:AH}(hb:aaW b0 H0.length=aae)(hH:StayL H0.length H H H0)(hs:∀t,Stl H0.length H (e t)<|e0 t):bK b0 e H e0 H0:=.inr ⟨_,nlb hb,Stay.of hH,hs⟩
theorem K5{b0:Nat}{e0:Env}{H0:AH}(hH:H0=H)(hw:GX e e0):bK b0 e H e0 H0:=.inl ⟨hH,hw⟩
end
section
variable{P:Program}
inductive ResOk(P:Program)(e:Env)(H:AH):ResultVar->AV->Prop
 |tmp {t:Tmp} {a:AV} (h:e t=a):ResOk P e H (.tmp t) a
 |cell {ad:Tmp} {t:TypeId} {ag:Bool} {n b ver s i j:Nat} {k:ABlk} {row:List AV} (a:AV) (ty:TyF P t ag n) (h:e ad= .hp b ver s i j) (hk:H[b]?=aag (aag k)) (hv:k.ver=ver) (hs:k.s=s) (hr:k.rows[i]?=aag row) (hp:wC ag n row j=aag a):ResOk P e H (.cell ad t) a
 |cellF {ad:Tmp} {t:TypeId} {ag:Bool} {n j:Nat} {row:List AV} (a:AV) (ty:TyF P t ag n) (h:e ad= .fp row j) (hp:wC ag n row j=aag a):ResOk P e H (.cell ad t) a
inductive ResL(P:Program)(e:Env)(H:AH):List ResultVar->List AV->Prop
 |nil:ResL P e H [] []
 |cons {r:ResultVar} {a:AV} {l:List ResultVar} {k:List AV} (h:ResOk P e H r a) (t:ResL P e H l k):ResL P e H (r::l) (a::k)
def WN:List AV->AV
 |[a]=>a
 |aac=>.tup aac
theorem MF{t:TypeId}{ag:Bool}{n:Nat}(ty:TyF P t ag n){row:List AV}{j:Nat}{a:AV}(hp:wC ag n row j=aag a):FI P t row j a:=by
 obtain⟨r,h1,h2⟩:=Bm<|BB ty hp rfl
 simp_all
theorem P8{c:Cx}{nt:Nat}{e:Env}{a:Act}(hs:SRel c nt e a){r:ResultVar}{x:AV}(h:ResOk P e c.H r x):∃v,(JL a.tmps r).run P c.w= .ok v c.w/\c.rel x v:=by
 cases h with
 |tmp h=>exact⟨_,rfl,h ▸ hs.rel _⟩
 |@cell ad t ag n b ver s i j k row x ty h hk hv hsz hr hp=>
  have h1:=h ▸ hs.rel ad;generalize hu:a.tmps.getD ad undef=u at h1
  cases h1 with
  |fr h=>cases h
  |@hp _ _ _ _ _ adr hbn hh=>
   have hl:=hk;obtain⟨cs,fr,hB⟩:=hs.heap.blk b k hl;obtain⟨fr,rfl,hat,hd⟩:=hB.cells hl (by grind);rw[hv] at hd;obtain⟨_,rfl⟩:=hh _ hd;have hrow:NF c (c.φ b).1 ((c.φ b).2+i*s) row:=by
    intro q a' hq;obtain⟨u,h1,h2,h3⟩:=hB.rel i _ q a' hr hq;refine⟨u,?_,h2,h3⟩;rw[<- hsz,cell_of_row c.w _ _ cs k.ty fr hat];exact h1
   obtain⟨v,hrun,hrel⟩:=zH hrow<|MF ty hp;refine⟨v,?_,hrel⟩;simp[JL,hu];simpa [Instr.loadAt,Instr.sureAddr,asAddr] using hrun
 |@cellF ad t ag n j row x ty h hp=>
  have h1:=h ▸ hs.rel ad;obtain⟨g,o,he,hrow⟩:=(xI h1).rowAt;obtain⟨v,hrun,hrel⟩:=zH hrow<|MF ty hp;refine⟨v,?_,hrel⟩;simp[JL,he];simpa [Instr.loadAt,Instr.sureAddr,asAddr] using hrun
theorem MG{c:Cx}{nt:Nat}{e:Env}{a:Act}(hs:SRel c nt e a):∀{rs:List ResultVar}{aac:List AV},ResL P e c.H rs aac->∃vs:List Value,(rs.mapM<|JL a.tmps).run P c.w= .ok vs c.w/\vs.length=aac.length/\∀(i:Nat)(x:AV)(v:Value),aac[i]?=aag x->vs[i]?=aag v->c.rel x v
 |[],[],_=>⟨[],rfl,rfl,by grind⟩
 |r::rs,x::aac,.cons h t=>by
  obtain⟨v,h1,h2⟩:=P8 hs h;obtain⟨vs,h3,h4,h5⟩:=MG hs t;refine⟨v::vs,by simp_all,by grind,λi y u hy hu=>?_⟩
  grind
theorem JO{fn:Func}{c:Cx}{nt:Nat}{e:Env}{a:Act}{aac:List AV}(hs:SRel c nt e a)(h:ResL P e c.H fn.results.toList aac):∃v,(results fn a.tmps).run P c.w= .ok v c.w/\c.rel (WN aac) v:=by
 obtain⟨vs,h1,h2,h3⟩:=MG hs h;have e1:results fn a.tmps=(do let vs <- fn.results.mapM (JL a.tmps);pure (if h:vs.size=1 then vs[0] else .tuple vs)):=rfl;refine⟨if h:vs.toArray.size=1 then vs.toArray[0] else .tuple vs.toArray,?_,?_⟩
 .rw[e1,Array.mapM_eq_mapM_toList]
  simp_all
 match aac,vs,h2,h3 with
 |[x],[v],_,h3=>exact h3 0 x v rfl rfl
 |[],[],_,_=>exact .tup (rfl) (by grind)
 |x::y::aac,v::w::vs,h2,h3=>
  exact .tup (by grind) λi q u hq hu=>h3 i q u hq (by grind)
def Fin(P:Program)(fn:Func)(R:AV->AH->Prop):Exit->Env->AH->Prop:=λx e G=>(x= .normal\/x= .ret)/\∃aac,ResL P e G fn.results.toList aac/\R (WN aac) G
theorem cN.mkT{f:FuncId}{fn:Func}{body:Code}{aac:List AV}{H:AH}{R:AV->AH->Prop}(hf:P.funcs[f]?=aag fn)(hb:fn.body=aag body)(hcall:lT P f=aae)(hn:aaW aac.length fn.ntmps=aae)
  (hok:codeOk fn.ntmps body=aae) {e0:Env} (hw:GX (UE aac) e0) (h:T P fn.ntmps H.length body (Fin P fn R) e0 H):cN P f aac H R:=by
 refine⟨hcall,λc vs hH hr hall=>?_⟩;obtain⟨hl,hrel⟩:=hall;have hn:=nlb hn;have hs:SRel c fn.ntmps (UE aac) { tmps:=vs++abd (fn.ntmps-vs.size) undef,defers:=[] }:=by
  refine⟨by simp_all,rfl,λt=>?_,hr⟩;unfold UE;rcases aa9 t aac.length with hlt|hge
  .have e1:aac.getD t .top=aac[t]:=by simp[hlt]
   have hlt2:t<vs.size:=by omega
   have e2:(vs++abd (fn.ntmps-vs.size) undef).getD t undef=vs[t]:=by
    rw[Array.getD_eq_getD_getElem?,abQ hlt2,abt hlt2]
    rfl
   rw[e1];simp only[e2];exact hrel t _ _ (geq hlt)<|abt hlt2
  have e1:aac.getD t .top= .top:=by simp[hge]
  rw[e1];exact .top
 refine calls_of_wp hf hb<|wp_mono (h hok c c _ hH (by simp_all) (Ext.refl c)<|hs.weak hw) λx a w hl=>?_;obtain⟨hg,c',e',rfl,hx,hs',hq,as',hR1,hR⟩:=hl;obtain⟨v,hv,hrel'⟩:=JO (P:=P) hs' hR1;rcases hq with rfl|rfl
 .exact⟨hs'.defers,v,hv,v,c',_,rfl,rfl,hR,hs'.heap,hx,hrel'⟩
 exact⟨hs'.defers,v,hv,v,c',_,rfl,rfl,hR,hs'.heap,hx,hrel'⟩
theorem aF.mkT{f:FuncId}{fn:Func}{body:Code}{aac:List AV}{r:AV}(hf:P.funcs[f]?=aag fn)(hb:fn.body=aag body)(hcall:lT P f=aae)(hn:aaW aac.length fn.ntmps=aae)
 (hok:codeOk fn.ntmps body=aae) {e0:Env} (hw:GX (UE aac) e0) (h:T P fn.ntmps 0 body (Fin P fn λr0 G=>Fz 0 G r0 r) e0 []):aF P f aac r:=aF.of<|cN.mkT hf hb hcall hn hok hw h
theorem Fin.ret{fn:Func}{R:AV->AH->Prop}{e:Env}{G:AH}{vs:List AV}(h:ResL P e G fn.results.toList vs)(k:R (WN vs) G):Fin P fn R .ret e G:=⟨.inr rfl,vs,h,k⟩
theorem Fin.normal{fn:Func}{R:AV->AH->Prop}{e:Env}{G:AH}{vs:List AV}(h:ResL P e G fn.results.toList vs)(k:R (WN vs) G):Fin P fn R .normal e G:=⟨.inl rfl,vs,h,k⟩
end
def cI:Int->List AV:=λn=>[I n]
def cY:Int->List AV:=λn=>[Y n]
def cB:Bool->List AV:=λb=>[Bo b]
def cS:BA->List AV:=λs=>[St s]
def cL{α:Type}[Inhabited α](f:α->List AV):List α->List AV:=λl=>[eL f l]
structure SlT(P:Program)(t e:TypeId)(ag:Bool)(w:Nat)(zs:List AV)(m:Nat):Prop where
 u:P.underlying t=aag (.slice e)
 ty:TyF P e ag w
 z:TyZ P e zs
 zl:zs.length=w
 pos:(aaX 0 w)=aae
 by_:P.bytesOf e=m
def aR(n m:Nat):Bool:=aai<|n*m<=35184372088832/\n<=35184372088832
def SQ(b0:Nat)(Q:Exit->Env->AH->Prop):Exit->Env->AH->Prop:=λx e H=>∃e0 H0,bK b0 e H e0 H0/\Q x e0 H0
def Tp(b0:Nat){G:Type}(inv:G->Prop)(slots:G->List (Nat×AV))(heap:G->AH)(e:Env)(H:AH):Prop:=∃g,inv g/\bK b0 e H (ak<|slots g) (heap g)
def sumK{S W:Type}(a:Option<|S ⊕ W)(k:S->Option W):Option W:=match a with
 |none=>aah
 |some (.inl s)=>k s
 |some (.inr w)=>aag w
def Qa{S W:Type}(K:S->Option W)(r:W)(z:S ⊕ W):Prop:=match z with
 | .inl s=>K s=aag r
 | .inr w=>w=r
theorem II{S W:Type}{a:Option (S ⊕ W)}{k:S->Option W}{r:W}(h:sumK a k=aag r):∃K,K=k/\∃z,a=aag z/\Qa K r z:=by
 refine⟨k,rfl,?_⟩
 cases a with
 |none=>cases h
 |some z=>
  cases z with
  |inl s=>exact⟨_,rfl,h⟩
  |inr w=>exact⟨_,rfl,osl h⟩
section
variable{P:Program}{nt b0:Nat}{Q:Exit->Env->AH->Prop}{e e0:Env}{H H' H0:AH}{ops:Array Oper}{o:Oper}{l:List Oper}{r:AV}
theorem T.leaf{x:Code}(h:T P nt b0 x (SQ b0 Q) e H):T P nt b0 x Q e H:=by
 intro hok c c0 a hH hb hx hr;refine wp_mono (h hok c c0 a hH hb hx hr) λex a' w' hl=>?_;obtain⟨hg,c',e',rfl,hx',hs',e1,H1,hs,hq⟩:=hl;obtain⟨c2,h4,h5,h6,h7⟩:=hs.state hx' hs' hb;exact⟨hg,c2,e1,h4,h5,h6,h7 ▸ hq⟩
theorem pG{k:Env->AH->Prop}(h:Q .ret e H):Fg k Q .ret e H:=h
theorem pI{i:Nat}(h:Q .ret e H):PZ i Q .ret e H:=h
theorem T.joinF{G:Type}{x y:Code}(inv:G->Prop)(slots:G->List (Nat×AV))(heap:G->AH)
  (J:∀g,inv g->T P nt b0 y Q (ak<|slots g) (heap g)) (h:T P nt b0 x (Fg (Tp b0 inv slots heap) Q) e H):T P nt b0 (.seq x y) Q e H:=by
 refine T.join (S:=Unit) (λ_=>True) (λ_ g=>inv g) (λ_ g=>slots g) (λ_ g=>heap g) (λ_ g _ hi=>J g hi) ?_;intro hok c c0 a hH hb hx hr;refine wp_mono (h hok c c0 a hH hb hx hr) λex a' w' ⟨hg,c',e',hw,hx',hs',hq⟩=>⟨hg,c',e',hw,hx',hs',?_⟩
 cases ex with
 |normal=>obtain⟨g,h1,h2⟩:=hq;exact⟨(),g,trivial,h1,h2⟩
 |_=>exact hq
theorem T.clean{x:Code}(hH:H0=H)(hw:GX e e0)(h:T P nt b0 x Q e0 H0):T P nt b0 x Q e H:=h.cut<|K5 hH hw
theorem DY{α:Type}{q:Bool}{x y:Option α}{r:α}(h:(bif q then x else y)=aag r):(q=aae/\x=aag r)\/(q=aaf/\y=aag r):=by grind
section
variable{d:Tmp}{op:Op}{ty:TypeId}{pos:String}{af:Array Edge}{en:List (Nat×AV)}{cls:Nat->Nat}{i:Nat}{K:Env->AH->Prop}
theorem oN(h:ZT P (rho<|ak en) op r)(k:TO P nt b0 ops l Q (ak ((d,r)::en)) H):TO P nt b0 ops (⟨aag d,op,ty,pos,af,aah⟩::l) Q (ak en) H:=.run (.free rfl) h.toA k
theorem oA(h:EvA P (rho<|ak en) op H r H')(k:TO P nt b0 ops l Q (ak ((d,r)::en)) H'):TO P nt b0 ops (⟨aag d,op,ty,pos,af,aah⟩::l) Q (ak en) H:=.run (.free rfl) h k
theorem oV(h:EvA P (rho<|ak en) op H r H')(k:TO P nt b0 ops l Q (ak en) H'):TO P nt b0 ops (⟨aah,op,ty,pos,af,aah⟩::l) Q (ak en) H:=.run (.free rfl) h k
theorem gN{j:Nat}{b q:Bool}(hy:fe ops.toList (ak en) j= .v (.bool q))(hq:q=b)(h:ZT P (rho<|ak en) op r)(k:TO P nt b0 ops l Q (ak ((d,r)::en)) H):TO P nt b0 ops (⟨aag d,op,ty,pos,af,aag (j,b)⟩::l) Q (ak en) H:=.run (.yes rfl hy hq) h.toA k
theorem gA{j:Nat}{b q:Bool}(hy:fe ops.toList (ak en) j= .v (.bool q))(hq:q=b)(h:EvA P (rho<|ak en) op H r H')(k:TO P nt b0 ops l Q (ak ((d,r)::en)) H'):TO P nt b0 ops (⟨aag d,op,ty,pos,af,aag (j,b)⟩::l) Q (ak en) H:=.run (.yes rfl hy hq) h k
theorem gS{j:Nat}{b q:Bool}(hy:fe ops.toList (ak en) j= .v (.bool q))(hq:q= !b)(k:TO P nt b0 ops l Q (ak ((d,.tup [])::en)) H):TO P nt b0 ops (⟨aag d,op,ty,pos,af,aag (j,b)⟩::l) Q (ak en) H:=.pass (.no rfl hy hq) k
theorem gU{j:Nat}{b:Bool}(hy:fe ops.toList (ak en) j= .tup [])(k:TO P nt b0 ops l Q (ak ((d,.tup [])::en)) H):TO P nt b0 ops (⟨aag d,op,ty,pos,af,aag (j,b)⟩::l) Q (ak en) H:=.pass (.un rfl hy) k
theorem d1(hc:cls i=1)(hv:EvA P (rho<|ak en) op H r H)(h:TL P cls (i+1) l K (ak ((d,r)::en)) H):TL P cls i (⟨aag d,op,ty,pos,af,aah⟩::l) K (ak en) H:=TL.op1 hc hv h
end
end
section
variable{P:Program}{ρ:Operand->AV}{H:AH}{x y:Operand}{t u e:TypeId}{ag:Bool}{w m:Nat}{zs:List AV}
theorem ZP.res{o:Oper}{H':AH}{r r':AV}(h:ZP P o ρ H r H')(hr:∀(c:Cx)(v:Value),c.rel r v->c.rel r' v):ZP P o ρ H r' H':=
 λc a K Q hH hc hxs hK=>h c a K Q hH hc hxs λv c' h1 h2 h3 h4=>by grind
theorem ZT.res{op:Op}{r r':AV}(h:ZT P ρ op r)(hr:∀(c:Cx)(v:Value),c.rel r v->c.rel r' v):ZT P ρ op r':=λo ho G=>(h o ho G).res hr
theorem JP{c:Cx}{n:Nat}{row row':Nat->List AV}{v:Value}(he:∀i,i<n->row i=row' i)(h:c.rel (.sl n row) v):c.rel (.sl n row') v:=by
 have hf:=xH h;refine .fr ?_
 cases hf with
 |@sl _ cap s g o _ a us hc hm ha hs hu2 h1 h3=>
  refine .sl (s:=s) us hc hm ha (λi hi=>?_) (λi j a hi hj=>?_) (λi j a hi hj=>?_) λi j a hi hj=>?_
  .grind
  .grind
  .grind
  simp_all
variable{α:Type}{c:α->List AV}{l:List α}
theorem ZT.lenL[Inhabited α](q:SlT P t e ag w zs m)(hx:ρ x=eL c l):ZT P ρ (.call ⟨.builtin .len,#[x],#[t]⟩) (I l.length):=ZT.lensl q.u hx
theorem ZT.lenO{g:Bool}{b v s n:Nat}(q:SlT P t e ag w zs m)(hx:ρ x=Go.Proofs.YtoagamanbofngaaGreatDoor.hS g b v s n)(hg:g=aae->n=0):ZT P ρ (.call ⟨.builtin .len,#[x],#[t]⟩) (I n):=ZT.lenhS q.u hx hg
theorem ZT.ixL[Inhabited α]{k:IntKind}{i:Int}(q:SlT P t e ag w zs m)(hx:ρ x=eL c l)(hy:ρ y= .v (.int k i))(hi:0<=i/\i<l.length)(hl:∀x,(c x).length=w):ZT P ρ (.indexAddr t x y) (.fp (c<|l.getD i.toNat aad) 0):=
 ZT.ixsl q.u q.ty hx hy hi (hl _)
theorem ZT.ixO{g:Bool}{b ver n:Nat}{k:IntKind}{i:Int}(q:SlT P t e ag w zs m)(hx:ρ x=Go.Proofs.YtoagamanbofngaaGreatDoor.hS g b ver w n)(hy:ρ y= .v (.int k i))(hg:g=aae->n=0)(hi:0<=i/\i<n):ZT P ρ (.indexAddr t x y) (.hp b ver w i.toNat 0):=
 ZT.ixhS q.u q.ty hx hy hg hi
theorem ZT.slL[Inhabited α]{lo hi:Option Operand}{a b:Int}(q:SlT P t e ag w zs m)(hx:ρ x=eL c l)(hl:bnd ρ lo 0 a)(hh:bnd ρ hi l.length b)(hq:0<=a/\a<=b/\b<=l.length)(hc:∀x,(c x).length=w) :
  ZT P ρ (.slice t x lo hi aah) (eL c<|(l.drop a.toNat).take<|b.toNat-a.toNat):=by
 refine(ZT.slsl q.u q.ty hx hl hh hq λi _=>hc _).res λC v hv=>?_;have hn:((l.drop a.toNat).take<|b.toNat-a.toNat).length=b.toNat-a.toNat:=by grind
 unfold Go.Proofs.YtoagamanbofngaaGreatDoor.eL;rw[hn];exact JP (λi hi=>by grind) hv
theorem Fh[Inhabited α]{f:α->List AV}{l:List α}{i:Nat}(h:i<l.length):(l.map f)[i]?=aag (f<|l.getD i aad):=by grind
theorem EvA.ldO(a:AV)[Inhabited α]{g:Bool}{b ver i j n:Nat}{e':TypeId}{w':Nat}(tt:TyF P t ag n)(h:ρ x= .hp b ver w' i j)(hk:H[b]?=aag (bE g ver w' e'<|l.map c))(hg:g=aae->l=[])(hi:i<l.length)(hp:wC ag n (c<|l.getD i aad) j=aag a):EvA P ρ (.load t x) H a H:=by
 cases g with
 |true=>simp_all
 |false=>exact EvA.loadhp a tt h hk rfl rfl (Fh hi) hp
theorem EvA.stO(v:α)[Inhabited α]{g:Bool}{b ver i j n:Nat}{e':TypeId}{w':Nat}(tt:TyF P t ag n)(hx:ρ x= .hp b ver w' i j){cs:List AV}(hy:(ρ y).cells=aag cs)(hk:H[b]?=aag (bE g ver w' e'<|l.map c))(hg:g=aae->l=[])(hi:i<l.length)
  (hl:cs.length=n) (hj:aaW (j+n) w'=aae) (hv:splice (c<|l.getD i aad) j cs=c v):EvA P ρ (.store t x y) H .top (H.set b<|bE aaf ver w' e'<|(l.set i v).map c):=by
 cases g with
 |true=>simp_all
 |false=>exact EvA.store tt hx hy hk rfl rfl (Fh hi) hl (nlb hj) _ (by simp_all)
theorem EvA.al{b:Nat}(z:TyZ P t zs)(hn:(aaX 0 zs.length)=aae)(hb:H.length=b):EvA P ρ (.alloc t) H (.hp b 0 zs.length 0 0) (H++[aag ⟨0,zs.length,t,[zs]⟩]):=by
 subst hb;exact EvA.alloc z hn
theorem EvA.bx{b:Nat}{cs:List AV}(hx:(ρ x).cells=aag cs)(hn:(aaX 0 cs.length)=aae)(hb:H.length=b):EvA P ρ (.box t x) H (.hp b 0 cs.length 0 0) (H++[aag ⟨0,cs.length,t,[cs]⟩]):=by
 subst hb;exact EvA.box hx hn
theorem EvA.st(k':ABlk){n:Nat}(ty:TyF P t ag n){b ver s i j:Nat}(hx:ρ x= .hp b ver s i j){cs:List AV}(hy:(ρ y).cells=aag cs){k:ABlk}(hk:H[b]?=aag (aag k))(hv:k.ver=ver)(hs:k.s=s){row:List AV}(hr:k.rows[i]?=aag row)
 (hl:cs.length=n) (hj:aaW (j+n) s=aae) (hk':{ k with rows:=k.rows.set i (splice row j cs) }=k'):EvA P ρ (.store t x y) H .top (H.set b<|aag k'):=EvA.store ty hx hy hk hv hs hr hl (nlb hj) k' hk'
theorem HM{g:Bool}{n:Nat}{i:Int}(hg:g=aae->l=[])(hn:n=l.length)(h:0<=i/\i<(n:Int)):g=aaf:=by grind
theorem toNat_lt{n:Nat}{i:Int}(h:0<=i/\i<(n:Int)):i.toNat<n:=by omega
theorem aS{n:Nat}{i:Int}(hn:n=l.length)(h:0<=i/\i<(n:Int)):i.toNat<l.length:=by omega
theorem vO{g:Bool}{n:Nat}(hg:g=aae->l=[])(hn:n=l.length)(h:g=aae):n=0:=by grind
theorem DZ{n:Nat}(h:aR n m=aae):n*m<=35184372088832/\n<=35184372088832:=of_decide_eq_true h
theorem EvA.app1(v:α){g:Bool}{b ver n:Nat}(q:SlT P t e ag w zs m)(hv:Mt P u=aae)(hx:ρ x=Go.Proofs.YtoagamanbofngaaGreatDoor.hS g b ver w n)(hn:n=l.length)(hk:H[b]?=aag (bE g ver w e<|l.map c))(hg:g=aae->l=[])(hsrc:bH P H w (ρ y) [c v])(hb:aR (l.length+1) m=aae) :
  EvA P ρ (.call ⟨.builtin .append,#[x,y],#[t,u]⟩) H (Go.Proofs.YtoagamanbofngaaGreatDoor.hS aaf b (ver+1) w (l++[v]).length) (H.set b<|bE aaf (ver+1) w e<|(l++[v]).map c):=by
 subst hn;exact EvA.app q.u hv q.ty q.z q.zl q.pos hx hk (by simp) (λh=>by grind) hsrc q.by_ (DZ hb).1 (DZ hb).2 (by simp) (by simp)
theorem EvA.appM(k:List α){g:Bool}{b ver n:Nat}(q:SlT P t e ag w zs m)(hv:Mt P u=aae)(hx:ρ x=Go.Proofs.YtoagamanbofngaaGreatDoor.hS g b ver w n)(hn:n=l.length)(hk:H[b]?=aag (bE g ver w e<|l.map c))(hg:g=aae->l=[])(hsrc:bH P H w (ρ y)<|k.map c)(hb:aR (l.length+k.length) m=aae) :
  EvA P ρ (.call ⟨.builtin .append,#[x,y],#[t,u]⟩) H (Go.Proofs.YtoagamanbofngaaGreatDoor.hS (g&&k.isEmpty) b (ver+1) w (l++k).length) (H.set b<|bE (g&&k.isEmpty) (ver+1) w e<|(l++k).map c):=by
 subst hn;have h:=EvA.appv q.u hv q.ty q.z q.zl q.pos hx hk (by simp) (by grind) hsrc q.by_ (by simpa using (DZ hb).1) (by simpa using (DZ hb).2)
 simp_all
theorem EvA.appF(k:List α){b ver n:Nat}(q:SlT P t e ag w zs m)(hv:Mt P u=aae)(hx:ρ x=Go.Proofs.YtoagamanbofngaaGreatDoor.hS aaf b ver w n)(hn:n=l.length)(hk:H[b]?=aag (bE aaf ver w e<|l.map c))(hsrc:bH P H w (ρ y)<|k.map c)(hb:aR (l.length+k.length) m=aae) :
  EvA P ρ (.call ⟨.builtin .append,#[x,y],#[t,u]⟩) H (Go.Proofs.YtoagamanbofngaaGreatDoor.hS aaf b (ver+1) w (l++k).length) (H.set b<|bE aaf (ver+1) w e<|(l++k).map c):=
 EvA.appM k q hv hx hn hk nofun hsrc hb
theorem bH.ow{g:Bool}{b ver n:Nat}{ty:TypeId}(hx:ρ y=Go.Proofs.YtoagamanbofngaaGreatDoor.hS g b ver w n)(hn:n=l.length)(hk:H[b]?=aag (bE g ver w ty<|l.map c))(hg:g=aae->l=[]):bH P H w (ρ y) (l.map c):=by
 subst hn;rw[hx];exact bH.hS hk (by simp) λh=>by grind
theorem bH.fz[Inhabited α](hx:ρ y=Go.Proofs.YtoagamanbofngaaGreatDoor.eL c l)(hc:∀x,(c x).length=w):bH P H w (ρ y) (l.map c):=by
 rw[hx];exact bH.eL hc
theorem bH.none(hx:ρ y= .nil):bH P H w (ρ y) (([]:List α).map c):=by
 rw[hx];exact bH.nil
theorem EvA.callT{cl:Call}{f:Operand}{g:FuncId}{aac:List AV}{r:AV}(hc:cl.callee= .value f)(hf:ρ f= .fn (.func g) [])(h:aF P g aac r)(hz:FzL 0 H (cl.args.toList.map ρ) aac)(hd:dry 9 r=aae):EvA P ρ (.call cl) H r H:=
 EvA.call hc hf (List.append_nil _) (h.tmp hz.spec.1 hz.spec.2 hd)
theorem EvA.mkO(k:List α)(rows:List<|List AV){b n:Nat}{parts:Array (Nat×Operand)}(q:SlT P t e ag w zs m)(hr:ma (parts.toList.map λp=>(ρ p.2).cells)=aag rows)(hn:(aaX 0 w&&aaW (n*w) 16777216&&(parts.toList.map (·.1)==aa0 n))=aae)(hk:rows=k.map c)(hc:∀x,(c x).length=w)(hlen:k.length=n)(hb:H.length=b) :
  EvA P ρ (.buildSlice t n parts) H (Go.Proofs.YtoagamanbofngaaGreatDoor.hS aaf b 0 w k.length) (H++[bE aaf 0 w e (k.map c)]):=by
 have h:=EvA.bslice (H:=H) q.u q.ty q.z q.zl rows hr hn (by grind);rw[hlen];subst hk hb;exact h
theorem EvA.mkN(v:α){bl:Nat}{a b:Int}(q:SlT P t e ag w zs m)(hx:ρ x= .v (.int .i64 a))(hy:ρ y= .v (.int .i64 b))(hq:0<=a/\a<=b/\b*(m:Int)<=140737488355328/\b<=140737488355328)(hab:a=b)(hv:zs=c v)(hbl:H.length=bl) :
  EvA P ρ (.makeSlice t x y) H (Go.Proofs.YtoagamanbofngaaGreatDoor.hS aaf bl 0 w (aaY a.toNat v).length) (H++[bE aaf 0 w e ((aaY a.toNat v).map c)]):=by
 have h:=EvA.mslice (H:=H) q.u q.ty q.z q.zl q.pos hx hy m q.by_ hq;subst hab hbl;rw[abu,List.map_replicate,<- hv];exact h
end
section
variable{P:Program}{ρ:Operand->AV}{H:AH}{x y:Operand}{t u e d:TypeId}
def UG(P:Program)(t:TypeId)(k:IntKind):Bool:=match P.underlying t with
 |some (.int k')=>k'==k
 |_=>aaf
def UH(P:Program):Nat->List Field->List AV->List AV->Option Bool
 |_,[],[],[]=>aag aae
 |i,f :: fs,.v (.int k a) :: l,.v (.int k' b) :: m=>if (f.name != "_" && f.offset == i && k == k' && UG P f.type k)=true then (UH P (i + 1) fs l m).map λr=>a == b && r else none
 |i,f :: fs,.v (.bool a) :: l,.v (.bool b) :: m=>if (f.name != "_" && f.offset == i && wW P f.type)=true then (UH P (i + 1) fs l m).map λr=>a == b && r else none
 |_,_,_,_=>aah
theorem IJ{c:Cx}{xs ys:Array Value}(dd:Nat):∀(fs:List Field)(i:Nat)(cs ds:List AV)(r:Bool),UH P i fs cs ds=aag r->(∀(j:Nat)(a:AV),cs[j]?=aag a->∃u,xs[i+j]?=aag u/\c.rel a u) ->
  (∀(j:Nat)(a:AV),ds[j]?=aag a->∃u,ys[i+j]?=aag u/\c.rel a u)->(Op.eqFields (dd+1) xs ys fs).run P c.w= .ok r c.w
 |[],i,[],[],r,h,_,_=>by
  simp only[UH,sie] at h;subst h;simp[Op.eqFields]
 |f::fs,i,.v (.int k a)::l,.v (.int k' b)::m,r,h,hx,hy=>by
  simp only[UH] at h
  split at h
  .rename_i hc;simp only[bae,beq_iff_eq] at hc;obtain⟨⟨⟨hn,ho⟩,rfl⟩,hi⟩:=hc;obtain⟨q,hq,rfl⟩:=abv.1 h;obtain⟨u1,h1,r1⟩:=hx 0 _ rfl;obtain⟨u2,h2,r2⟩:=hy 0 _ rfl;obtain⟨rfl,_⟩:=iw r1;obtain⟨rfl,_⟩:=iw r2;unfold UG at hi
   split at hi
   .rename_i k' hu;have hp:P.plainKey f.type=aae:=by simp[Program.plainKey,hu]
    have ih:=IJ dd fs (i+1) l m q hq (λj x hj=>by have:=hx (j+1) x (by simpa using hj);simpa [abl,abw 1] using this) (λj x hj=>by have:=hy (j+1) x (by simpa using hj);simpa [abl,abw 1] using this)
    have hn' : f.name ≠ "_":=by simpa using hn
    rw[<- ho] at h1 h2;simp only[abx] at h1 h2;simp only[Op.eqFields,if_pos hn',Sem.run_bind,run_part_plain c.w hp h1,run_part_plain c.w hp h2,Result.andThen_ok,run_equalIn_int c.w dd f.type k k' a b hu]
    cases hab:a==b
    .simp
    simp[ih]
   cases hi
  grind
 |f::fs,i,.v (.bool a)::l,.v (.bool b)::m,r,h,hx,hy=>by
  simp only[UH] at h
  split at h
  .rename_i hc;simp only[bae,beq_iff_eq] at hc;obtain⟨⟨hn,ho⟩,hi⟩:=hc;obtain⟨q,hq,rfl⟩:=abv.1 h;obtain⟨u1,h1,r1⟩:=hx 0 _ rfl;obtain⟨u2,h2,r2⟩:=hy 0 _ rfl;obtain⟨rfl,_⟩:=iw r1;obtain⟨rfl,_⟩:=iw r2;unfold wW at hi
   split at hi
   .rename_i hu;have hp:P.plainKey f.type=aae:=by simp[Program.plainKey,hu]
    have ih:=IJ dd fs (i+1) l m q hq (λj x hj=>by have:=hx (j+1) x (by simpa using hj);simpa [abl,abw 1] using this) (λj x hj=>by have:=hy (j+1) x (by simpa using hj);simpa [abl,abw 1] using this)
    have hn' : f.name ≠ "_":=by simpa using hn
    rw[<- ho] at h1 h2;simp only[abx] at h1 h2;simp only[Op.eqFields,if_pos hn',Sem.run_bind,run_part_plain c.w hp h1,run_part_plain c.w hp h2,Result.andThen_ok,run_equalIn_bool' c.w dd f.type a b hu]
    cases hab:a==b
    .simp
    simp[ih]
   cases hi
  grind
structure TyE(P:Program)(t:TypeId):Prop where
 st:P.underlying t=aag (.struct<|P.fieldsOf t)
 held:P.stoodInHeld t=aaf
 guard:P.eqGuardType P.depth t=aaf
theorem JQ{c:Cx}{cs ds:List AV}{r:Bool}(q:TyE P t)(h:UH P 0 (P.fieldsOf t).toList cs ds=aag r){v v':Value}(h1:c.rel (.agg cs) v)(h2:c.rel (.agg ds) v'):∃xs ys,v= .agg xs/\v'= .agg ys/\(Op.equalIn 10000 t (.agg xs)<|.agg ys).run P c.w= .ok r c.w:=by
 obtain⟨xs,rfl,hl1,_,g1⟩:=uf h1;obtain⟨ys,rfl,hl2,_,g2⟩:=uf h2;refine⟨xs,ys,rfl,rfl,?_⟩;rw[run_equalIn_struct c.w 9999 t xs ys q.st q.held];refine IJ 9998 _ 0 cs ds r h (λj a hj=>?_) λj a hj=>?_
 .have hlt:=(ges hj).1;have hx:xs[j]?=aag xs[j]:=by grind
  grind
 have hlt:=(ges hj).1;have hy:ys[j]?=aag ys[j]:=by grind
 grind
theorem ZT.ofV{op:Op}{r:AV}(h:∀o:Oper,o.op=op->Bd P o ρ r):ZT P ρ op r:=λo ho G=>(h o ho).op G
theorem ZT.aeq(r:Bool){cs ds:List AV}(q:TyE P t)(hx:ρ x= .agg cs)(hy:ρ y= .agg ds)(h:UH P 0 (P.fieldsOf t).toList cs ds=aag r):ZT P ρ (.binOp .eql t x y u) (Bo r):=.ofV λo ho=>
 Mw ho λc p p' v v' h1 h2=>by
  rw[hx] at h1;rw[hy] at h2;obtain⟨xs,ys,rfl,rfl,hrun⟩:=JQ q h h1 h2;exact⟨_,by simp[Sem.run_bind,run_eqGuard_agg c.w .eql t p p' xs ys q.guard,Result.andThen_ok,run_eql_struct,hrun],eD rfl⟩
theorem K6{c:Cx}{l:LI}{vs:List Value}(h:HA c 1 (l.map cY) vs):vs=l.map (Value.int .u8):=by
 obtain⟨h1,h2,h3⟩:=h;apply aa4;intro i;rcases aa9 i l.length with hlt|hge
 .have hr:(l.map cY)[i]?=aag (cY l[i]):=by grind
  obtain⟨u,g1,_,g3⟩:=h3 i _ 0 _ hr rfl;obtain⟨rfl,_⟩:=iw g3
  grind
 simp_all
theorem EvA.b2s{l:LI}(hs:P.underlying t=aag (.slice e))(he:P.underlying e=aag (.int .u8))(hd:P.underlying d=aag .string)(hsl:∀(c:Cx)(v:Value),c.rel (ρ x) v->∃A n cap,v= .slice A n cap)(hsrc:bH P H 1 (ρ x)<|l.map cY) :
  EvA P ρ (.convert t d x) H (St<|strOfNums l) H:=λo ho c a K Q hH hr hxs hK=>by
 have h1:=hxs x (by rw[ho];simp[Op.operands]);obtain⟨A,n,cap,hv⟩:=hsl c _ h1;obtain⟨vs,hvs⟩:=hsrc c _ hH hr h1;rw[hv] at hvs;have hvl:=K6 hvs.is;have hlen:=hvs.len c.w;have hn:=by
  simp[Builtin.lenOf] at hlen;omega
 subst hn;have hrun:(Conv.bytesToString<|.slice A l.length cap).run P c.w= .ok (.string<|strOfNums l) c.w:=by
  cases A with
  |none=>
   have hc:=hvs.cells c.w rfl;injection hc with hc;have : vs=[]:=by grind
   have : l=[]:=by simp_all
   subst this
   rfl
  |some ad=>
   have hc:=hvs.cells c.w rfl;simp[Builtin.firstCells,llm,Nat.mul_one] at hc;rw[hvl] at hc;rw[run_bytesToString c.w ad l.length cap l hc,foldl_push_bytes];simp
   rfl
 unfold Oper.wp;have : (execOp a.eval o).run P c.w= .ok (.value<|.string<|strOfNums l) c.w:=by
  rw[execOp,ho];simp only[hv];exact JB _<|(run_convert_bytes_string c.w t d e A _ cap hs he hd).trans hrun
 rw[this];exact hK _ c hH hr (Ext.refl c)<|eD rfl
theorem Xa{g:Bool}{b ver s n:Nat}(hx:ρ x=Go.Proofs.YtoagamanbofngaaGreatDoor.hS g b ver s n):∀(c:Cx)(v:Value),c.rel (ρ x) v->∃A n cap,v= .slice A n cap:=λc v h=>by
 rw[hx] at h
 cases g with
 |true=>exact⟨_,0,0,iy h⟩
 |false=>
  obtain⟨A,cap,h1,_⟩:=ny h
  simp_all
theorem Qb{α:Type}[Inhabited α]{f:α->List AV}{l:List α}(hx:ρ x=eL f l):∀(c:Cx)(v:Value),c.rel (ρ x) v->∃A n cap,v= .slice A n cap:=λc v h=>by
 rw[hx] at h;have:=xH h
 cases this
 simp_all
inductive FzRows(m:Nat)(H:AH):List (List AV)->List (List AV)->Prop
 |nil:FzRows m H [] []
 |cons {a b:List AV} {l k:List (List AV)} (h:FzL m H a b) (t:FzRows m H l k):FzRows m H (a::l) (b::k)
inductive StlRows(m:Nat)(H:AH):List (List AV)->List (List AV)->Prop
 |nil:StlRows m H [] []
 |cons {a b:List AV} {l k:List (List AV)} (h:StlL m H a b) (t:StlRows m H l k):StlRows m H (a::l) (b::k)
theorem StlRows.spec{m:Nat}{l k:List (List AV)}(h:StlRows m H l k):l.length=k.length/\∀(i:Nat)(c d:List AV),l[i]?=aag c->k[i]?=aag d->StlL m H c d:=by
 induction h with
 |nil=>simp_all
 |cons h t ih=>
  grind
theorem FzRows.spec{m:Nat}{l k:List (List AV)}(h:FzRows m H l k):l.length=k.length/\∀(i:Nat)(c d:List AV),l[i]?=aag c->k[i]?=aag d->FzL m H c d:=by
 induction h with
 |nil=>simp_all
 |cons h t ih=>
  grind
theorem StlRows.same{α:Type}{m:Nat}{f:α->List AV}(hf:∀x,(f x).all (isF 9)=aae):∀l:List α,StlRows m H (l.map f) (l.map f)
 |[]=>.nil
 |a::l=>by
  refine .cons ?_<|StlRows.same hf l;have key:∀r:List AV,(∀a∈r,isF 9 a=aae)->StlL m H r r:=by
   intro r
   induction r with
   |nil=>exact λ_=>.nil
   |cons b r ih=>exact λh=>.cons (.fz<|.of_isF 9 b<|h b<|by simp) (ih λa ha=>h a<|by simp[ha])
  grind
theorem StlRows.rep{α:Type}[Inhabited α]{m:Nat}{f:α->List AV}:∀n:Nat,StlRows m H (aaY n [.nil]) ((aaY n ([]:List α)).map<|cL f)
 |0=>.nil
 |n+1=>.cons (.cons (.fz .nil0) .nil) (StlRows.rep n)
theorem StlRows.app{m:Nat}{l k l' k':List (List AV)}(h:StlRows m H l k)(h':StlRows m H l' k'):StlRows m H (l++l') (k++k'):=by
 induction h with
 |nil=>exact h'
 |cons h t ih=>exact .cons h ih
theorem StayB.rows{m:Nat}{g:Bool}{ver s:Nat}{ty:TypeId}{rows xG:List (List AV)}(h:StlRows m H rows xG):StayB m H (bE g ver s ty rows) (bE g ver s ty xG):=by
 cases g with
 |true=>exact .dead
 |false=>exact .same h.spec.1 λi r r0 hr hr0=>(h.spec.2 i r r0 hr hr0).spec
theorem StayB.snoc{α:Type}{m:Nat}{ver s:Nat}{ty:TypeId}{f:α->List AV}{l k:List α}{r:List (List AV)}(hf:∀x,(f x).all (isF 9)=aae)(h:StlRows m H r<|k.map f):StayB m H (bE aaf ver s ty<|l.map f++r) (bE aaf ver s ty<|(l++k).map f):=
 .rows (by rw[List.map_append];exact(StlRows.same hf l).app h)
theorem Fz.rows{α:Type}[Inhabited α]{m b ver s n:Nat}{ty:TypeId}{f:α->List AV}{l:List α}{rows:List (List AV)}(hm:aaW m b=aae)(hk:H[b]?=aag (bE aaf ver s ty rows))(hn:n=rows.length)(h:FzRows m H rows<|l.map f):Fz m H (hS aaf b ver s n) (eL f l):=by
 obtain⟨h1,h2⟩:=h.spec;have hl:rows.length=l.length:=by simpa using h1
 subst hn;unfold eL;rw[<- hl];refine .hs (k:=⟨ver,s,ty,rows⟩) (nlb hm) hk rfl rfl (by simp) (λi r hi hr=>?_) λi r j c d hi hr hc hd=>?_
 .rw[aa3] at hr;have hi':i<l.length:=by omega
  have:=(h2 i r (f<|l.getD i aad) hr<|Fh hi').spec.1;omega
 rw[aa3] at hr;have hi':i<l.length:=by omega
 exact(h2 i r (f<|l.getD i aad) hr<|Fh hi').spec.2 j c d hc hd
theorem EvA.appR{ag:Bool}{w m:Nat}{zs:List AV}{g:Bool}{b ver n n':Nat}{rows rows':List (List AV)}{a:List AV}{news:List (List AV)}(q:SlT P t e ag w zs m)(hv:Mt P u=aae)(hx:ρ x=Go.Proofs.YtoagamanbofngaaGreatDoor.hS g b ver w n)(hk:H[b]?=aag (bE g ver w e rows))(hn:n=rows.length)(hg:g=aae->rows=[])
  (hsrc:bH P H w (ρ y) (a::news)) (hb:aR (n+(a::news).length) m=aae) (hr:rows++(a::news)=rows') (hn':n+(a::news).length=n') :
  EvA P ρ (.call ⟨.builtin .append,#[x,y],#[t,u]⟩) H (Go.Proofs.YtoagamanbofngaaGreatDoor.hS aaf b (ver+1) w n') (H.set b<|bE aaf (ver+1) w e rows'):=
 EvA.app q.u hv q.ty q.z q.zl q.pos hx hk hn hg hsrc q.by_ (DZ hb).1 (DZ hb).2 hr hn'
theorem bH.raw{w b ver n:Nat}{ty:TypeId}{rows:List (List AV)}(hx:ρ y=Go.Proofs.YtoagamanbofngaaGreatDoor.hS aaf b ver w n)(hk:H[b]?=aag (bE aaf ver w ty rows))(hn:n=rows.length):bH P H w (ρ y) rows:=by
 rw[hx];exact bH.hS hk hn nofun
theorem EvA.mkR{ag:Bool}{w m:Nat}{zs:List AV}{b n:Nat}{parts:Array (Nat×Operand)}(rows:List<|List AV)(q:SlT P t e ag w zs m)(hr:ma (parts.toList.map λp=>(ρ p.2).cells)=aag rows)(hn:(aaX 0 w&&aaW (n*w) 16777216&&(parts.toList.map (·.1)==aa0 n))=aae)
  (hl:rows.all (λrow=>row.length==w)=aae) (hb:H.length=b):EvA P ρ (.buildSlice t n parts) H (Go.Proofs.YtoagamanbofngaaGreatDoor.hS aaf b 0 w n) (H++[bE aaf 0 w e rows]):=by
 subst hb;exact EvA.bslice q.u q.ty q.z q.zl rows hr hn hl
def nilK{α:Type}(e:Bool)(A B:Option α):Option α:=open Classical in bif e then (if A=B then A else aah) else B
theorem CK{α:Type}{e:Bool}{A B:Option α}{r:α}(h:nilK e A B=aag r):(e=aae->A=aag r)/\B=aag r:=by
 unfold nilK at h
 grind
end
section
variable{P:Program}{ρ:Operand->AV}{H:AH}{x y:Operand}{t u e d:TypeId}
theorem PL.settle{o:Oper}{k:ABlk}{r r0:AV}(h:PL P o ρ H k r)(hz:Fz H.length (H++[aag k]) r r0):ZP P o ρ H r0 H:=by
 intro c a K Q hH hr hx hK;obtain⟨cs,v,h1,h2,h3⟩:=h c a hH hr hx;subst hH;let c':=c.new k cs;have hsz:c'.w.heap.size=c.w.heap.size+1:=by simp[c',Cx.new]
 have hnew:∀g,c'.all c.H.length g↔c.fz g\/g=c.w.heap.size:=by
  intro g
  constructor
  .rintro (hg|⟨b,k',hb,hl,rfl⟩)
   .exact .inl hg
   rcases Cx.new_live hl with⟨rfl,_⟩|⟨hlt,_⟩
   .exact .inr (by simp[c',Cx.new])
   omega
  rintro (hg|rfl)
  .exact .inl hg
  exact .inr ⟨c.H.length,k,aa1 _,Cx.new_live_new c k cs,by simp[c',Cx.new]⟩
 let c2:Cx:={ w:=c'.w,fz:=c'.all c.H.length,H:=c.H,φ:=c.φ };have hkeep:∀g,g<c.w.heap.size->c2.w.heap[g]?=c.w.heap[g]?:=λg hg=>Below.heap_alloc _ _ _ hg;have hx2:Ext c c2:=by
  refine⟨rfl,rfl,rfl,by grind,λg hg _=>hkeep g hg,λg hg=>.inl hg,λg hg=>?_,aa1 _,λ_ _ h=>h,λb ver y hb hy=>?_,λb k' hl=>.inr ⟨b,k',hl,rfl⟩⟩
  .grind
  obtain⟨k',hl,rfl,o',hc,hx'⟩:=Cx.hd_some hy;have hl':c.live b k':=hl;exact(Cx.hd_of hl'<|by rw[<- hkeep _ (hr.live_lt hl')];exact hc).trans hx'
 have hr2:HRel c2:=by
  refine⟨λg hg=>Cx.all_lt h2 hg,λb k' hl=>?_,hr.inj,hr.glx hx2⟩;have hl':c.live b k':=hl;obtain⟨cs',fr,hB⟩:=hr.blk b k' hl';refine⟨cs',fr,⟨(hkeep _<|hr.live_lt hl').trans hB.at_,λhz=>?_,hB.pos,hB.free,hB.fits,hB.len,λi row j a' g1 g2=>?_⟩⟩
  .rcases (hnew _).1 hz with hz|hz
   .exact hB.nf hz
   have:=hr.live_lt hl'
   grind
  obtain⟨u,g3,g4,g5⟩:=hB.rel i row j a' g1 g2;exact⟨u,g3,g4,g5.ext hr hx2⟩
 unfold Oper.wp;rw[h1];exact hK v c2 rfl hr2 hx2<|.fr<|Fz.sound (c:=c') h2 hz v h3
theorem ZT.newF{op:Op}{r0:AV}(k:ABlk)(r:Nat->AV)(h:∀o:Oper,o.op=op->∀G,PL P o ρ G k<|r G.length)(hz:∀(m:Nat)(G:AH),G.length=m->Fz m (G++[aag k]) (r m) r0):ZT P ρ op r0:=λo ho G=>(h o ho G).settle<|hz _ G rfl
theorem ZT.bxF(cs:List AV)(hx:(ρ x).cells=aag cs)(hn:(aaX 0 cs.length)=aae)(hF:cs.all (isF 9)=aae):ZT P ρ (.box t x) (.fp cs 0):=
 .newF ⟨0,cs.length,t,[cs]⟩ (λn=>.hp n 0 cs.length 0 0) (λ_ ho _=>My ho hx<|nlb hn) λm G hG=>by
  refine .hp (k:=⟨0,cs.length,t,[cs]⟩) (r:=cs) (aa1 _) (by simp_all) rfl rfl rfl rfl λj c d hc hd=>?_;obtain⟨rfl,hm⟩:=gY hc hd;exact .of_isF 9 _<|aaZ.1 hF _ hm
theorem ZT.mkF{α:Type}[Inhabited α]{c:α->List AV}{ag:Bool}{w m:Nat}{zs:List AV}{n:Nat}{parts:Array (Nat×Operand)}(k:List α)(rows:List<|List AV)(q:SlT P t e ag w zs m)(hr:ma (parts.toList.map λp=>(ρ p.2).cells)=aag rows)(hn:(aaX 0 w&&aaW (n*w) 16777216&&(parts.toList.map (·.1)==aa0 n))=aae)(hk:rows=k.map c)(hc:∀x,(c x).length=w)(hF:∀x,(c x).all (isF 9)=aae)(hlen:k.length=n) :
  ZT P ρ (.buildSlice t n parts) (eL c k):=by
 subst hk;simp only[bae,beq_iff_eq] at hn;have hz:=P6 q.z (q.zl.trans q.ty.cells.symm);refine .newF ⟨0,P.cellsOf e,e,k.map c⟩ (λb=>.hs b 0 (P.cellsOf e) 0 n) (λo ho G=>nY ho q.u hr (by rw[q.ty.cells];simp_all) (by rw[q.ty.cells];simp_all) hn.2 hz q.z.one (λrow hrow=>by
  obtain⟨x,_,rfl⟩:=abe.1 hrow;rw[hc,q.ty.cells])) λm G hG=>?_
 exact Fz.own (g:=false) (ver:=0) (l:=k) (f:=c) (ty:=e) (abG<|aa1 _) (by rw[<- hG];simp[bE]) hlen.symm nofun hF
theorem eZ.mkT{f:FuncId}{fn:Func}{body:Code}{aac:List AV}{H':AH}{r:AV}(hf:P.funcs[f]?=aag fn)(hb:fn.body=aag body)(hcall:lT P f=aae)(hn:aaW aac.length fn.ntmps=aae)
 (hok:codeOk fn.ntmps body=aae) {e0:Env} (hw:GX (UE aac) e0) (h:T P fn.ntmps H.length body (SQ H.length<|Fin P fn λr0 G=>r0=r/\G=H') e0 H):eZ P f aac H r H':=(cN.mkT hf hb hcall hn hok hw h.leaf).acall
theorem bA{S:Nat->Nat->Prop}:∀(n:Nat)(a:AV),isF n a=aae->Ren S a a
 |0,_,h=>by cases h
 |n+1,a,h=>by
  cases a with
  |v x=>exact .v
  |nil=>exact .nil
  |sl k row=>exact .sl
  |fp row j=>exact .fp
  |agg cs=>
   simp only[isF,aaZ] at h;exact .agg rfl (λi c d hc hd=>by obtain⟨rfl,hm⟩:=gY hc hd;exact bA n _<|h _ hm)
  |tup cs=>
   simp only[isF,aaZ] at h;exact .tup rfl (λi c d hc hd=>by obtain⟨rfl,hm⟩:=gY hc hd;exact bA n _<|h _ hm)
  |fn f cs=>
   simp only[isF,aaZ] at h;exact .fn rfl (λi c d hc hd=>by obtain⟨rfl,hm⟩:=gY hc hd;exact bA n _<|h _ hm)
  |ifc t x=>
   simp only[isF] at h;exact .ifc<|bA n x h
  |hs b q s o l=>cases h
  |hp b q s i j=>cases h
  |mp b s=>cases h
  |top=>cases h
def rQ(k:ABlk):Prop:=∀r∈k.rows,∀a∈r,isF 9 a=aae
theorem RenK.ofF{S:Nat->Nat->Prop}{k:ABlk}(h:rQ k):RenK S k k:=⟨rfl,rfl,rfl,rfl,λi r r' hr hr'=>by
 obtain⟨rfl,hm⟩:=gY hr hr';exact⟨rfl,λj a a' ha ha'=>by
  obtain⟨rfl,hm2⟩:=gY ha ha';exact bA 9 a (h r hm a hm2)⟩⟩
inductive RenL(S:Nat->Nat->Prop):List AV->List AV->Prop
 |nil:RenL S [] []
 |cons {a b:AV} {l k:List AV} (h:Ren S a b) (t:RenL S l k):RenL S (a::l) (b::k)
theorem RenL.spec{S:Nat->Nat->Prop}{l k:List AV}(h:RenL S l k):l.length=k.length/\∀(i:Nat)(c d:AV),l[i]?=aag c->k[i]?=aag d->Ren S c d:=by
 induction h with
 |nil=>simp_all
 |cons h t ih=>
  grind
theorem Ren.pF{S:Nat->Nat->Prop}{a:AV}(h:isF 9 a=aae):Ren S a a:=bA 9 a h
theorem eZ.one{f:FuncId}{as0 aac:List AV}{r:AV}{k k':ABlk}(h:eZ P f as0 [aag k] r [aag k'])(b:Nat)(hb:H[b]?=aag (aag k))(has:RenL (λc i=>[b][i]?=aag c) aac as0)(hk:rQ k)(hk':rQ k')(hr:isF 9 r=aae) :
  eZ P f aac H r (H.set b<|aag k'):=by
 have hlt:b<H.length:=(ges hb).1;refine h.frame [b] (by simp) rfl (λi c hi=>?_) has.spec.1 has.spec.2 ⟨by simp,by simp,λi c hi hs hn=>?_,λi c k0 hs hg=>?_,λc hc hni=>?_⟩<|bA 9 r hr
 .cases i with
  |zero=>
   simp only[aa7,sie] at hi;subst hi;exact⟨k,k,hb,rfl,.ofF hk⟩
  |succ i=>simp at hi
 .cases i with
  |zero=>simp at hn
  |succ i=>simp at hi
 .cases i with
  |zero=>
   simp only[aa7,sie] at hg;subst hg;have hc:c=b:=by
    rcases hs with hs|⟨hs,_⟩
    .simpa using hs.symm
    simp at hs
   subst hc;exact⟨k',by simp[hlt],.ofF hk'⟩
  |succ i=>simp at hg
 grind
theorem eZ.fresh{f:FuncId}{aac:List AV}{ver s i j:Nat}{k:ABlk}(h:eZ P f aac [] (.hp 0 ver s i j) [aag k])(has:aac.all (isF 9)=aae)(hk:rQ k)(n:Nat)(hn:H.length=n):eZ P f aac H (.hp n ver s i j) (H++[aag k]):=by
 subst hn;refine h.frame [] (by simp) rfl (λi c hi=>by grind) rfl (λi c d hc hd=>?_) ⟨by simp,by simp,λi c hi hs hn=>?_,λi c k0 hs hg=>?_,λc hc hni=>gal hc⟩<|.hp<|.inr ⟨abf _,by simp⟩
 .obtain⟨rfl,hm⟩:=gY hc hd;exact bA 9 c<|aaZ.1 has _ hm
 .simp_all
 cases i with
 |zero=>
  simp only[aa7,sie] at hg;subst hg;have hc:c=H.length:=by
   rcases hs with hs|⟨_,hs⟩
   .grind
   omega
  subst hc;exact⟨k,by simp,.ofF hk⟩
 |succ i=>grind
theorem au{ver s:Nat}{ty:TypeId}{r:List AV}(h:r.all (isF 9)=aae):rQ ⟨ver,s,ty,[r]⟩:=λq hq a ha=>by
 simp_all
theorem HQ{α:Type}{ver s:Nat}{ty:TypeId}{f:α->List AV}{l:List α}(h:∀x,(f x).all (isF 9)=aae):rQ ⟨ver,s,ty,l.map f⟩:=λq hq a ha=>by
 grind
open Classical in
def HT{α:Type}(f:Nat->Option α):Option α:=if h:∃r,∃N,∀n,N<=n->f n=aag r then aag h.choose else aah
theorem nz{α:Type}{f:Nat->Option α}{r:α}(h:HT f=aag r):∃n,f n=aag r:=by
 unfold HT at h
 split at h
 .rename_i hx;injection h with h;obtain⟨N,hN⟩:=hx.choose_spec;exact⟨N,h ▸ hN N (aa1 _)⟩
 grind
theorem yQ{α:Type}{f:Nat->Option α}{r:α}(N:Nat)(h:∀n,N<=n->f n=aag r):HT f=aag r:=by
 have hx:∃r,∃N,∀n,N<=n->f n=aag r:=⟨r,N,h⟩;unfold HT;rw[dif_pos hx];obtain⟨M,hM⟩:=hx.choose_spec;have h1:=hM (max M N) (by omega)
 grind
theorem Fz.fpL{m b ver s i j:Nat}{ty:TypeId}{rows:List (List AV)}{r row':List AV}(hm:aaW m b=aae)(hk:H[b]?=aag (aag ⟨ver,s,ty,rows⟩))(hi:rows[i]?=aag r)(h:FzL m H r row'):Fz m H (.hp b ver s i j) (.fp row' j):=
 .hp (nlb hm) hk rfl rfl hi h.spec.1 h.spec.2
end
def agree(F:List Nat)(G H:AH):Prop:=G.length=H.length/\∀b∈F,G[b]?=H[b]?
def vg(P:Program)(o:Oper)(ρ:Operand->AV)(H:AH)(r:AV)(H':AH)(F:List Nat):Prop:=
 H'.length=H.length/\(∀b,b∉F->H'[b]?=H[b]?)/\∀G,agree F G H->∃G',G'.length=G.length/\(∀b∈F,G'[b]?=H'[b]?)/\(∀b,b∉F->G'[b]?=G[b]?)/\ZP P o ρ G r G'
section
variable{P:Program}{o:Oper}{ρ:Operand->AV}{H H':AH}{r:AV}{F:List Nat}
theorem vg.op(h:vg P o ρ H r H' F):ZP P o ρ H r H':=by
 obtain⟨h1,h2,h3⟩:=h;obtain⟨G',g1,g2,g3,g4⟩:=h3 H ⟨rfl,λ_ _=>rfl⟩;have : G'=H':=by
  apply aa4;intro b
  by_cases hb:b∈F
  .exact g2 b hb
  rw[g3 b hb,h2 b hb]
 simp_all
theorem vg.congr{ρ':Operand->AV}(h:vg P o ρ H r H' F)(he:∀x∈o.op.operands,ρ x=ρ' x):vg P o ρ' H r H' F:=by
 obtain⟨h1,h2,h3⟩:=h;refine⟨h1,h2,λG hG=>?_⟩;obtain⟨G',g1,g2,g3,g4⟩:=h3 G hG;exact⟨G',g1,g2,g3,g4.congr he⟩
theorem vg.at_{G:AH}(h:vg P o ρ H r H' F)(hG:agree F G H):∃G',G'.length=G.length/\(∀b∈F,G'[b]?=H'[b]?)/\(∀b,b∉F->G'[b]?=G[b]?)/\vg P o ρ G r G' F:=by
 obtain⟨h1,h2,h3⟩:=h;obtain⟨G',g1,g2,g3,g4⟩:=h3 G hG;refine⟨G',g1,g2,g3,g1,g3,λK hK=>?_⟩;obtain⟨K',k1,k2,k3,k4⟩:=h3 K ⟨hK.1.trans hG.1,λb hb=>(hK.2 b hb).trans<|hG.2 b hb⟩
 grind
abbrev Fp:=List Nat×Bool
def rR(a b:Fp):Bool:=a.1.all (λx=>!b.1.contains x)||(!a.2 && !b.2)
def SU(P:Program)(ops:Array Oper)(fp:Nat->Fp)(Q:Env->AH->Prop):Nat->Array Bool->Env->AH->Prop
 |0,listed,e,H=>Region.ready .any ops listed=[]/\Q e H
 |fuel+1,listed,e,H=>(Region.ready .any ops listed=[]->Q e H) /\
  ∀i∈Region.ready .any ops listed,∃o r H',ops[i]?=aag o/\vg P o (rho e) H r H' (fp i).1/\((fp i).2=aaf->H'=H)/\SU P ops fp Q fuel (listed.setIfInBounds i aae) (ww e o.dst r) H'
theorem NY{ops:Array Oper}{fp:Nat->Fp}{Q:Env->AH->Prop}{i:Nat}{oi:Oper}{r:AV}(hi:ops[i]?=aag oi) :
  ∀(fuel:Nat)(listed:Array Bool)(e:Env)(H Hi:AH),
   (∀(j:Nat)(oj:Oper),ops[j]?=aag oj->j≠i->listed.getD j aae=aaf->(∀ed∈oj.after,Region.binds .any ed=aae->ed.on≠i)->oi.apart ops oj=aae/\rR (fp i) (fp j)=aae) ->
   i∈Region.ready .any ops listed->vg P oi (rho e) H r Hi (fp i).1->((fp i).2=aaf->Hi=H)->SU P ops fp Q fuel (listed.setIfInBounds i aae) (ww e oi.dst r) Hi->SU P ops fp Q (fuel+1) listed e H:=by
 intro fuel
 induction fuel with
 |zero=>
  intro listed e H Hi _ hr hy hro hA;refine⟨λh=>(by simp_all),λj hj=>?_⟩
  by_cases hji:j=i
  .grind
  have:=ready_mono hj hji;rw[hA.1] at this
  grind
 |succ fuel ih=>
  intro listed e H Hi hfree hr hy hro hA;refine⟨λh=>(by simp_all),λj hj=>?_⟩
  by_cases hji:j=i
  .grind
  obtain⟨oj,q,Hj,hoj,hsj,hroj,hAj⟩:=hA.2 j<|ready_mono hj hji;obtain⟨hjun,oj',D9,hall⟩:=mem_ready.1 hj;rw[hoj] at D9;injection D9 with D9;subst D9;have hnot:∀ed∈oj.after,Region.binds .any ed=aae->ed.on≠i:=λed he hb heq=>by
   have h1:=hall ed he hb;have h0:=(mem_ready.1 hr).1;rw[heq] at h1;rcases aa9 i listed.size with h'|h'
   .simp[h'] at h0 h1;rw[h0] at h1;cases h1
   simp[Array.getElem?_eq_none h'] at h1
  obtain⟨hap,hcm⟩:=hfree j oj hoj hji hjun hnot;obtain⟨h1,h2,h3⟩:=Oper.apart_spec hap;have ej:=wB (e:=e) (r:=r) h1;have ei:=wB (e:=e) (oi:=oj) (r:=q) h3;have hsj':=hsj.congr ej;have hfree':∀(k:Nat)(ok:Oper),ops[k]?=aag ok->k≠i->(listed.setIfInBounds j aae).getD k aae=aaf->(∀ed∈ok.after,Region.binds .any ed=aae->ed.on≠i)->oi.apart ops ok=aae/\rR (fp i) (fp k)=aae:=λk ok hk hki hun hno=>by
   refine hfree k ok hk hki ?_ hno
   by_cases hjk:j=k
   .subst hjk;exact hjun
   rw[getD_set_ne aae hjk] at hun;exact hun
  have fin:∀Hj',vg P oj (rho e) H q Hj' (fp j).1->((fp j).2=aaf->Hj'=H)->vg P oi (rho e) Hj' r Hj (fp i).1->((fp i).2=aaf->Hj=Hj')->∃o r' H',ops[j]?=aag o/\vg P o (rho e) H r' H' (fp j).1/\((fp j).2=aaf->H'=H)/\SU P ops fp Q (fuel+1) (listed.setIfInBounds j aae) (ww e o.dst r') H':=λHj' s1 s1' s2 s2'=>by
   refine⟨oj,q,Hj',hoj,s1,s1',ih (listed.setIfInBounds j aae) (ww e oj.dst q) Hj' Hj hfree' (ready_mono hr<|Ne.symm hji) (s2.congr λx hx=>(ei x hx).symm) s2' ?_⟩;rw[abH _ _ hji,Bu (λd hd=>λhd'=>h2 d (by simpa using hd')<|by simpa using hd)];exact hAj
  simp only[rR,abm,bae,abI,aaZ,aby,decide_eq_false_iff_not] at hcm;rcases hcm with hdis|⟨w1,w2⟩
  .have hag:agree (fp j).1 H Hi:=⟨hy.1.symm,λb hb=>(hy.2.1 b λhbi=>hdis b hbi hb).symm⟩;obtain⟨Hj',a1,a2,a3,a4⟩:=hsj'.at_ hag;have hag2:agree (fp i).1 Hj' H:=⟨a1,λb hb=>a3 b<|hdis b hb⟩;obtain⟨K,b1,b2,b3,b4⟩:=hy.at_ hag2;have hKH:K=Hj:=by
    apply aa4;intro b
    by_cases hbi:b∈(fp i).1
    .rw[b2 b hbi,hsj'.2.1 b (hdis b hbi)]
    rw[b3 b hbi]
    by_cases hbj:b∈(fp j).1
    .exact a2 b hbj
    rw[a3 b hbj,hsj'.2.1 b hbj,hy.2.1 b hbi]
   subst hKH;refine fin Hj' a4 (λhw=>?_) b4 λhw=>?_
   .apply aa4;intro b
    by_cases hbj:b∈(fp j).1
    .rw[a2 b hbj,hroj hw,hy.2.1 b (λhbi=>hdis b hbi hbj)]
    exact a3 b hbj
   apply aa4;intro b
   by_cases hbi:b∈(fp i).1
   .rw[b2 b hbi,hro hw,a3 b (hdis b hbi)]
   exact b3 b hbi
  grind
def Xb(ops:Array Oper)(fp:Nat->Fp):Bool:=
 Region.lexB .any ops&&ops.all (λo=>o.guard.isNone) &&
 (aa0 ops.size).all λi=>(aa0 ops.size).all λj=>aai (j<=i)||rR (fp i) (fp j)||match ops[j]? with
  |some oj=>oj.after.any λed=>Region.binds .any ed&&ed.on==i
  |none=>aae
def TF(P:Program)(fp:Nat->Fp):Nat->List Oper->(Env->AH->Prop)->Env->AH->Prop
 |_,[],K,e,H=>K e H
 |k,o::rest,K,e,H=>∃r H',vg P o (rho e) H r H' (fp k).1/\((fp k).2=aaf->H'=H)/\TF P fp (k+1) rest K (ww e o.dst r) H'
theorem Qc{ops:Array Oper}{fp:Nat->Fp}{Q:Env->AH->Prop}(hc:Xb ops fp=aae):∀(l:List Oper)(k:Nat)(listed:Array Bool)(e:Env)(H:AH),(∀j,l[j]?=ops[k+j]?)->listed.size=ops.size->(∀j,j<k->listed.getD j aae=aae) ->
  Region.lexFrom .any ops l.length k listed=aae->TF P fp k l Q e H->SU P ops fp Q l.length listed e H
 |[],k,listed,e,H,_,_,_,hB,h=>⟨by simpa [Region.lexFrom] using hB,h⟩
 |o::l,k,listed,e,H,hl,hsz,hbef,hB,h=>by
  have h0:ops[k]?=aag o:=by simpa using (hl 0).symm
  have hk:k<ops.size:=(abz.1 h0).1;simp only[llc,Region.lexFrom,bae] at hB;obtain⟨⟨hr,hf⟩,hB'⟩:=hB;obtain⟨r,H',hs,hro,hK⟩:=h;refine NY h0 l.length listed e H H' (λj oj hj hne hun hno=>⟨Region.free_spec h0 hf j oj hj hne hun hno,?_⟩) (by simp_all) hs hro
   (Qc hc l (k+1) _ _ _ (λj=>by have:=hl<|j+1;grind) (by simp_all) (λj hj=>?_) hB' hK)
  .have hjs:j<ops.size:=(abz.1 hj).1;have hkj : ¬ j<=k:=λhle=>by
    grind
   simp only[Xb,bae,aaZ,abJ] at hc;have:=hc.2 k hk j hjs;simp only[hj,abm,dte,hkj,false_or] at this;rcases this with h1|h1
   .exact h1
   rw[abK] at h1
   grind
  by_cases e:j=k
  .simp_all
  rw[getD_set_ne aae (Ne.symm e)]
  grind
theorem CL{nt:Nat}{ops:Array Oper}{fp:Nat->Fp}{Q:Exit->Env->AH->Prop}(hd:NS nt ops.toList=aae)(hg:ops.all (λo=>o.guard.isNone)=aae):∀(fuel:Nat)(listed:Array Bool)(e:Env)(H:AH),SU P ops fp (Q .normal) fuel listed e H ->
  ∀(c c0:Cx)(a:Act),c.H=H->Ext c0 c->SRel c nt e a->wpAny P .any ops (WM nt c0 Q) fuel listed a c.w
 |0,listed,e,H,h,c,c0,a,hH,hx,hs=>⟨h.1,trivial,c,e,rfl,hx,hs,hH ▸ h.2⟩
 |fuel+1,listed,e,H,h,c,c0,a,hH,hx,hs=>by
  refine⟨λhr=>⟨trivial,c,e,rfl,hx,hs,hH ▸ h.1 hr⟩,λi hi=>?_⟩;obtain⟨o,r,H',ho,hst,_,hA⟩:=h.2 i hi;have hm:o∈ops.toList:=by rw[abL];exact abg ho
  have hgn:o.guard=aah:=by
   rw[Array.all_eq_true] at hg;obtain⟨hlt,rfl⟩:=abz.1 ho;simpa using hg i hlt
  have hw:Region.wanted o (yielded ops a.tmps)=aae:=by simp[Region.wanted,hgn]
  unfold wpOp;simp only[ho];rw[if_pos hw];refine .inl<|hst.op c a _ _ hH hs.heap (λx _=>hs.rho x) λv c' hH' hr' hx' hv=>?_;exact CL hd hg fuel _ _ H' hA c' c0 _ hH' (hx.trans hx')<|hs.put o.dst (rC hd hm) hx' hr' hv
end
section
variable{P:Program}{nt b0:Nat}{Q:Exit->Env->AH->Prop}{e:Env}{H H':AH}{r:AV}
theorem T.drawF{i:Nat}{ops:Array Oper}(fp:Nat->Fp)(hm:P.follows .mixedOrders=aae)(hc:Xb ops fp=aae)(h:TF P fp 0 ops.toList (Q .normal) e H):T P nt b0 (.region i ops aae) Q e H:=by
 intro hok c c0 a hH hb hx hs;simp only[codeOk] at hok;have hc':=hc;simp only[Xb,bae,Region.lexB] at hc';refine wp_region_any hm ?_;have hlex:=Qc hc ops.toList 0 (abd ops.size aaf) e H (λj=>by simp) (by simp) (λj hj=>absurd hj<|by omega) (by simp_all) h;have:=CL hok hc'.1.2 ops.toList.length _ e H hlex c.drew c0 a hH (hx.trans c.drew_ext) ⟨hs.size,hs.defers,λt=>(hs.rel t).ext hs.heap c.drew_ext,Cx.drew_rel hs.heap⟩;rw[abA] at this;exact this
variable{d:Tmp}{op:Op}{ty:TypeId}{pos:String}{af:Array Edge}{en:List (Nat×AV)}{fp:Nat->Fp}{i:Nat}{K:Env->AH->Prop}{l:List Oper}
theorem TF.nil{k:Nat}(h:K e H):TF P fp k [] K e H:=h
theorem K7{o:Oper}{ρ:Operand->AV}(hv:ZT P ρ o.op r):vg P o ρ H r H []:=⟨rfl,λ_ _=>rfl,λG _=>⟨G,rfl,λ_ h=>(by cases h),λ_ _=>rfl,hv o rfl G⟩⟩
theorem K8{o:Oper}{ρ:Operand->AV}{F:List Nat}(hv:∀G,agree F G H->EvA P ρ o.op G r G):vg P o ρ H r H F:=⟨rfl,λ_ _=>rfl,λG hG=>⟨G,rfl,hG.2,λ_ _=>rfl,hv G hG o rfl⟩⟩
theorem Qd{o:Oper}{ρ:Operand->AV}{F:List Nat}(b:Nat)(X:Option ABlk)(hb:b<H.length)(hv:∀G,agree (b::F) G H->EvA P ρ o.op G r (G.set b X)):vg P o ρ H r (H.set b X) (b::F):=by
 refine⟨by simp,λc hc=>aa2 λh=>hc (by simp[h]),λG hG=>⟨G.set b X,by simp,λc hc=>?_,λc hc=>aa2 λh=>hc (by simp[h]),hv G hG o rfl⟩⟩
 by_cases e:c=b
 .subst e;rw[abn (by rw[hG.1];exact hb),abn hb]
 rw[aa2 (Ne.symm e),aa2 (Ne.symm e)];exact hG.2 c hc
theorem fN(hc:fp i=([],aaf))(hv:ZT P (rho<|ak en) op r)(h:TF P fp (i+1) l K (ak ((d,r)::en)) H):TF P fp i (⟨aag d,op,ty,pos,af,aah⟩::l) K (ak en) H:=
 ⟨r,H,by rw[hc];exact K7 hv,λ_=>rfl,h⟩
theorem fR(F:List Nat)(hc:fp i=(F,aaf))(hv:∀G,agree F G H->EvA P (rho<|ak en) op G r G)(h:TF P fp (i+1) l K (ak ((d,r)::en)) H):TF P fp i (⟨aag d,op,ty,pos,af,aah⟩::l) K (ak en) H:=
 ⟨r,H,by rw[hc];exact K8 hv,λ_=>rfl,h⟩
theorem fW(b:Nat)(F:List Nat){X:Option ABlk}(hc:fp i=(b::F,aae))(hb:aaX b H.length=aae)(hv:∀G,agree (b::F) G H->EvA P (rho<|ak en) op G r (G.set b X))(h:TF P fp (i+1) l K (ak ((d,r)::en))<|H.set b X):TF P fp i (⟨aag d,op,ty,pos,af,aah⟩::l) K (ak en) H:=
 ⟨r,H.set b X,by rw[hc];exact Qd b X (nlb hb) hv,λh=>(by simp_all),h⟩
theorem fV(b:Nat)(F:List Nat){X:Option ABlk}(hc:fp i=(b::F,aae))(hb:aaX b H.length=aae)(hv:∀G,agree (b::F) G H->EvA P (rho<|ak en) op G r (G.set b X))(h:TF P fp (i+1) l K (ak en)<|H.set b X):TF P fp i (⟨aah,op,ty,pos,af,aah⟩::l) K (ak en) H:=
 ⟨r,H.set b X,by rw[hc];exact Qd b X (nlb hb) hv,λh=>(by simp_all),h⟩
theorem agree.a0{b:Nat}{F:List Nat}{G:AH}(h:agree (b::F) G H){x:Option ABlk}(hx:H[b]?=aag x):G[b]?=aag x:=(h.2 b<|by simp).trans hx
theorem agree.a1{b c:Nat}{F:List Nat}{G:AH}(h:agree (c::b::F) G H){x:Option ABlk}(hx:H[b]?=aag x):G[b]?=aag x:=(h.2 b<|by simp).trans hx
theorem agree.a2{a b c:Nat}{F:List Nat}{G:AH}(h:agree (a::c::b::F) G H){x:Option ABlk}(hx:H[b]?=aag x):G[b]?=aag x:=(h.2 b<|by simp).trans hx
end
section
variable{P:Program}{ρ:Operand->AV}{H:AH}{x y:Operand}{t e:TypeId}
theorem FRel.move{w w':World}{fz fz':Nat->Prop}{a:AV}{v:Value}(h:FRel w fz a v)(hf:∀g,fz g->w'.heap[g]?=w.heap[g]? /\ fz' g/\g<w'.heap.size):FRel w' fz' a v:=by
 induction h with
 |v h=>exact .v h
 |agg hl h1 _ ih=>exact .agg hl h1 ih
 |tup hl _ ih=>exact .tup hl ih
 |nil=>exact .nil
 |@sl n cap s g o row a us hc hm ha hr hu h1 _ ih=>
  refine .sl (g:=g) (o:=o) us hc hm (λhn=>?_) hr (λi j c hi hj=>?_) h1 ih
  .simp_all
  obtain⟨_,hg,hlt⟩:=ha (by omega);rw[World.cell?_of_block (w:=w) (hf g hg).1]
  simp_all
 |@fp row j g o us hg hlt hu h1 _ ih=>
  refine .fp us (hf g hg).2.1 (hf g hg).2.2 (λj c hj=>?_) h1 ih;rw[World.cell?_of_block (w:=w) (hf g hg).1]
  simp_all
 |ifc _ ih=>exact .ifc ih
 |fn hl _ ih=>exact .fn hl ih
theorem PL.at_{o:Oper}{k:ABlk}{r r0:AV}{b:Nat}(h:PL P o ρ H k r)(hb:H[b]?=aag aah)(hF:rQ k)(hr0:(∃n,r= .hs H.length k.ver k.s 0 n/\r0= .hs b k.ver k.s 0 n)\/∃i j,r= .hp H.length k.ver k.s i j/\r0= .hp b k.ver k.s i j):ZP P o ρ H r0 (H.set b<|aag k):=by
 intro c a K Q hH hr hx hK;obtain⟨cs,v,h1,h2,h3⟩:=h c a hH hr hx;subst hH;have hN:=Cx.new_live_new c k cs;obtain⟨cs',fr,hB⟩:=h2.blk _ _ hN;have hφ:(c.new k cs).φ c.H.length=(c.w.heap.size,0):=if_pos rfl;have hcs:cs'=cs:=by
  have hat:=hB.at_;rw[hφ] at hat;have h4:(c.new k cs).w.heap[c.w.heap.size]?=aag (.cells cs k.ty (0,0)):=heap_alloc_new _ _;simp only at hat;rw[h4] at hat
  cases fr with
  |none=>
   injection hat with hat
   cases hat
  |some fr=>
   injection hat with hat;injection hat with hat
   simp_all
 subst hcs;have hfit:=hB.fits;rw[hφ] at hfit;simp only[aa3] at hfit;have hrel:=Cx.newAt_rel (c:=c) (b:=b) (k:=k) (cs:=cs') hr hb hB.pos hfit hB.len (λi row j a' g1 g2=>by
  obtain⟨u,g3,g4,g5⟩:=hB.rel i row j a' g1 g2;rw[hφ] at g3;simp only[aa3] at g3;refine⟨u,g3,g4,.fr ?_⟩;have hf:=AA 9 a' u (hF row (aba g1) a' (aba g2)) g5;exact hf.move λg hg=>⟨(Below.heap_alloc _ _ _ (hr.lt g hg)).symm,hg,hr.lt g hg⟩)
 have hl2:=Cx.newAt_self (c:=c) (k:=k) (cs:=cs') hb;have hφ2:(c.newAt b k cs').φ b=(c.w.heap.size,0):=if_pos rfl;have hh2:(c.newAt b k cs').hd b k.ver=aag ⟨c.w.heap.size,0,k.s,k.rows.length,cs'.size⟩:=by
  have:=Cx.hd_of hl2 (o:=.cells cs' k.ty (0,0)) (by rw[hφ2];exact heap_alloc_new _ _);rw[hφ2] at this;exact this
 have hborn:(c.newAt b k cs').born b k.ver:=by
  unfold Cx.born;rw[show(c.newAt b k cs').H[b]?=aag (aag k) from hl2];exact aa1 _
 unfold Oper.wp;rw[h1];refine hK v (c.newAt b k cs') rfl hrel (Cx.newAt_ext hr hb) ?_;rcases hr0 with⟨n,rfl,rfl⟩|⟨i,j,rfl,rfl⟩
 .cases h3 with
  |fr h=>cases h
  |hs hb' hc hm h0 hx'=>
   have h5:=hx' _<|Cx.new_hd c k cs';refine .hs hborn hc hm h0 λx hx=>?_
   simp_all
 cases h3 with
 |fr h=>cases h
 |hp hb' hx'=>
  have h5:=hx' _<|Cx.new_hd c k cs';refine .hp hborn λx hx=>?_
  simp_all
theorem EvA.alR{zs:List AV}(b:Nat)(z:TyZ P t zs)(hn:(aaX 0 zs.length)=aae)(hF:zs.all (isF 9)=aae)(hb:H[b]?=aag aah):EvA P ρ (.alloc t) H (.hp b 0 zs.length 0 0) (H.set b<|aag ⟨0,zs.length,t,[zs]⟩):=λo ho=>by
 have hz:=z.z;have ho':=z.one
 cases hi:P.info? t with
 |none=>simp_all
 |some i=>
  rw[hi] at hz ho'
  cases hzz:i.zero with
  |none=>simp_all
  |some zv=>
   simp only[abE,hzz,abq,sie] at hz ho';have h:=Hz (P:=P) (ρ:=ρ) (H:=H) ho hi hzz (by simp_all) ho';rw[hz] at h;exact h.at_ hb (au hF)<|.inr ⟨0,0,rfl,rfl⟩
theorem EvA.mkOR{α:Type}{c:α->List AV}{ag:Bool}{w m:Nat}{zs:List AV}{n:Nat}{parts:Array (Nat×Operand)}(b:Nat)(k:List α)(rows:List<|List AV)(q:SlT P t e ag w zs m)(hr:ma (parts.toList.map λp=>(ρ p.2).cells)=aag rows)(hn:(aaX 0 w&&aaW (n*w) 16777216&&(parts.toList.map (·.1)==aa0 n))=aae)(hk:rows=k.map c)(hc:∀x,(c x).length=w)(hF:∀x,(c x).all (isF 9)=aae)(hlen:k.length=n)(hb:H[b]?=aag aah) :
  EvA P ρ (.buildSlice t n parts) H (hS aaf b 0 w k.length) (H.set b<|bE aaf 0 w e<|k.map c):=λo ho=>by
 subst hk;subst hlen;simp only[bae,beq_iff_eq] at hn;have hz:=P6 q.z (q.zl.trans q.ty.cells.symm);have h:=nY (P:=P) (ρ:=ρ) (H:=H) ho q.u hr (by rw[q.ty.cells];simp_all) (by rw[q.ty.cells];simp_all) hn.2 hz q.z.one (λrow hrow=>by
  obtain⟨x,_,rfl⟩:=abe.1 hrow;rw[hc,q.ty.cells])
 rw[q.ty.cells] at h;exact h.at_ hb (HQ hF)<|.inl ⟨_,rfl,rfl⟩
end
section
variable{P:Program}{nt b0:Nat}{Q:Exit->Env->AH->Prop}{H:AH}{ops:Array Oper}{l:List Oper}{d:Tmp}{x y:Operand}{t u e:TypeId}{ty:TypeId}{pos:String}{af:Array Edge}{en:List (Nat×AV)}{α:Type}[Inhabited α]{c:α->List AV}{xs:List α}
theorem Qe(w:World)(dd:Nat)(A:Option Addr)(n cap:Nat)(hu:P.underlying t=aag (.slice e)):(Op.equalIn (dd+1) t (.slice A n cap)<|.slice aah 0 0).run P w= .ok A.isNone w:=by
 cases A <;> simp[Op.equalIn,ay hu]
theorem HV(w:World)(A:Option Addr)(n cap:Nat)(hu:P.underlying t=aag (.slice e)):(Op.equal t (.slice A n cap)<|.slice aah 0 0).run P w= .ok A.isNone w:=Qe w 9999 A n cap hu
theorem Vx{C:Cx}{v:Value}(h:C.rel (eL c xs) v):∃A n cap,v= .slice A n cap/\(A=aah->xs=[]):=by
 have h:=xH h;unfold eL at h;generalize hn:xs.length=n at h
 cases h with
 |@sl _ cap s g o row a us hc hm ha hs hu2 h1 h3=>
  grind
theorem YB(neq:Bool)(hu:P.underlying t=aag (.slice e))(hx:rho (ak en) x=eL c xs)(hy:rho (ak en) y= .nil)(h1:xs=[]->TO P nt b0 ops l Q (ak ((d,Bo<|!neq)::en)) H)(h2:TO P nt b0 ops l Q (ak ((d,Bo neq)::en)) H) :
  TO P nt b0 ops (⟨aag d,.binOp (bif neq then .neq else .eql) t x y u,ty,pos,af,aah⟩::l) Q (ak en) H:=by
 intro hd k hl hn C c0 a hH hb hex hr;have ox:=hr.rho x;have oy:=hr.rho y;rw[hx] at ox;rw[hy] at oy;obtain⟨A,n,cap,hv,hA⟩:=Vx ox;have hv2:=iy oy;have hrun:(execOp a.eval (⟨aag d,.binOp (bif neq then .neq else .eql) t x y u,ty,pos,af,aah⟩:Oper)).run P C.w= .ok (.value<|.bool<|A.isNone != neq) C.w:=by
  have e1:∀op,execOp a.eval (⟨aag d,.binOp op t x y u,ty,pos,af,aah⟩:Oper)=(do pure (Next.value<|<- (do eqGuard op t x y (a.eval x) (a.eval y);binOp op t (a.eval x)<|a.eval y)):Sem Next):=λop=>by rw[execOp]
  rw[e1];refine JB _ ?_;rw[hv,hv2]
  cases neq
  .simp only[cond_false,Bool.bne_false];have : (eqGuard .eql t x y (.slice A n cap)<|.slice aah 0 0).run P C.w= .ok () C.w:=by simp[eqGuard]
   simp only[Sem.run_bind,this,Result.andThen_ok,binOp,HV C.w A n cap hu,Sem.run_pure]
  simp only[cond_true,Bool.bne_true];have : (eqGuard .neq t x y (.slice A n cap)<|.slice aah 0 0).run P C.w= .ok () C.w:=by simp[eqGuard]
  simp only[Sem.run_bind,this,Result.andThen_ok,binOp,HV C.w A n cap hu,Sem.run_pure]
 have h0:ops[k]?=aag (⟨aag d,.binOp (bif neq then .neq else .eql) t x y u,ty,pos,af,aah⟩:Oper):=by simpa using (hl 0).symm
 have ho:(⟨aag d,.binOp (bif neq then .neq else .eql) t x y u,ty,pos,af,aah⟩:Oper)∈ops.toList:=by rw[abL];exact abg h0
 have hl':∀j,l[j]?=ops[k+1+j]?:=λj=>by have:=hl<|j+1;grind
 simp only[llc] at hn;simp only[llc,abp,wpOps,h0];rw[if_pos (CH.free (ops:=ops) (e:=ak en) rfl nt C a hr)];refine .inl ?_;unfold Oper.wp;rw[hrun];have fin:TO P nt b0 ops l Q (ak ((d,Bo<|A.isNone != neq)::en)) H:=by
  cases A with
  |none=>simp_all
  |some ad=>simp_all
 exact fin hd (k+1) hl' (by omega) C c0 _ hH hb hex<|hr.put (aag d) (rC hd ho) (Ext.refl C) hr.heap<|eD rfl
omit [Inhabited α] in
end
set_option maxRecDepth 100000
section
variable{P:Program}
def OpG(P:Program)(o:Oper)(ρ:Operand->AV)(H:AH)(R:AV->AH->Prop):Prop:=
 ∀(c:Cx)(a:Act)(K:Act->World->Prop)(Q:Exit->Act->World->Prop),c.H=H->HRel c->(∀x∈o.op.operands,c.rel (ρ x)<|a.eval x) ->
  (∀v c' r,R r c'.H->HRel c'->Ext c c'->c'.rel r v->K (a.put o.dst v) c'.w)->o.wp P a c.w K Q
theorem IK{o:Oper}{ρ:Operand->AV}{cl:Call}{f:Operand}{g:FuncId}{pK:List AV}{H:AH}{R:AV->AH->Prop}(ho:o.op= .call cl)(hc:cl.callee= .value f)(hf:ρ f= .fn (.func g) pK)(h:cN P g (cl.args.toList.map ρ++pK) H R):OpG P o ρ H R:=by
 intro c a K Q hH hr hxs hK;have hf1:=hf ▸ hxs f (by rw[ho];simp[Op.operands,Call.operands,hc]);obtain⟨vs,he,hl,hrel⟩:=DV hf1;have hargs:JH c (cl.args.toList.map ρ++pK) (cl.args.map a.eval++vs):=by
  refine⟨by simp[hl],λi q v hq hv=>?_⟩;rcases aa9 i cl.args.size with hlt|hge
  .rw[gal (by simpa using hlt),abF,aa8,abt hlt] at hq;rw[abQ (by simpa using hlt),abR,abt hlt] at hv;simp only[abq,sie] at hq hv;subst hq hv;refine hxs _ ?_;rw[ho];simp[Op.operands,Call.operands]
  rw[gar (by simpa using hge)] at hq;rw[Array.getElem?_append_right (by simpa using hge)] at hv;simp only[llm,abA,Array.size_map] at hq hv;exact hrel _ q v hq hv
 have hrun:(execOp a.eval o).run P c.w= .ok (.enter g<|cl.args.map a.eval++vs) c.w:=by
  rw[execOp,ho];simp only[resolve,hc,he,Deferred.ofValue,Sem.run_bind,Sem.run_pure,Result.andThen_ok,invoke];have:=yO h.1 (cl.args.map a.eval++vs) c.w;simpa using this
 unfold Oper.wp;rw[hrun,Oper.upon_enter];refine(h.2 c _ hH hr hargs).mono λe w' ⟨v,c',r,he,hw,hR,hr',hx,hv⟩=>?_
 grind
theorem TO.runG{nt b0:Nat}{Q:Exit->Env->AH->Prop}{e:Env}{H:AH}{ops:Array Oper}{o:Oper}{l:List Oper}{R:AV->AH->Prop}(hw:CH ops e o aae)(hv:OpG P o (rho e) H R)(h:∀r H',R r H'->TO P nt b0 ops l Q (ww e o.dst r) H'):TO P nt b0 ops (o::l) Q e H:=by
 intro hd k hl hn c c0 a hH hb hx hr;have h0:ops[k]?=aag o:=by simpa using (hl 0).symm
 have ho:o∈ops.toList:=by rw[abL];exact abg h0
 have hl':∀j,l[j]?=ops[k+1+j]?:=λj=>by have:=hl<|j+1;grind
 simp only[llc] at hn;simp only[llc,abp,wpOps,h0];rw[if_pos (hw nt c a hr)];refine .inl<|hv c a _ _ hH hr.heap (λx _=>hr.rho x) λv c' r hR hr' hx' hv=>?_;exact h r c'.H hR hd (k+1) hl' (by omega) c' c0 _ rfl hb (hx.trans hx')<|hr.put o.dst (rC hd ho) hx' hr' hv
def KO(w:Nat)(ty:TypeId)(mk:AV->AV)(n:Nat)(rows:List<|List AV)(m:Nat)(H:AH):AV->AH->Prop:=λr G=>∃g ver,(g=aae->n=0)/\r=mk (hS g m ver w n)/\G=H++[bE g ver w ty rows]
theorem cN.own{f:FuncId}{aac:List AV}{H:AH}{w:Nat}{ty:TypeId}{mk:AV->AV}{n:Nat}{rows:List (List AV)}(h:cN P f aac []<|KO w ty mk n rows 0 [])(has:aac.all (isF 9)=aae)(hk:∀r∈rows,∀a∈r,isF 9 a=aae)
  (hmk:∀(S:Nat->Nat->Prop)(a b:AV),Ren S a b->Ren S (mk a) (mk b)) (m:Nat) (hm:H.length=m):cN P f aac H (KO w ty mk n rows m H):=by
 subst hm;refine h.frame [] (by simp) rfl (λi c hi=>by grind) rfl (λi c d hc hd=>?_) λr0 G0 ⟨g,ver,hg,hr0,hG0⟩=>?_
 .obtain⟨rfl,hm⟩:=gY hc hd;exact bA 9 c<|aaZ.1 has _ hm
 subst hr0 hG0;have key:∀i b,sg [] H.length i b->i<1->b=H.length:=λi b hs hi=>by
  rcases hs with hs|⟨_,hs⟩
  .simp at hs
  omega
 refine⟨_,_,⟨by simp,by simp,λi b hi hs hn=>?_,λi b k0 hs hk0=>?_,λb hb _=>gal hb⟩,hmk _ _ _ ?_,⟨g,ver,hg,rfl,rfl⟩⟩
 .grind
 .have hi:i<1:=by
   have:=(ges hk0).1;simpa using this
  obtain rfl:=key i b hs hi;obtain rfl:i=0:=by omega
  simp only[List.nil_append,aa7,sie] at hk0;refine⟨k0,by grind,.ofF λr hr a ha=>?_⟩
  cases g with
  |true=>cases hk0
  |false=>
   obtain rfl:=osl hk0
   grind
 cases g with
 |true=>exact .nil
 |false=>exact .hs (.inr ⟨abf _,by simp⟩)
def Zo(w:Nat)(ty:TypeId)(mk:AV->AV)(n:Nat)(rows:List<|List AV):AV->AH->Prop:=λr G=>∃b g ver,(g=aae->n=0)/\r=mk (hS g b ver w n)/\(g=aaf->G[b]?=aag (aag ⟨ver,w,ty,rows⟩))
theorem cN.mkO{f:FuncId}{fn:Func}{body:Code}{aac:List AV}{w:Nat}{ty:TypeId}{mk:AV->AV}{n:Nat}{rows:List (List AV)}(hf:P.funcs[f]?=aag fn)(hb:fn.body=aag body)(hcall:lT P f=aae)(hn:aaW aac.length fn.ntmps=aae)
  (hok:codeOk fn.ntmps body=aae) {e0:Env} (hw:GX (UE aac) e0) (hmk:∀(S:Nat->Nat->Prop)(a b:AV),Ren S a b->Ren S (mk a) (mk b)) (hk:∀r∈rows,∀a∈r,isF 9 a=aae)
  (h:T P fn.ntmps 0 body (Fin P fn<|Zo w ty mk n rows) e0 []):cN P f aac [] (KO w ty mk n rows 0 []):=by
 have hB:=cN.mkT (H:=[]) hf hb hcall hn hok hw h;refine⟨hB.1,λc vs hH hr hall=>(hB.2 c vs hH hr hall).mono λe w' ⟨v,c1,r,he,hw',⟨b,g,ver,hg,hr0,hG⟩,hr1,hx,hv⟩=>?_⟩;subst hr0 hw';have hni:∀b k,¬ c.live b k:=λb k hl=>by
  have hl':c.H[b]?=aag (aag k):=hl
  simp_all
 have hnb:∀b ver,¬ c.born b ver:=λb ver hb=>by
  have hlt:=kx hb
  simp_all
 cases g with
 |true=>
  let c2:Cx:={ w:=c1.w,fz:=c1.fz,H:=[aah],φ:=c1.φ };refine⟨v,c2,mk .nil,he,rfl,⟨aae,ver,hg,rfl,rfl⟩,⟨hr1.lt,λb k hl=>?_,λb b' k k' hl _ _=>?_,hr1.gl⟩,⟨hx.os,hx.tape,hx.output,hx.size,λg hg _=>hx.keep g hg λb k hl=>absurd hl<|hni b k,hx.fz,hx.Af,?_,λb ver hb=>absurd hb<|hnb b ver,λb ver x hb=>absurd hb<|hnb b ver,λb k hl=>?_⟩,?_⟩
  .exact absurd (show([aah]:AH)[b]?=aag (aag k) from hl) (by grind)
  .exact absurd (show([aah]:AH)[b]?=aag (aag k) from hl) (by grind)
  .simp_all
  .exact absurd (show([aah]:AH)[b]?=aag (aag k) from hl) (by grind)
  exact Ren.rel (c1:=c1) (c2:=c2) (S:=λ_ _=>False) (aa1 _) (λg hg _=>⟨rfl,hg⟩) (λ_ _ _ hS=>hS.elim) (λ_ _ _ _ hS=>hS.elim) (hmk _ _ _ .nil) v hv
 |false=>
  have hG:=hG rfl;let c2:Cx:={ w:=c1.w,fz:=c1.fz,H:=[aag ⟨ver,w,ty,rows⟩],φ:=λ_=>c1.φ b };have l2:∀{i k},c2.live i k->i=0/\k=⟨ver,w,ty,rows⟩:=λ{i k}hl=>by
   have hl':([aag ⟨ver,w,ty,rows⟩]:AH)[i]?=aag (aag k):=hl
   grind
  have hl1:c1.live b ⟨ver,w,ty,rows⟩:=hG;obtain⟨cs,fr,hB⟩:=hr1.blk b _ hl1;have hrel:∀a a',Ren (λx y=>x=b/\y=0) a a'->∀v,c1.rel a v->c2.rel a' v:=λa a' hra=>by
   refine Ren.rel (c1:=c1) (c2:=c2) (aa1 _) (λg hg _=>⟨rfl,hg⟩) (λx y q hS hb=>?_) (λx y q z hS hb hz=>?_) hra
   .obtain⟨rfl,rfl⟩:=hS;exact yP hb (λhd=>by simp_all) λk hk=>⟨_,rfl,by simp_all⟩
   obtain⟨rfl,rfl⟩:=hS;refine AB hz rfl rfl λk hk=>⟨_,hG,?_⟩
   grind
  refine⟨v,c2,mk<|hS aaf 0 ver w n,he,rfl,⟨aaf,ver,hg,rfl,rfl⟩,⟨hr1.lt,λi k hl=>?_,λi j k k' hi hj hne=>?_,hr1.gl⟩,⟨hx.os,hx.tape,hx.output,hx.size,λg hg _=>hx.keep g hg λb k hl=>absurd hl<|hni b k,hx.fz,hx.Af,?_,λb ver hb=>absurd hb<|hnb b ver,λb ver x hb=>absurd hb<|hnb b ver,λi k hl=>?_⟩,?_⟩
  .obtain⟨rfl,rfl⟩:=l2 hl;exact⟨cs,fr,(RenK.ofF (S:=λx y=>x=b/\y=0) (k:=⟨ver,w,ty,rows⟩) hk).blk hB rfl rfl hB.nf hrel⟩
  .grind
  .simp_all
  .obtain⟨rfl,rfl⟩:=l2 hl;exact hx.kO b _ hl1
  exact hrel _ _ (hmk _ _ _<|.hs ⟨rfl,rfl⟩) v hv
end
section
variable{P:Program}{nt b0:Nat}{Q:Exit->Env->AH->Prop}{en:List (Nat×AV)}{H:AH}{ops:Array Oper}{l:List Oper}{d:Tmp}{t:TypeId}{pos:String}{af:Array Edge}
theorem oG{cl:Call}{f:Operand}{g:FuncId}{pK aac:List AV}{w m:Nat}{ty:TypeId}{mk:AV->AV}{n:Nat}{rows:List (List AV)}(hc:cl.callee= .value f)(hf:rho (ak en) f= .fn (.func g) pK)(ha:cl.args.toList.map (rho<|ak en)++pK=aac)
  (h:cN P g aac H<|KO w ty mk n rows m H) (k:∀g ver,(g=aae->n=0)->TO P nt b0 ops l Q (ak ((d,mk<|hS g m ver w n)::en)) (H++[bE g ver w ty rows])):TO P nt b0 ops (⟨aag d,.call cl,t,pos,af,aah⟩::l) Q (ak en) H:=by
 subst ha;exact TO.runG (.free rfl) (IK rfl hc hf h) λr H' ⟨g,ver,hg,hr,hH⟩=>by
  subst hr hH;exact k g ver hg
theorem ownB{G:AH}{b:Nat}{g:Bool}{ver w:Nat}{ty:TypeId}{rows:List (List AV)}(h:G[b]?=aag (bE g ver w ty rows)):g=aaf->G[b]?=aag (aag ⟨ver,w,ty,rows⟩):=by
 rintro rfl;exact h
theorem nA{α:Type}{f:α->List AV}{l:List α}(hf:∀x,(f x).all (isF 9)=aae):∀r∈l.map f,∀a∈r,isF 9 a=aae:=by grind
theorem sF(S:Nat->Nat->Prop)(a b:AV)(h:Ren S a b):Ren S a b:=h
end
structure Reid(b0:Nat)(S:Nat->Nat->Prop)(H H0:AH):Prop where
 fwd:∀i j j',S i j->S i j'->j=j'
 inj:∀i i' j,S i j->S i' j->i=i'
 low:∀i,i<b0->S i i
 len:b0<=H0.length
 back:∀j k0,H0[j]?=aag (aag k0)->∃i k,S i j/\H[i]?=aag (aag k)/\RenK S k k0
 keep:∀i j k,S i j->H[i]?=aag (aag k)->∃k0,H0[j]?=aag (aag k0)
open Classical in
theorem Reid.state{nt b0:Nat}{S:Nat->Nat->Prop}{H0:AH}{c c0:Cx}{e e0:Env}{a:Act}(h:Reid b0 S c.H H0)(hx:Ext c0 c)(hs:SRel c nt e a)(hb:c0.H.length<=b0)(he:∀t,Ren S (e t)<|e0 t) :
  ∃c',c'.w=c.w/\Ext c0 c'/\SRel c' nt e0 a/\c'.H=H0:=by
 let φ':Nat->Nat×Nat:=λj=>if hj:∃i,S i j then c.φ (Classical.choose hj) else (0,0);have φe:∀{i j},S i j->φ' j=c.φ i:=λ{i j}hS=>by
  have hj:∃i,S i j:=⟨i,hS⟩;show(if hj:∃i,S i j then c.φ (Classical.choose hj) else (0,0))=_;rw[dif_pos hj,h.inj _ _ _ (Classical.choose_spec hj) hS]
 let c':Cx:={ w:=c.w,fz:=c.fz,H:=H0,φ:=φ' };have ver:∀{i j k k0},S i j->c.H[i]?=aag (aag k)->H0[j]?=aag (aag k0)->RenK S k k0:=λ{i j k k0}hS hk hk0=>by
  obtain⟨i',k',h1,h2,h3⟩:=h.back j k0 hk0;obtain rfl:=h.inj _ _ _ h1 hS
  simp_all
 have hb1:∀i j pY,S i j->c.born i pY->c'.born j pY:=λi j pY hS hbn=>by
  have hlt:=kx hbn;refine yP hbn (λhd=>?_) λk hk=>?_
  .unfold Cx.born at hbn
   simp_all
  obtain⟨k0,hk0⟩:=h.keep i j k hS hk;exact⟨k0,hk0,(ver hS hk hk0).ver⟩
 have hh1:∀i j pY x,S i j->c.born i pY->c'.hd j pY=aag x->c.hd i pY=aag x:=λi j pY x hS _ hhd=>by
  refine AB hhd (φe hS) rfl λk0 hk0=>?_;obtain⟨i',k,h1,h2,h3⟩:=h.back j k0 hk0;obtain rfl:=h.inj _ _ _ h1 hS;exact⟨k,h2,h3.ver.symm,h3.s.symm,h3.len⟩
 have hrel:∀x y,Ren S x y->∀v,c.rel x v->c'.rel y v:=λx y hra=>Ren.rel (c1:=c) (c2:=c') (aa1 _) (λg hg _=>⟨rfl,hg⟩) hb1 hh1 hra;have hr':HRel c':=by
  refine⟨hs.heap.lt,λj k0 hl=>?_,λj j' k0 k0' hl hl' hne=>?_,hs.heap.gl⟩
  .obtain⟨i,k,h1,h2,h3⟩:=h.back j k0 hl;obtain⟨cs,fr,hB⟩:=hs.heap.blk i k h2;exact⟨cs,fr,h3.blk hB (φe h1) rfl hB.nf hrel⟩
  obtain⟨i,k,h1,h2,_⟩:=h.back j k0 hl;obtain⟨i',k',h1',h2',_⟩:=h.back j' k0' hl';show(φ' j).1≠(φ' j').1;rw[φe h1,φe h1'];refine hs.heap.inj i i' k k' h2 h2' λe=>hne ?_;subst e;exact h.fwd _ _ _ h1 h1'
 refine⟨c',rfl,⟨hx.os,hx.tape,hx.output,hx.size,hx.keep,hx.fz,hx.Af,Nat.le_trans hb h.len,λb v hbn=>hb1 b b v (h.low b<|Nat.lt_of_lt_of_le (kx hbn) hb)<|hx.born b v hbn,λb v x hbn hhd=>?_,λj k0 hl=>?_⟩,⟨hs.size,hs.defers,λt=>hrel _ _ (he t) _<|hs.rel t,hr'⟩,rfl⟩
 .exact hx.hd b v x hbn<|hh1 b b v x (h.low b<|Nat.lt_of_lt_of_le (kx hbn) hb) (hx.born b v hbn) hhd
 obtain⟨i,k,h1,h2,_⟩:=h.back j k0 hl;show _<=(φ' j).1\/∃b0 k0,c0.live b0 k0/\(c0.φ b0).1=(φ' j).1;rw[φe h1];exact hx.kO i k h2
section
variable{P:Program}{nt b0:Nat}{Q:Exit->Env->AH->Prop}{e e0:Env}{H H0:AH}{S:Nat->Nat->Prop}
theorem T.reid{code:Code}(hS:Reid b0 S H H0)(he:∀t,Ren S (e t)<|e0 t)(h:T P nt b0 code Q e0 H0):T P nt b0 code Q e H:=by
 intro hok c c0 a hH hb hx hr;subst hH;obtain⟨c',h4,h5,h6,h7⟩:=hS.state hx hr hb he;rw[<- h4];exact h hok c' c0 a h7 hb h5 h6
theorem TO.reid{ops:Array Oper}{l:List Oper}(hS:Reid b0 S H H0)(he:∀t,Ren S (e t)<|e0 t)(h:TO P nt b0 ops l Q e0 H0):TO P nt b0 ops l Q e H:=by
 intro hd k hl hn c c0 a hH hb hx hr;subst hH;obtain⟨c',h4,h5,h6,h7⟩:=hS.state hx hr hb he;rw[<- h4];exact h hd k hl hn c' c0 a h7 hb h5 h6
end
abbrev NG:=Nat->Bool×Nat×Nat
def NG.put(gh:NG)(i:Nat)(x:Bool×Nat×Nat):NG:=λj=>bif aa5 j i then x else gh j
section
variable{α:Type}
def UI(gh:NG)(w i n:Nat):List AV:=[hS (gh i).1 (gh i).2.1 (gh i).2.2 w n]
def pO(gh:NG)(w:Nat)(l:List<|List α):List (List AV):=(aa0 l.length).map λi=>UI gh w i (l.getD i []).length
theorem uh(gh:NG)(w:Nat)(l:List<|List α):(pO gh w l).length=l.length:=by simp[pO]
theorem ui{gh:NG}{w:Nat}{l:List (List α)}{i:Nat}(h:i<l.length):(pO gh w l)[i]?=aag (UI gh w i (l.getD i []).length):=by simp[pO,h]
theorem Fj(gh:NG)(i:Nat)(x:Bool×Nat×Nat):gh.put i x i=x:=by simp[NG.put]
theorem BC{gh:NG}{i j:Nat}(x:Bool×Nat×Nat)(h:j≠i):gh.put i x j=gh j:=by
 unfold NG.put;rw[show aa5 j i=aaf from abM.2 λe=>h (abD e)]
 rfl
theorem Qf{gh:NG}{w:Nat}{l:List (List α)}{i:Nat}{g:Bool}{id ver:Nat}{r:List α}(h:i<l.length):(pO gh w l).set i [hS g id ver w r.length]=pO (gh.put i (g,id,ver)) w (l.set i r):=by
 apply aa4;intro j
 by_cases hj:j<l.length
 .rw[ui (by simp_all)]
  by_cases e:i=j
  .subst e;rw[abn (by rw[uh];exact h)];simp[UI,Fj,h]
  rw[aa2 e,ui hj];have : (l.set i r).getD j []=l.getD j []:=by simp[aa2 e]
  simp only[UI,this,BC _ (λh=>e h.symm)]
 rw[gen (by simp[uh];omega),gen (by simp[uh];omega)]
structure NK(m:Nat)(H:AH)(gh:NG)(w:Nat)(ty:TypeId)(f:α->List AV)(l:List (List α)):Prop where
 at_:∀i,i<l.length->m<=(gh i).2.1/\H[(gh i).2.1]?=aag (bE (gh i).1 (gh i).2.2 w ty<|(l.getD i []).map f)
 nil_:∀i,i<l.length->(gh i).1=aae->l.getD i []=[]
 sep:∀i j,i<l.length->j<l.length->i≠j->(gh i).2.1≠(gh j).2.1
variable{m:Nat}{H H':AH}{gh:NG}{w:Nat}{ty:TypeId}{f:α->List AV}{l:List (List α)}
theorem NK.low(h:NK m H gh w ty f l)(he:∀b,m<=b->b<H.length->H'[b]?=H[b]?):NK m H' gh w ty f l:=
 ⟨λi hi=>⟨(h.at_ i hi).1,by
  rw[he _ (h.at_ i hi).1 (ges (h.at_ i hi).2).1];exact(h.at_ i hi).2⟩,h.nil_,h.sep⟩
theorem NK.set(h:NK m H gh w ty f l){i:Nat}(hi:i<l.length){g:Bool}{ver:Nat}{r:List α}(hg:g=aae->r=[]):NK m (H.set (gh i).2.1<|bE g ver w ty<|r.map f) (gh.put i (g,(gh i).2.1,ver)) w ty f (l.set i r):=by
 refine⟨λj hj=>?_,λj hj hn=>?_,λj k hj hk hne=>?_⟩
 .have hj':j<l.length:=by simpa using hj
  by_cases e:i=j
  .subst e;rw[Fj];refine⟨(h.at_ i hi).1,?_⟩;rw[abn (ges (h.at_ i hi).2).1]
   grind
  rw[BC _ (λh=>e h.symm)];refine⟨(h.at_ j hj').1,?_⟩;rw[aa2 (h.sep i j hi hj' e),(h.at_ j hj').2]
  simp_all
 .have hj':j<l.length:=by simpa using hj
  by_cases e:i=j
  .subst e;rw[Fj] at hn
   simp_all
  rw[BC _ (λh=>e h.symm)] at hn;have:=h.nil_ j hj' hn
  simp_all
 have hj':j<l.length:=by simpa using hj
 have hk':k<l.length:=by simpa using hk
 have key:∀q,(gh.put i (g,(gh i).2.1,ver) q).2.1=(gh q).2.1:=λq=>by
  by_cases e:q=i
  .subst e;rw[Fj]
  rw[BC _ e]
 rw[key,key];exact h.sep j k hj' hk' hne
theorem NK.fz[Inhabited α](h:NK m H gh w ty f l){b ver n:Nat}{to:TypeId}(hb:H[b]?=aag (bE aaf ver 1 to<|pO gh w l))(hn:n=l.length)(hf:∀x,(f x).all (isF 9)=aae):Fz 0 H (hS aaf b ver 1 n) (eL (cL f) l):=by
 subst hn;have e0:∀i,i<l.length->l.getD i aad=l.getD i []:=λi hi=>by grind
 refine .hs (k:=⟨ver,1,to,pO gh w l⟩) (abf _) hb rfl rfl (by simp[uh]) (λi r hi hr=>?_) λi r j c d hi hr hc hd=>?_
 .rw[aa3,ui hi] at hr;obtain rfl:=osl hr
  rfl
 rw[aa3,ui hi] at hr;obtain rfl:=osl hr
 match j with
 |0=>
  obtain rfl:=osl hc;obtain rfl:=osl hd;rw[e0 i hi];exact Fz.own (abG<|abf _) (h.at_ i hi).2 rfl (h.nil_ i hi) hf
 |j+1=>simp[UI] at hc
end

section
variable{P:Program}{α:Type}
def YC(w:Nat)(ty to:TypeId)(f:α->List AV)(mk:AV->AV)(l:List<|List α)(m:Nat)(H:AH):AV->AH->Prop:=λr G=>
 ∃ver gh,r=mk (hS aaf m ver 1 l.length)/\G=H++[aag ⟨ver,1,to,pO gh w l⟩]++(aa0 l.length).map (λi=>bE (gh i).1 (gh i).2.2 w ty<|(l.getD i []).map f) /\
  ∀i,i<l.length->(gh i).2.1=m+1+i/\((gh i).1=aae->l.getD i []=[])
theorem YC.nk{w:Nat}{ty to:TypeId}{f:α->List AV}{l:List (List α)}{m ver:Nat}{H:AH}{gh:NG}(hm:H.length=m)(h:∀i,i<l.length->(gh i).2.1=m+1+i/\((gh i).1=aae->l.getD i []=[])) :
  NK (m+1) (H++[aag ⟨ver,1,to,pO gh w l⟩]++(aa0 l.length).map (λi=>bE (gh i).1 (gh i).2.2 w ty<|(l.getD i []).map f)) gh w ty f l:=by
 refine⟨λi hi=>⟨by rw[(h i hi).1];omega,?_⟩,λi hi=>(h i hi).2,λi j hi hj hne=>by rw[(h i hi).1,(h j hj).1];omega⟩;rw[(h i hi).1,gar (by simp[hm])]
 simp_all
def SxN(b:Nat)(gh:NG)(n:Nat)(i j:Nat):Prop:=(i=b/\j=0)\/∃q,q<n/\i=(gh q).2.1/\j=q+1
def ghN(gh:NG):NG:=λq=>((gh q).1,q+1,(gh q).2.2)
theorem Reid.own{w:Nat}{ty to:TypeId}{f:α->List AV}{l:List (List α)}{b ver:Nat}{gh:NG}{G:AH}(hb:G[b]?=aag (aag ⟨ver,1,to,pO gh w l⟩))(hN:NK 0 G gh w ty f l)(hne:∀i,i<l.length->(gh i).2.1≠b)(hf:∀x,(f x).all (isF 9)=aae) :
  Reid 0 (SxN b gh l.length) G ([]++[aag ⟨ver,1,to,pO (ghN gh) w l⟩]++(aa0 l.length).map (λi=>bE ((ghN gh) i).1 ((ghN gh) i).2.2 w ty<|(l.getD i []).map f)):=by
 have g0:∀(x:Option ABlk)(K:AH),([]++[x]++K)[0]?=aag x:=λx K=>rfl;have g1:∀q,q<l.length->([]++[aag ⟨ver,1,to,pO (ghN gh) w l⟩]++(aa0 l.length).map (λi=>bE ((ghN gh) i).1 ((ghN gh) i).2.2 w ty<|(l.getD i []).map f):AH)[q+1]?=aag (bE (gh q).1 (gh q).2.2 w ty<|(l.getD q []).map f):=λq hq=>by simp[hq,ghN]
 refine⟨λi j j' h1 h2=>?_,λi i' j h1 h2=>?_,λi hi=>by omega,abf _,λj k0 hk=>?_,λi j k hS hk=>?_⟩
 .rcases h1 with⟨rfl,rfl⟩|⟨q,hq,rfl,rfl⟩ <;> rcases h2 with⟨c1,rfl⟩|⟨q',hq',c1,rfl⟩
  .rfl
  .grind
  .simp_all
  by_cases e:q=q'
  .rw[e]
  exact absurd c1<|hN.sep q q' hq hq' e
 .rcases h1 with⟨rfl,rfl⟩|⟨q,hq,rfl,rfl⟩ <;> rcases h2 with⟨rfl,c2⟩|⟨q',hq',rfl,c2⟩
  .rfl
  .omega
  .omega
  simp_all
 .match j with
  |0=>
   rw[g0] at hk;obtain rfl:=osl<|osl hk;refine⟨b,_,.inl ⟨rfl,rfl⟩,hb,rfl,rfl,rfl,by simp[uh],λi r r' hr hr'=>?_⟩;have hi:i<l.length:=by
    have:=(ges hr).1
    rwa [uh] at this
   rw[ui hi] at hr hr';obtain rfl:=osl hr;obtain rfl:=osl hr';refine⟨rfl,λj a a' ha ha'=>?_⟩
   match j with
   |0=>
    obtain rfl:=osl ha;obtain rfl:=osl ha';show Ren _ (hS (gh i).1 (gh i).2.1 (gh i).2.2 w _) (hS (gh i).1 (i+1) (gh i).2.2 w _)
    cases hg:(gh i).1 with
    |true=>exact .nil
    |false=>exact .hs (.inr ⟨i,hi,rfl,rfl⟩)
   |j+1=>simp[UI] at ha
  |q+1=>
   have hq:q<l.length:=by
    have:=(ges hk).1;simp at this;omega
   rw[g1 q hq] at hk;refine⟨(gh q).2.1,k0,.inr ⟨q,hq,rfl,rfl⟩,(hN.at_ q hq).2.trans hk,.ofF λr hr a ha=>?_⟩
   cases hg:(gh q).1 with
   |true=>rw[hg] at hk;cases hk
   |false=>
    rw[hg] at hk;obtain rfl:=osl<|osl hk
    grind
 rcases hS with⟨rfl,rfl⟩|⟨q,hq,rfl,rfl⟩
 .simp_all
 rw[g1 q hq,<- (hN.at_ q hq).2]
 simp_all
end
def KF(K:AH):Prop:=∀(i:Nat)(k:ABlk),K[i]?=aag (aag k)->rQ k
def Dp(b N:Nat)(i j:Nat):Prop:=i≠b/\i<N/\j=i
theorem Reid.drop{b0 b N:Nat}{H:AH}(hN:H.length=N)(h0:b0<=b)(hlt:b<N)(hR:∀i k,i≠b->H[i]?=aag (aag k)->RenK (Dp b N) k k):Reid b0 (Dp b N) H (H.set b aah):=by
 refine⟨λi j j' h1 h2=>by rw[h1.2.2,h2.2.2],λi i' j h1 h2=>by rw[<- h1.2.2,h2.2.2],λi hi=>⟨by omega,by omega,rfl⟩,by grind,λj k0 hk=>?_,λi j k hS hk=>?_⟩
 .have hj:j<N:=by
   have:=(ges hk).1;simpa [hN] using this
  by_cases e:j=b
  .simp_all
  rw[aa2 (λh=>e h.symm)] at hk;exact⟨j,k0,⟨e,hj,rfl⟩,hk,hR j k0 e hk⟩
 obtain⟨h1,h2,rfl⟩:=hS
 grind
section
variable{α:Type}{m:Nat}{H:AH}{gh:NG}{w:Nat}{ty:TypeId}{f:α->List AV}{l:List (List α)}
theorem NK.nil{m:Nat}{H:AH}{gh:NG}:NK m H gh w ty f ([]:List<|List α):=⟨λi hi=>absurd hi (by simp),λi hi=>absurd hi (by simp),λi j hi=>absurd hi<|by simp⟩
theorem NK.lt(h:NK m H gh w ty f l){i:Nat}(hi:i<l.length):(gh i).2.1<H.length:=(ges (h.at_ i hi).2).1
end
section
variable{P:Program}{o:Oper}{ρ:Operand->AV}{H:AH}{x y:Operand}{t e:TypeId}
theorem G5{lo co:Operand}{l k:Int}{z:Value}(ho:o.op= .makeSlice t lo co)(ht:P.underlying t=aag (.slice e))(hlo:ρ lo= .v (.int .i64 l))(hco:ρ co= .v (.int .i64 k))(hz:(P.info? e).bind (·.zero)=aag z)
  (h0:0<=l) (h1:l<=k) (hb:k*(P.bytesOf e:Int)<=140737488355328) (hk:k<=140737488355328) (hs:0<P.cellsOf e) (hzs:(eC z).length=P.cellsOf e) (hz1:nW z.cells=aae) :
  PL P o ρ H ⟨0,P.cellsOf e,e,aaY k.toNat<|eC z⟩ (.hs H.length 0 (P.cellsOf e) 0 l.toNat):=by
 cases hi:P.info? e with
 |none=>simp_all
 |some i=>
  simp only[hi,abE] at hz;have hby:P.bytesOf e=i.bytes:=by simp[Program.bytesOf,hi]
  have hce:P.cellsOf e=i.size:=by simp[Program.cellsOf,hi]
  have hzsz:z.cells.size=P.cellsOf e:=by simpa [eC] using hzs
  refine λc a hH hr hx=>?_;have hl1:=(iw<|hlo ▸ hx lo (by rw[ho];simp[Op.operands])).1;have hk1:=(iw<|hco ▸ hx co (by rw[ho];simp[Op.operands])).1;have hzc:=wA c hz1;have hsize:(sizeOf e).run P c.w= .ok (P.cellsOf e) c.w:=run_sizeOf c.w hi;have hzero:(zeroValue e).run P c.w= .ok z c.w:=by simp[zeroValue,typeInfo,hi,hz]
  refine⟨(abB<|k.toNat*P.cellsOf e).map (z.cells[· % z.cells.size]!),.slice (aag ⟨c.w.heap.size,0,aah⟩) l.toNat k.toNat,?_,Cx.new_rel hr _ _ hs (by simp) (λq row h=>?_) λq row j a' h1' h2=>?_,?_⟩
  .rw[execOp,ho];refine(?_:Sem.run P _ c.w=_);have hneg : ¬ ((((aai (k<0)||aai (i.bytes*k>2 ^ 48))||aai (l<0))||aai (l>k))=aae):=by
    simp only[abm,dte,not_or];rw[hby,Int.mul_comm] at hb;omega
   have : (Instr.makeSlice t (a.eval lo)<|a.eval co).run P c.w= .ok (.slice (aag ⟨c.w.heap.size,0,aah⟩) l.toNat k.toNat) (c.w.alloc (.cells ((abB<|k.toNat*P.cellsOf e).map (z.cells[· % z.cells.size]!)) e)):=by
    rw[hl1,hk1];simp only[Instr.makeSlice,Sem.run_bind,ay ht,Result.andThen_ok,asInt,asIntOf,Sem.run_pure,run_typeInfo c.w hi,Iz (n:=l) h0 (by omega),Iz (n:=k) (by omega) (by omega)];rw[if_neg hneg];simp only[Sem.run_bind,run_askRoom,Result.andThen_ok,hsize]
    by_cases h00:k.toNat*P.cellsOf e=0
    .rw[if_pos h00,h00];have h00':∀f:Nat->Value,Array.map f (abB 0)=#[]:=λf=>Array.eq_empty_of_size_eq_zero (by simp);simp[newRow,h00']
    rw[if_neg h00];simp[hzero,newRow]
   simp only[Sem.run_bind,this,Result.andThen_ok,Sem.run_pure]
   rfl
  .grind
  .have hq:q<k.toNat:=by
    have:=(ges h1').1;simpa using this
   have:=aba h1';rw[abo] at this;rw[this.2] at h2;have hj:j<P.cellsOf e:=by
    have:=(ges h2).1;omega
   have hfit:q*P.cellsOf e+j<k.toNat*P.cellsOf e:=by
    have : (q+1)*P.cellsOf e<=k.toNat*P.cellsOf e:=abh _ (by omega);rw[abb] at this;omega
   simp only;rw[Ff _ _ _ hfit (by omega),hzsz,abC,Nat.mul_add_mod,Nat.mod_eq_of_lt hj];exact hzc.get h2
  subst hH;have:=Cx.new_hs c ⟨0,P.cellsOf e,e,aaY k.toNat<|eC z⟩ ((abB<|k.toNat*P.cellsOf e).map (z.cells[· % z.cells.size]!)) (n:=l.toNat) (cap:=k.toNat) (by simp;omega) (by omega) (by omega) (by simp);omega
theorem IL{ag:Bool}{w m:Nat}{zs:List AV}{a b:Int}(q:SlT P t e ag w zs m)(ho:o.op= .makeSlice t x y)(hx:ρ x= .v (.int .i64 a))(hy:ρ y= .v (.int .i64 b))(hq:0<=a/\a<=b/\b*(m:Int)<=140737488355328/\b<=140737488355328) :
  PL P o ρ H ⟨0,w,e,aaY b.toNat zs⟩ (.hs H.length 0 w 0 a.toNat):=by
 have hz:=q.z.z;have h1:=q.z.one
 cases hb:(P.info? e).bind (·.zero) with
 |none=>simp_all
 |some z=>
  simp_all
  have h:=G5 (H:=H) ho q.u hx hy hb hq.1 hq.2.1 (by rw[q.by_];omega) hq.2.2.2 (by rw[q.ty.cells];exact nlb q.pos) (by rw[hz,q.ty.cells];exact q.zl) h1;rw[hz,q.ty.cells] at h;exact h
theorem ZT.msF{α:Type}[Inhabited α]{c:α->List AV}{ag:Bool}{w m:Nat}{zs:List AV}{a b:Int}(v:α)(q:SlT P t e ag w zs m)(hx:ρ x= .v (.int .i64 a))(hy:ρ y= .v (.int .i64 b))(hq:0<=a/\a<=b/\b*(m:Int)<=140737488355328/\b<=140737488355328)(hab:a=b)(hv:zs=c v)(hF:∀x,(c x).all (isF 9)=aae) :
  ZT P ρ (.makeSlice t x y) (eL c<|aaY a.toNat v):=by
 subst hab hv;refine .newF ⟨0,w,e,(aaY a.toNat v).map c⟩ (λb=>.hs b 0 w 0 a.toNat) (λo ho G=>?_) λm G hG=>?_
 .rw[List.map_replicate];exact IL q ho hx hy hq
 exact Fz.own (g:=false) (ty:=e) (abG<|aa1 _) (by rw[<- hG];simp[bE]) (by simp) nofun hF
theorem ZT.msZ{α:Type}[Inhabited α]{f:α->List AV}{ag:Bool}{w m:Nat}{a b:Int}(q:SlT P t e ag w [.nil] m)(hx:ρ x= .v (.int .i64 a))(hy:ρ y= .v (.int .i64 b))(hq:0<=a/\a<=b/\b*(m:Int)<=140737488355328/\b<=140737488355328)(hab:a=b) :
  ZT P ρ (.makeSlice t x y) (eL (cL f)<|aaY a.toNat ([]:List α)):=by
 refine .newF ⟨0,w,e,_⟩ (λb=>.hs b 0 w 0 a.toNat) (λo ho G=>IL q ho hx hy hq) λm G hG=>?_;show Fz _ _ _ (.sl (aaY a.toNat []).length _);rw[abu];refine .hs (k:=⟨0,w,e,aaY a.toNat [.nil]⟩) (aa1 _) (by grind) rfl rfl (by simp) (λi r hi hr=>?_) λi r j c d hi hr hc hd=>?_
 .have:=aba hr;rw[abo] at this;rw[this.2]
  rfl
 have:=aba hr;rw[abo] at this;rw[this.2] at hc;have e0:(aaY a.toNat ([]:List α)).getD i aad=[]:=by grind
 rw[e0] at hd
 match j with
 |0=>
  obtain rfl:=osl hc;obtain rfl:=osl hd;exact .nil0
 |j+1=>grind
end
theorem T.reserveN{P:Program}{nt b0:Nat}{Q:Exit->Env->AH->Prop}{e:Env}{code:Code}:∀(n:Nat){H:AH},T P nt b0 code Q e (H++aaY n aah)->T P nt b0 code Q e H
 |0,H,h=>by grind
 |n+1,H,h=>by
  refine T.reserve<|T.reserveN n ?_
  grind
section
variable{P:Program}
def OSQ(bs:List Nat)(K:AH)(r:AV):AV->AH->Prop:=λr0 G=>
 bs.Nodup/\bs.length=K.length/\(∀(j b:Nat),bs[j]?=aag b->∃k,rQ k/\G[b]?=aag (aag k)/\K[j]?=aag (aag k))/\Ren (λi j=>bs[j]?=aag i) r0 r
inductive Lies(G:AH):List Nat->AH->Prop
 |nil:Lies G [] []
 |cons {b:Nat} {k:ABlk} {bs:List Nat} {K:AH} (h:G[b]?=aag (aag k)) (hk:rQ k) (t:Lies G bs K):Lies G (b::bs) (aag k::K)
theorem Lies.spec{G:AH}{bs:List Nat}{K:AH}(h:Lies G bs K):bs.length=K.length/\∀(j b:Nat),bs[j]?=aag b->∃k,rQ k/\G[b]?=aag (aag k)/\K[j]?=aag (aag k):=by
 induction h with
 |nil=>simp_all
 |@cons b k bs K h hk t ih=>
  grind
theorem OSQ.mk{bs:List Nat}{K G:AH}{r r0:AV}(hnd:bs.Nodup)(hl:Lies G bs K)(hr:Ren (λi j=>bs[j]?=aag i) r0 r):OSQ bs K r r0 G:=⟨hnd,hl.spec.1,hl.spec.2,hr⟩
inductive RowsF:AH->Prop
 |nil:RowsF []
 |cons {k:ABlk} {K:AH} (hk:rQ k) (t:RowsF K):RowsF (aag k::K)
theorem RowsF.spec{K:AH}(h:RowsF K):∀(j:Nat)(k:ABlk),K[j]?=aag (aag k)->rQ k:=by
 induction h with
 |nil=>simp_all
 |cons hk t ih=>
  grind
end
def UJ(ops:Array Oper):Nat->Nat->Nat->Bool
 |0,_,_=>aaf
 |n+1,j,i=>match ops[j]? with
  |some oj=>oj.after.any λed=>Region.binds .any ed&&(ed.on==i||UJ ops n ed.on i)
  |none=>aaf
def ClL(ops:Array Oper)(listed:Array Bool):Prop:=∀(j:Nat)(oj:Oper),ops[j]?=aag oj->listed.getD j aaf=aae->∀ed∈oj.after,Region.binds .any ed=aae->listed.getD ed.on aaf=aae
theorem Qg{listed:Array Bool}{i j:Nat}(h:listed.getD i aaf=aae):(listed.setIfInBounds j aae).getD i aaf=aae:=by
 by_cases e:j=i
 .subst e;rcases aa9 j listed.size with h'|h'
  .simp[h']
  grind
 simp_all
theorem ClL.up{ops:Array Oper}{listed:Array Bool}{j:Nat}(h:ClL ops listed)(hj:j∈Region.ready .any ops listed):ClL ops (listed.setIfInBounds j aae):=by
 intro i oi hoi hl ed he hb
 by_cases e:j=i
 .subst e;obtain⟨_,oj,hoj,hall⟩:=mem_ready.1 hj;rw[hoi] at hoj;injection hoj with hoj;subst hoj;exact Qg<|hall ed he hb
 refine Qg<|h i oi hoi ?_ ed he hb
 simp_all
theorem HZ{ops:Array Oper}{listed:Array Bool}{i:Nat}(h:ClL ops listed)(hi:listed.getD i aae=aaf):∀(n j:Nat),(∀oj,ops[j]?=aag oj->∀ed∈oj.after,Region.binds .any ed=aae->listed.getD ed.on aaf=aae)->UJ ops n j i=aaf
 |0,_,_=>rfl
 |n+1,j,hj=>by
  unfold UJ
  split
  .rename_i oj hoj;rw[abM];intro hany;rw[abK] at hany;obtain⟨ed,h1,h2⟩:=hany;simp[bae,abm,beq_iff_eq] at h2;have hl:=hj oj hoj ed h1 h2.1;rcases h2.2 with h3|h3
   .grind
   rw[HZ h hi n ed.on λoj' D9=>h ed.on oj' D9 hl] at h3
   cases h3
  rfl
section
variable{P:Program}
theorem K9{ops:Array Oper}{fp:Nat->Fp}{Q:Env->AH->Prop}{i n:Nat}{oi:Oper}{r:AV}(hi:ops[i]?=aag oi) :
  ∀(fuel:Nat)(listed:Array Bool)(e:Env)(H Hi:AH),ClL ops listed ->
   (∀(j:Nat)(oj:Oper),ops[j]?=aag oj->j≠i->listed.getD j aae=aaf->UJ ops (n+1) j i=aaf->oi.apart ops oj=aae/\rR (fp i) (fp j)=aae) ->
   i∈Region.ready .any ops listed->vg P oi (rho e) H r Hi (fp i).1->((fp i).2=aaf->Hi=H)->SU P ops fp Q fuel (listed.setIfInBounds i aae) (ww e oi.dst r) Hi->SU P ops fp Q (fuel+1) listed e H:=by
 intro fuel
 induction fuel with
 |zero=>
  intro listed e H Hi _ _ hr hy hro hA;refine⟨λh=>(by simp_all),λj hj=>?_⟩
  by_cases hji:j=i
  .grind
  have:=ready_mono hj hji;rw[hA.1] at this
  grind
 |succ fuel ih=>
  intro listed e H Hi hcl hfree hr hy hro hA;refine⟨λh=>(by simp_all),λj hj=>?_⟩
  by_cases hji:j=i
  .grind
  obtain⟨oj,q,Hj,hoj,hsj,hroj,hAj⟩:=hA.2 j<|ready_mono hj hji;obtain⟨hjun,oj',D9,hall⟩:=mem_ready.1 hj;rw[hoj] at D9;injection D9 with D9;subst D9;have hnot:UJ ops (n+1) j i=aaf:=HZ hcl (mem_ready.1 hr).1 (n+1) j λoj' D9=>by
   rw[hoj] at D9;injection D9 with D9;subst D9;exact hall
  obtain⟨hap,hcm⟩:=hfree j oj hoj hji hjun hnot;obtain⟨h1,h2,h3⟩:=Oper.apart_spec hap;have ej:=wB (e:=e) (r:=r) h1;have ei:=wB (e:=e) (oi:=oj) (r:=q) h3;have hsj':=hsj.congr ej;have hfree':∀(k:Nat)(ok:Oper),ops[k]?=aag ok->k≠i->(listed.setIfInBounds j aae).getD k aae=aaf->UJ ops (n+1) k i=aaf->oi.apart ops ok=aae/\rR (fp i) (fp k)=aae:=λk ok hk hki hun hno=>by
   refine hfree k ok hk hki ?_ hno
   by_cases hjk:j=k
   .subst hjk;exact hjun
   rw[getD_set_ne aae hjk] at hun;exact hun
  have fin:∀Hj',vg P oj (rho e) H q Hj' (fp j).1->((fp j).2=aaf->Hj'=H)->vg P oi (rho e) Hj' r Hj (fp i).1->((fp i).2=aaf->Hj=Hj')->∃o r' H',ops[j]?=aag o/\vg P o (rho e) H r' H' (fp j).1/\((fp j).2=aaf->H'=H)/\SU P ops fp Q (fuel+1) (listed.setIfInBounds j aae) (ww e o.dst r') H':=λHj' s1 s1' s2 s2'=>by
   refine⟨oj,q,Hj',hoj,s1,s1',ih (listed.setIfInBounds j aae) (ww e oj.dst q) Hj' Hj (hcl.up hj) hfree' (ready_mono hr<|Ne.symm hji) (s2.congr λx hx=>(ei x hx).symm) s2' ?_⟩;rw[abH _ _ hji,Bu (λd hd=>λhd'=>h2 d (by simpa using hd')<|by simpa using hd)];exact hAj
  simp only[rR,abm,bae,abI,aaZ,aby,decide_eq_false_iff_not] at hcm;rcases hcm with hdis|⟨w1,w2⟩
  .have hag:agree (fp j).1 H Hi:=⟨hy.1.symm,λb hb=>(hy.2.1 b λhbi=>hdis b hbi hb).symm⟩;obtain⟨Hj',a1,a2,a3,a4⟩:=hsj'.at_ hag;have hag2:agree (fp i).1 Hj' H:=⟨a1,λb hb=>a3 b<|hdis b hb⟩;obtain⟨K,b1,b2,b3,b4⟩:=hy.at_ hag2;have hKH:K=Hj:=by
    apply aa4;intro b
    by_cases hbi:b∈(fp i).1
    .rw[b2 b hbi,hsj'.2.1 b (hdis b hbi)]
    rw[b3 b hbi]
    by_cases hbj:b∈(fp j).1
    .exact a2 b hbj
    rw[a3 b hbj,hsj'.2.1 b hbj,hy.2.1 b hbi]
   subst hKH;refine fin Hj' a4 (λhw=>?_) b4 λhw=>?_
   .apply aa4;intro b
    by_cases hbj:b∈(fp j).1
    .rw[a2 b hbj,hroj hw,hy.2.1 b (λhbi=>hdis b hbi hbj)]
    exact a3 b hbj
   apply aa4
   grind
  grind
def Yr(ops:Array Oper)(fp:Nat->Fp):Bool:=
 Region.lexB .any ops&&ops.all (λo=>o.guard.isNone) &&
 (aa0 ops.size).all λi=>(aa0 ops.size).all λj=>aai (j<=i)||rR (fp i) (fp j)||UJ ops 6 j i
theorem MH{ops:Array Oper}{fp:Nat->Fp}{Q:Env->AH->Prop}(hc:Yr ops fp=aae):∀(l:List Oper)(k:Nat)(listed:Array Bool)(e:Env)(H:AH),ClL ops listed->(∀j,l[j]?=ops[k+j]?)->listed.size=ops.size->(∀j,j<k->listed.getD j aae=aae) ->
  Region.lexFrom .any ops l.length k listed=aae->TF P fp k l Q e H->SU P ops fp Q l.length listed e H
 |[],k,listed,e,H,_,_,_,_,hB,h=>⟨by simpa [Region.lexFrom] using hB,h⟩
 |o::l,k,listed,e,H,hcl,hl,hsz,hbef,hB,h=>by
  have h0:=by simpa using (hl 0).symm
  simp[llc,Region.lexFrom,bae] at hB;obtain⟨⟨hr,hf⟩,hB'⟩:=hB;obtain⟨r,H',hs,hro,hK⟩:=h;have hrk:=by simpa using hr
  refine K9 (n:=5) h0 l.length listed e H H' hcl (λj oj hj hne hun hno=>?_) hrk hs hro
   (MH hc l (k+1) _ _ _ (hcl.up hrk) (λj=>by have:=hl<|j+1;grind) (by grind) (λj hj=>?_) hB' hK)
  .have hno1:∀ed∈oj.after,Region.binds .any ed=aae->ed.on≠k:=λed he hb heq=>by
    unfold UJ at hno;simp only[hj] at hno;rw[abM] at hno;refine hno ?_;rw[abK]
    grind
   refine⟨Region.free_spec h0 hf j oj hj hne hun hno1,?_⟩;simp[Yr,bae,aaZ,abJ] at hc
   grind
  by_cases e:j=k
  .simp_all
  rw[getD_set_ne aae (Ne.symm e)]
  grind
variable{nt b0:Nat}{Q:Exit->Env->AH->Prop}{e:Env}{H:AH}
theorem T.drawH{i:Nat}{ops:Array Oper}(fp:Nat->Fp)(hm:P.follows .mixedOrders=aae)(hc:Yr ops fp=aae)(h:TF P fp 0 ops.toList (Q .normal) e H):T P nt b0 (.region i ops aae) Q e H:=by
 intro hok c c0 a hH hb hx hs;have hc':=hc;simp only[Yr,bae,Region.lexB] at hc';refine wp_region_any hm ?_;have hlex:=MH hc ops.toList 0 (abd ops.size aaf) e H (λj oj hj hl=>by
  rcases aa9 j ops.size with h'|h'
  .simp_all
  simp_all) (λj=>by simp) (by simp) (by grind) (by grind) h
 have:=CL hok hc'.1.2 ops.toList.length _ e H hlex c.drew c0 a hH (hx.trans c.drew_ext) ⟨hs.size,hs.defers,λt=>(hs.rel t).ext hs.heap c.drew_ext,Cx.drew_rel hs.heap⟩;exact this
end
section
variable{P:Program}{ρ:Operand->AV}{H H':AH}
structure MethT(P:Program)(t:TypeId)(name:String)(g:FuncId)(off:Nat):Prop where
 ex:∃i m e,P.info? t=aag i/\i.methods.find? (·.name==name)=aag m/\m.func=aag (g,aae)/\P.underlying t=aag (.pointer e) /\
  ((m.path.toList=[]/\off=0)\/∃s k fs fl u,m.path.toList=[⟨s,k,aae⟩]/\P.underlying s=aag (.struct fs)/\fs[k]?=aag fl/\P.cellsOf fl.type≠0/\(P.info? fl.type).isSome=aae/\fl.offset=off/\P.underlying fl.type=aag u/\(∀e,u ≠ .pointer e))
def Xd(P:Program)(t:TypeId)(name:String)(g:FuncId)(off:Nat):Bool:=
 match P.info? t,P.underlying t with
 |some i,aag (.pointer _)=>(match i.methods.find? (·.name==name) with
  |some m=>m.func==aag (g,aae)&&(match m.path.toList with
   |[]=>off==0
   |[⟨s,k,aae⟩]=>(match P.underlying s with
    |some (.struct fs)=>(match fs[k]? with
     |some fl=>P.cellsOf fl.type != 0&&(P.info? fl.type).isSome&&fl.offset==off&&(match P.underlying fl.type with
      |some (.pointer _)|none=>aaf
      |some _=>aae)
     |none=>aaf)
    |_=>aaf)
   |_=>aaf)
  |none=>aaf)
 |_,_=>aaf
theorem MethT.of{t:TypeId}{name:String}{g off:Nat}(h:Xd P t name g off=aae):MethT P t name g off:=by
 unfold Xd at h
 split at h
 .rename_i i e hi hu
  split at h
  .rename_i m hm
   simp_all
   obtain⟨hf,h⟩:=h;refine⟨i,m,e,hi,hm,hf,hu,?_⟩
   grind
  cases h
 grind
def ZO(off:Nat):AV->AV
 | .fp row j=>.fp row (j+off)
 | .hp b v s i j=>.hp b v s i (j+off)
 |a=>a
theorem N7{t:TypeId}{name:String}{g off:Nat}(hm:MethT P t name g off)(w:World)(n:Nat){g0:Nat}{o0:Nat}(v:Value)(hv:v= .pointer (aag ⟨g0,o0,aah⟩)):(method (n+1) t v name).run P w= .ok (g,.pointer<|aag ⟨g0,o0+off,aah⟩) w:=by
 obtain⟨i,m,e,hi,hf,hg,hu,hp⟩:=hm.ex;have e1:=run_typeInfo w hi;rcases hp with⟨hp,rfl⟩|⟨s,k,fs,fl,u,hp,hs,hk,hc,_,rfl,hfu,hne⟩
 .simp[method,Sem.run_bind,e1,Result.andThen_ok,hf,hp,follow,Sem.run_pure,hg,receiverAt,ay hu,Place.get,hv,abx]
 obtain⟨i2,hi2⟩:=Bn hc
 have e2 : (receiverAt fl.type (.var ⟨g0,o0 + fl.offset,none⟩) true (if m.path.isEmpty then some ((name.splitOn ".").getLastD name) else none)).run P w= .ok (.pointer (some ⟨g0,o0 + fl.offset,none⟩)) w:=by
  unfold receiverAt;simp only[Sem.run_bind,ay hfu,Result.andThen_ok]
  simp_all
 simp only[method,Sem.run_bind,e1,Result.andThen_ok,hf,hp,follow,Sem.run_pure,hg,ay hs,hk,Place.get,hv,asAddr,fieldPlace,run_sizeOf w hi2,hc,if_false,if_true,add0,e2]
theorem G6{t:TypeId}{name:String}{g off:Nat}(hm:MethT P t name g off)(hcl:lT P g=aae)(w:World){g0 o0:Nat}(args:Array Value) :
  (callMethod (.iface t<|.pointer<|aag ⟨g0,o0,aah⟩) name args).run P w= .ok (.enter g<|#[.pointer (aag ⟨g0,o0+off,aah⟩)]++args) w:=by
 have h0:0<Made.depth:=by decide
 obtain⟨n,hn⟩:∃n,P.types.size+Made.depth=n+1:=⟨P.types.size+Made.depth-1,rfl⟩;have h1:=N7 hm w n (g0:=g0) (o0:=o0) _ rfl;have h2:=yO hcl (#[.pointer (aag ⟨g0,o0+off,aah⟩)]++args) w;have hp:(program).run P w= .ok P w:=rfl;simp[callMethod,Sem.run_bind,hp,Result.andThen_ok,hn,h1];exact h2
theorem N8{o:Oper}{cl:Call}{x:Operand}{name:String}{t:TypeId}{row:List AV}{j:Nat}{g:FuncId}{off:Nat}{r:AV}(ho:o.op= .call cl)(hc:cl.callee= .invoke x name)(hx:ρ x= .ifc t (.fp row j))(hm:MethT P t name g off)
  (h:eZ P g (.fp row (j+off)::cl.args.toList.map ρ) H r H'):ZP P o ρ H r H':=by
 intro c a K Q hH hr hxs hK;have hf1:=hx ▸ hxs x (by rw[ho];simp[Op.operands,Call.operands,hc]);obtain⟨y,he,hrel⟩:=CF hf1;have hfp:=xI hrel;have key:∃g0 o0,y= .pointer (aag ⟨g0,o0,aah⟩)/\c.rel (.fp row<|j+off) (.pointer<|aag ⟨g0,o0+off,aah⟩):=by
  cases hfp with
  |fp us hg hlt hu h1 h=>
   refine⟨_,_,rfl,?_⟩;rw[abl];exact .fr<|.fp us hg hlt hu h1 h
 obtain⟨g0,o0,hy,hrec⟩:=key;have hargs:JH c (.fp row (j+off)::cl.args.toList.map ρ) (#[.pointer (aag ⟨g0,o0+off,aah⟩)]++cl.args.map a.eval):=by
  refine⟨by simp;omega,λi q v hq hv=>?_⟩
  match i with
  |0=>
   grind
  |i+1=>
   simp only[List.getElem?_cons_succ,abF,aa8] at hq;have e:(#[Value.pointer (aag ⟨g0,o0+off,aah⟩)]++cl.args.map a.eval)[i+1]?=(cl.args.map a.eval)[i]?:=by grind
   rw[e,abR] at hv
   cases ha:cl.args[i]? with
   |none=>grind
   |some z=>
    rw[ha] at hq hv;injection hq with hq;injection hv with hv;subst hq hv;refine hxs z ?_;rw[ho];have hz:=abg ha;simp[Op.operands,Call.operands,hz]
 have hrun:(execOp a.eval o).run P c.w= .ok (.enter g<|#[.pointer (aag ⟨g0,o0+off,aah⟩)]++cl.args.map a.eval) c.w:=by
  have h3:=G6 hm h.1 c.w (g0:=g0) (o0:=o0)<|cl.args.map a.eval;rw[execOp,ho];simp only[resolve,hc,he,hy,Sem.run_bind,Sem.run_pure,Result.andThen_ok,invoke];have e1:((#[Value.iface t (.pointer<|aag ⟨g0,o0,aah⟩)]++cl.args.map a.eval)[0]?)=aag (Value.iface t<|.pointer<|aag ⟨g0,o0,aah⟩):=by grind
  have e2:(#[Value.iface t (.pointer<|aag ⟨g0,o0,aah⟩)]++cl.args.map a.eval).extract 1 (#[Value.iface t (.pointer<|aag ⟨g0,o0,aah⟩)]++cl.args.map a.eval).size=cl.args.map a.eval:=by
   simp_all
  grind
 unfold Oper.wp;rw[hrun];refine(h.2 c _ hH hr hargs).mono λe w' ⟨v,c',he,hw,hH',hr',hx,hv⟩=>?_
 grind
theorem ZT.inv{cl:Call}{x:Operand}{name:String}{t:TypeId}{row:List AV}{j:Nat}{g:FuncId}{off:Nat}{ars:List AV}{r:AV}(hc:cl.callee= .invoke x name)(hx:ρ x= .ifc t (.fp row j))(hm:MethT P t name g off)(ha:cl.args.toList.map ρ=ars)
  (h:aF P g (.fp row (j+off)::ars) r) (hF:ars.all (isF 9)=aae):ZT P ρ (.call cl) r:=λo ho G=>by
 subst ha;refine N8 ho hc hx hm<|h.acall ?_ G
 simp_all
 rfl
end
structure A3(α:Type) where
 x0:α
 x1:α
 x2:α
section
variable{α:Type}
instance[Inhabited α]:Inhabited (A3 α):=⟨⟨aad,aad,aad⟩⟩
def A3.get(a:A3 α)(q:Int):α:=if q=0 then a.x0 else if q=1 then a.x1 else a.x2
def A3.set(a:A3 α)(q:Int)(v:α):A3 α:=if q=0 then ⟨v,a.x1,a.x2⟩ else if q=1 then ⟨a.x0,v,a.x2⟩ else ⟨a.x0,a.x1,v⟩
theorem Zb{P:Int->Prop}{q:Int}(g:0<=q/\q<3)(h0:P 0)(h1:P 1)(h2:P 2):P q:=by grind
end
section
variable{P:Program}{ρ:Operand->AV}{H H':AH}{x y:Operand}{t e:TypeId}
theorem ZT.ixafp{ag:Bool}{n w:Nat}{row:List AV}{j:Nat}{k:IntKind}{q:Int}(hu:P.underlying t=aag (.array n e))(ty:TyF P e ag w)(hx:ρ x= .fp row j)(hy:ρ y= .v (.int k q))(hq:0<=q/\q<n):ZT P ρ (.indexAddr t x y) (.fp row<|j+q.toNat*w):=.mk λK hK=>by
 show iK P t (ρ x) (ρ y) K;simp[iK,hu,hx,hy,ty.cells];exact⟨hq,Ck.intro ty.info hK⟩
theorem ZT.ixahp{ag:Bool}{n w:Nat}{b ver s i j:Nat}{k:IntKind}{q:Int}(hu:P.underlying t=aag (.array n e))(ty:TyF P e ag w)(hx:ρ x= .hp b ver s i j)(hy:ρ y= .v (.int k q))(hq:0<=q/\q<n):ZT P ρ (.indexAddr t x y) (.hp b ver s i<|j+q.toNat*w):=.mk λK hK=>by
 show iK P t (ρ x) (ρ y) K;simp[iK,hu,hx,hy,ty.cells];exact⟨hq,Ck.intro ty.info hK⟩
theorem ZT.ixag{ag:Bool}{n w:Nat}{cs:List AV}{k:IntKind}{q:Int}(a:AV)(hu:P.underlying t=aag (.array n e))(ty:TyF P e ag w)(hx:ρ x= .agg cs)(hy:ρ y= .v (.int k q))(hq:0<=q/\q<n)(hp:wC ag w cs (q.toNat*w)=aag a):ZT P ρ (.index t x y) a:=.mk λK hK=>by
 show FC P t (ρ x) (ρ y) K;simp[FC,hu,hx,hy,ty.cells];exact⟨hq,Ck.intro ty.info<|BB ty hp hK⟩
theorem ZT.mkifc{u:TypeDesc}(a:AV)(hu:P.underlying t=aag u)(hn:∀m,u ≠ .interface m)(hx:ρ x=a):ZT P ρ (.makeInterface t x) (.ifc t a):=.mk λK hK=>by
 show Bc P ρ (.makeInterface t x) K;simp[Bc,hu,hx]
 cases u <;> first|grind|(rw[AV.force_iff];exact hK)
end
def up(m:Nat)(gh:NG):NG:=λi=>((gh i).1,(gh i).2.1+m,(gh i).2.2)
section
variable{α:Type}
def nrs(m:Nat)(gh:NG)(w:Nat)(l:List<|List α):List (List AV):=pO (up m gh) w l
structure NN(K:AH)(gh:NG)(w:Nat)(ty:TypeId)(f:α->List AV)(l:List (List α)):Prop where
 nk:NK 0 K gh w ty f l
 kf:KF K
variable{K:AH}{gh:NG}{w:Nat}{ty:TypeId}{f:α->List AV}{l:List (List α)}
theorem NN.at_(h:NN K gh w ty f l){i:Nat}(hi:i<l.length):K[(gh i).2.1]?=aag (bE (gh i).1 (gh i).2.2 w ty<|(l.getD i []).map f):=(h.nk.at_ i hi).2
theorem NN.lt(h:NN K gh w ty f l){i:Nat}(hi:i<l.length):(gh i).2.1<K.length:=(ges<|h.at_ hi).1
theorem NN.nil_(h:NN K gh w ty f l){i:Nat}(hi:i<l.length):(gh i).1=aae->l.getD i []=[]:=h.nk.nil_ i hi
theorem KF.set{k:Nat}{x:Option ABlk}(h:KF K)(hx:∀b,x=aag b->rQ b):KF (K.set k x):=λi b hb=>by
 by_cases e:k=i
 .grind
 rw[aa2 e] at hb;exact h i b hb
theorem KF.cons{x:Option ABlk}(h:KF K)(hx:∀b,x=aag b->rQ b):KF (x::K):=λi b hb=>by
 match i,hb with
 |0,hb=>grind
 |i+1,hb=>exact h i b hb
theorem Tq{g:Bool}{v:Nat}{l:List α}(hf:∀x,(f x).all (isF 9)=aae):∀b,bE g v w ty (l.map f)=aag b->rQ b:=λb hb=>by
 cases g with
 |true=>cases hb
 |false=>
  obtain rfl:=osl hb;exact λr hr a ha=>nA hf r hr a ha
theorem NN.set(h:NN K gh w ty f l){i:Nat}(hi:i<l.length){g:Bool}{ver:Nat}{r:List α}(hg:g=aae->r=[])(hf:∀x,(f x).all (isF 9)=aae):NN (K.set (gh i).2.1<|bE g ver w ty<|r.map f) (gh.put i (g,(gh i).2.1,ver)) w ty f (l.set i r):=
 ⟨h.nk.set hi hg,h.kf.set<|Tq hf⟩
theorem NN.nil:NN ([]:AH) gh w ty f []:=⟨⟨by grind,by grind,by grind⟩,λi k hk=>by grind⟩
theorem NN.fz[Inhabited α](h:NN K gh w ty f l)(S:AH){b ver n:Nat}{to:TypeId}(hb:(S++K)[b]?=aag (bE aaf ver 1 to<|nrs S.length gh w l))(hn:n=l.length)(hf:∀x,(f x).all (isF 9)=aae):Fz 0 (S++K) (hS aaf b ver 1 n) (eL (cL f) l):=by
 have hk:NK 0 (S++K) (up S.length gh) w ty f l:=⟨λi hi=>⟨abf _,by
  show(S++K)[(gh i).2.1+S.length]?=_;rw[gar (by omega),Nat.add_sub_cancel];exact h.at_ hi⟩,λi hi=>h.nil_ hi,λi j hi hj hne he=>h.nk.sep i j hi hj hne (by simpa [up] using he)⟩
 exact hk.fz hb hn hf
end
def Rot(m N:Nat)(i j:Nat):Prop:=(i<m/\j=i)\/(m<=i/\i<N+m/\j=i+1)\/(i=N+m/\j=m)
theorem Rot.up{m N k:Nat}(h:k<N):Rot m N (k+m) (k+(m+1)):=.inr (by grind)
theorem Rot.new{m N:Nat}:Rot m N (N+m) m:=.inr<|.inr ⟨rfl,rfl⟩
inductive RenHL(S:Nat->Nat->Prop):AH->AH->Prop
 |nil:RenHL S [] []
 |none {l l':AH} (t:RenHL S l l'):RenHL S (aah::l) (aah::l')
 |some {k k':ABlk} {l l':AH} (h:RenK S k k') (t:RenHL S l l'):RenHL S (aag k::l) (aag k'::l')
theorem RenHL.bE{S:Nat->Nat->Prop}{α:Type}{g:Bool}{v w:Nat}{ty:TypeId}{f:α->List AV}{x:List α}{l l':AH}(hf:∀x,(f x).all (isF 9)=aae)(t:RenHL S l l'):RenHL S (bE g v w ty (x.map f)::l) (Go.Proofs.YtoagamanbofngaaGreatDoor.bE g v w ty (x.map f)::l'):=by
 cases g with
 |true=>exact .none t
 |false=>exact .some (.ofF λr hr a ha=>nA hf r hr a ha) t
theorem RenHL.spec{S:Nat->Nat->Prop}{l l':AH}(h:RenHL S l l'):l.length=l'.length/\(∀(i:Nat)(k:ABlk),l[i]?=Option.some (Option.some k)->∃k',l'[i]?=Option.some (Option.some k')/\RenK S k k')/\∀(i:Nat)(k':ABlk),l'[i]?=Option.some (Option.some k')->∃k,l[i]?=Option.some (Option.some k)/\RenK S k k':=by
 induction h with
 |nil=>simp_all
 |none t ih=>
  grind
 |some h t ih=>
  grind
theorem kz{S:Nat->Nat->Prop}{g:Bool}{i j v w n:Nat}(h:S i j):Ren S (hS g i v w n) (hS g j v w n):=by
 cases g with
 |true=>exact .nil
 |false=>exact .hs h
theorem N9{c:Cx}{row row2:List AV}{j n:Nat}{v:Value}(hs:(row.drop j).take n=row2)(h:c.rel (.fp row j) v):c.rel (.fp row2 0) v:=by
 have h:=xI h
 cases h with
 |@fp _ _ g o us hg hlt hu h1 hr=>
  subst hs;have key:∀(q:Nat)(a:AV),((row.drop j).take n)[q]?=aag a->row[j+q]?=aag a:=λq a hq=>by
   grind
  exact .fr<|.fp (g:=g) (o:=o+j) (j:=0) (λq=>us<|j+q) hg hlt (λq a hq=>by grind) (λq a hq=>h1 _ _<|key q a hq) λq a hq=>hr _ _<|key q a hq
section
variable{P:Program}{ρ:Operand->AV}{H H':AH}{x y:Operand}{t e:TypeId}
theorem ZT.fafpS(n:Nat){fs:Array Field}{f:Nat}{fl:Field}{row row2:List AV}{j:Nat}(hu:P.underlying t=aag (.struct fs))(hf:fs[f]?=aag fl)(hc:(P.cellsOf fl.type != 0)=aae)(hx:ρ x= .fp row j)(hs:(row.drop<|j+fl.offset).take n=row2):ZT P ρ (.fieldAddr t x f) (.fp row2 0):=
 (ZT.fafp hu hf hc hx).res λ_ _ h=>N9 hs h
variable{nt b0:Nat}{Q:Exit->Env->AH->Prop}{en:Env}{ops:Array Oper}
end
inductive RenRows(S:Nat->Nat->Prop):List (List AV)->List (List AV)->Prop
 |nil:RenRows S [] []
 |cons {a b:List AV} {l k:List (List AV)} (h:RenL S a b) (t:RenRows S l k):RenRows S (a::l) (b::k)
theorem RenRows.spec{S:Nat->Nat->Prop}{l k:List (List AV)}(h:RenRows S l k):l.length=k.length/\∀(i:Nat)(c d:List AV),l[i]?=aag c->k[i]?=aag d->RenL S c d:=by
 induction h with
 |nil=>simp_all
 |cons h t ih=>
  grind
theorem RenK.rowsL{S:Nat->Nat->Prop}{v s:Nat}{ty:TypeId}{r r':List (List AV)}(h:RenRows S r r'):RenK S ⟨v,s,ty,r⟩ ⟨v,s,ty,r'⟩:=
 ⟨rfl,rfl,rfl,h.spec.1,λi a b ha hb=>(h.spec.2 i a b ha hb).spec⟩
theorem RenK.rowL{S:Nat->Nat->Prop}{v s:Nat}{ty:TypeId}{r r':List AV}(h:RenL S r r'):RenK S ⟨v,s,ty,[r]⟩ ⟨v,s,ty,[r']⟩:=.rowsL<|.cons h .nil
section
variable{α:Type}{K:AH}{gh:NG}{w:Nat}{ty:TypeId}{f:α->List AV}{l:List (List α)}
def Tk(a:Nat)(i j:Nat):Prop:=(i<=a/\j=i)\/(a+2<=i/\j+1=i)
theorem Tk.up{a k:Nat}:Tk a (k+(a+2)) (k+1+a):=.inr ⟨by omega,by omega⟩
theorem Reid.take{b0 a:Nat}{S S' K:AH}{x2 x2' x3:Option ABlk}(hm:S.length=a)(hb:aaW b0 a=aae)(hS:RenHL (Tk a) S S')(hK:KF K)(hx:RenHL (Tk a) [x2] [x2']):Reid b0 (Tk a) (S++x2::x3::K) (S'++x2'::K):=by
 have hb:=nlb hb;obtain⟨h1,h2,h3⟩:=hS.spec;obtain⟨_,h5,h6⟩:=hx.spec;have hm':S'.length=a:=h1.symm.trans hm;have a1:∀i,i<a->(S++x2::x3::K)[i]?=S[i]?:=λi hi=>gal (by omega);have a2:(S++x2::x3::K)[a]?=aag x2:=by
  rw[gar (by omega)];have : a-S.length=0:=by omega
  rw[this]
  rfl
 have a3:∀k,(S++x2::x3::K)[k+a+2]?=K[k]?:=λk=>by
  grind
 have c1:∀i,i<a->(S'++x2'::K)[i]?=S'[i]?:=λi hi=>gal (by omega);have c2:(S'++x2'::K)[a]?=aag x2':=by
  rw[gar (by omega)];have : a-S'.length=0:=by omega
  rw[this]
  rfl
 have c3:∀k,(S'++x2'::K)[k+a+1]?=K[k]?:=λk=>by
  grind
 refine⟨λi j j' e1 e2=>?_,λi i' j e1 e2=>?_,λi hi=>.inl ⟨by omega,rfl⟩,by grind,λj k0 hk=>?_,λi j k hS hk=>?_⟩
 .rcases e1 with⟨_,rfl⟩|⟨_,e1⟩ <;> rcases e2 with⟨_,rfl⟩|⟨_,e2⟩ <;> omega
 .rcases e1 with⟨_,e1⟩|⟨_,e1⟩ <;> rcases e2 with⟨_,e2⟩|⟨_,e2⟩ <;> omega
 .rcases Nat.lt_trichotomy j a with hj|hj|hj
  .rw[c1 j hj] at hk;obtain⟨k,g1,g2⟩:=h3 j k0 hk;exact⟨j,k,.inl ⟨by omega,rfl⟩,by simp_all,g2⟩
  .subst hj;rw[c2] at hk;obtain rfl:=osl hk;obtain⟨k,g1,g2⟩:=h6 0 k0 rfl;obtain rfl:=osl g1;exact⟨_,k,.inl ⟨by omega,rfl⟩,a2,g2⟩
  obtain⟨q,rfl⟩:∃q,j=q+a+1:=⟨j-a-1,by omega⟩;rw[c3 q] at hk;exact⟨q+a+2,k0,.inr ⟨by omega,by omega⟩,by simp_all,.ofF<|hK q k0 hk⟩
 rcases hS with⟨e1,rfl⟩|⟨e1,e2⟩
 .rcases aa9 j a with hj|hj
  .grind
  obtain rfl:j=a:=by omega
  rw[a2] at hk;obtain rfl:=osl hk;obtain⟨k',g1,_⟩:=h5 0 k rfl
  simp_all
 obtain⟨q,rfl⟩:∃q,i=q+a+2:=⟨i-a-2,by omega⟩
 simp_all
end
section
variable{P:Program}{H:AH}{s:Nat}
def WO(P:Program)(H:AH)(s:Nat)(a:AV)(news:List<|List AV):Prop:=∀(c:Cx)(u:Value),c.H=H->HRel c->c.rel a u ->
 (∀w,(Builtin.lenOf u).run P w= .ok news.length w)/\(∀(i:Nat)(row:List AV),news[i]?=aag row->row.length=s) /\
 ∀n,n<=news.length->∃vs:List Value,(∀w,w.heap=c.w.heap->(Builtin.firstCells s n u).run P w= .ok vs.toArray w)/\HA c s (news.take n) vs
theorem WO.of{a:AV}{news:List (List AV)}(len:Nat)(hl:news.length=len)(h:∀(c:Cx)(u:Value),c.H=H->HRel c->c.rel a u->∃A cap,u= .slice A len cap/\∀n,n<=len->∃vs,SrcIs P c s (.slice A n cap) (news.take n) vs):WO P H s a news:=λc u hH hr hu=>by
 obtain⟨A,cap,rfl,h1⟩:=h c u hH hr hu;refine⟨λw=>by rw[hl];simp[Builtin.lenOf],λi row hi=>?_,λn hn=>?_⟩
 .obtain⟨vs,h2⟩:=h1 len<|aa1 _;refine h2.rows i row ?_
  grind
 obtain⟨vs,h2⟩:=h1 n (by omega);refine⟨vs,λw hw=>?_,h2.is⟩;have h3:=h2.cells w hw;rw[abj,abN hn] at h3;rw[<- h3]
 cases A <;> rfl
theorem WO.own{b ver off len:Nat}{k:ABlk}(hk:H[b]?=aag (aag k))(hv:k.ver=ver)(hs:k.s=s)(hn:off+len<=k.rows.length):WO P H s (.hs b ver s off len) ((k.rows.drop off).take len):=
 .of len (by grind) λc u hH hr hu=>by
  cases hu with
  |fr h=>cases h
  |@hs _ _ _ _ _ cap A hb hc hm h0 hx=>
   refine⟨A,cap,rfl,λn hn'=>?_⟩;rw[List.take_take,abN hn'];exact bH.own hk hv hs (by omega) rfl c _ hH hr<|.hs hb (by omega) hm h0 λx hx'=>⟨(hx x hx').1,by grind,(hx x hx').2.2.1,(hx x hx').2.2.2⟩
theorem WO.fz{α:Type}[Inhabited α]{f:α->List AV}{l:List α}(hf:∀x,(f x).length=s):WO P H s (eL f l) (l.map f):=
 .of l.length (by simp) λc u hH hr hu=>by
  have h:=xH hu
  cases h with
  |@sl _ cap sz g o _ a us hc hm ha hs hu2 h1 h=>
   refine⟨a,cap,rfl,λn hn=>?_⟩;have e:(l.map f).take n=(aa0 n).map λi=>f (l.getD i aad):=by
    rw[<- List.map_take,<- Aj f (l.take n),abj,abN hn];apply List.map_congr_left;intro i hi;have hi':i<n:=by simpa using hi
    simp[abk,hi']
   rw[e];refine bH.sl (H:=c.H) (n:=n) (row:=λi=>f<|l.getD i aad) (λi _=>hf _) c _ rfl hr<|.fr<|.sl (s:=sz) (g:=g) (o:=o) us (by omega) hm (λh0=>ha<|by omega) (λi hi=>hs i<|by omega) (λi j a hi=>hu2 i j a<|by omega) (λi j a hi=>h1 i j a<|by omega) λi j a hi=>h i j a (by omega)
variable{o:Oper}{ρ:Operand->AV}
variable{α:Type}{c:α->List AV}{l k:List α}{x y:Operand}{t u e:TypeId}{ag:Bool}{w m b ver off len:Nat}{zs:List AV}
def cpy(l:List α)(off:Nat)(k:List α)(len:Nat):List α:=if off+len<=l.length then l.take off++k.take (min k.length len)++l.drop (off+min k.length len) else l
theorem CM(l:List α)(off:Nat)(k:List α)(len:Nat):(cpy l off k len).length=l.length:=by
 unfold cpy
 grind
theorem Qh{lo hi:Int}{n:Nat}(h:0<=lo/\lo<=hi/\hi<=(n:Int))(hn:n=l.length):(0+lo.toNat)+(hi.toNat-lo.toNat)<=l.length:=by omega
end
section
variable{P:Program}{K V:Type}[DecidableEq K]{kn vn:Nat}{kc:K->List Value}{cv:V->List AV}{keyT t e:TypeId}{l:List (K×V)}{ρ:Operand->AV}{H:AH}{x y z:Operand}{b:Nat}
theorem EvA.look(q:KeyA P keyT kn kc)(hv:∀v,(cv v).length=vn)(d:V){zv:Value}{ok:Bool}(ht:P.underlying t=aag (.map keyT e))(hz:∀w,(zeroValue e).run P w= .ok zv w)(hzr:∀c:Cx,c.rel (mkA<|cv d) zv)(k:K)
 (hx:ρ x= .mp b (kn+vn)) (hy:ρ y=mkA ((kc k).map AV.v)) (hb:H[b]?=aag (aag<|mB kn vn kc cv l)) :
 EvA P ρ (.lookup t x y ok) H (bif ok then .tup [mkA (cv<|(SS l k).getD d),.v (.bool (SS l k).isSome)] else mkA (cv<|(SS l k).getD d)) H:=λ_ ho=>NW q hv d ho ht hz hzr k hx hy hb
end
section
variable{K V:Type}{kn vn:Nat}{kc:K->List Value}{cv:V->List AV}{l:List (K×V)}{H:AH}
theorem StayB.mp{m:Nat}(hv:∀v,(cv v).all (isF 9)=aae):StayB m H (aag<|mB kn vn kc cv l) (aag<|mB kn vn kc cv l):=.keep λr hr a ha=>by
 obtain⟨p,_,rfl⟩:=abe.1 hr;rcases List.mem_append.1 ha with ha|ha
 .obtain⟨x,_,rfl⟩:=abe.1 ha
  rfl
 exact CJ 9 m a<|aaZ.1 (hv p.2) a ha
end

theorem Cx.trim{c:Cx}{b ver s off n:Nat}{ty:TypeId}{rows:List (List AV)}(hr:HRel c)(hb:c.H[b]?=aag (aag ⟨ver,s,ty,rows⟩))(hle:off+n<=rows.length){v:Value}(hv:c.rel (.hs b ver s off n) v) :
  ∃c':Cx,c'.w=c.w/\c'.H=c.H.set b (aag ⟨ver+1,s,ty,(rows.drop off).take n⟩)/\HRel c'/\Ext c c'/\c'.rel (.hs b (ver+1) s 0 n) v:=by
 have hlv:c.live b ⟨ver,s,ty,rows⟩:=hb;have hblt:b<c.H.length:=(ges hb).1;obtain⟨cs,fr,hB⟩:=hr.blk b _ hlv
 cases hv with
 |fr h=>cases h
 |@hs _ _ _ _ _ cap A hbn hc hm h0 hh=>
  obtain⟨fr,rfl,hat,hd⟩:=hB.cells hlv λx hx=>(hh x hx).1;obtain⟨_,hn,hA,hcap⟩:=hh _ hd;let c':Cx:={ w:=c.w,fz:=c.fz,H:=c.H.set b (aag ⟨ver+1,s,ty,(rows.drop off).take n⟩),φ:=λj=>if j=b then ((c.φ b).1,(c.φ b).2+off*s) else c.φ j };have φb:c'.φ b=((c.φ b).1,(c.φ b).2+off*s):=if_pos rfl;have φo:∀{j},j≠b->c'.φ j=c.φ j:=λ{j}hj=>if_neg hj;have φ1:∀j,(c'.φ j).1=(c.φ j).1:=λj=>by
   grind
  have Hb:c'.H[b]?=aag (aag ⟨ver+1,s,ty,(rows.drop off).take n⟩):=by
   show(c.H.set b _)[b]?=_
   simp_all
  have Ho:∀{j},j≠b->c'.H[j]?=c.H[j]?:=λ{j}hj=>by
   grind
  have lv:∀{j k},c'.live j k->(j=b/\k=⟨ver+1,s,ty,(rows.drop off).take n⟩)\/(j≠b/\c.live j k):=λ{j k}hl=>by
   by_cases hj:j=b
   .subst hj;have hl':c'.H[j]?=aag (aag k):=hl
    simp_all
   have hl':c'.H[j]?=aag (aag k):=hl;rw[Ho hj] at hl';exact .inr ⟨hj,hl'⟩
  have hx:Ext c c':=by
   refine⟨rfl,rfl,rfl,aa1 _,λ_ _ _=>rfl,λ_ h=>h,λ_ h=>.inl h,by grind,λj q hj=>?_,λj q x hj hx=>?_,λj k hl=>.inr ?_⟩
   .by_cases e:j=b
    .subst e;unfold Cx.born at hj ⊢
     grind
    unfold Cx.born at hj ⊢
    simp_all
   .by_cases e:j=b
    .subst e;unfold Cx.born at hj;rw[hb] at hj;unfold Cx.hd at hx
     grind
    unfold Cx.hd at hx ⊢
    grind
   grind
  have hlen:((rows.drop off).take n).length=n:=by rw[abj,abO];omega
  have hfit:=hB.fits;simp only at hfit;refine⟨c',rfl,rfl,⟨hr.lt,λj k hl=>?_,λj j' k k' hl hl' hne=>?_,hr.glx hx⟩,hx,?_⟩
  .rcases lv hl with⟨rfl,rfl⟩|⟨hj,h⟩
   .refine⟨cs,aag fr,⟨?_,?_,hB.pos,hB.free,?_,λi r hi=>?_,λi r q a hi ha=>?_⟩⟩
    .show c.w.heap[(c'.φ j).1]?=_;rw[φ1,hat]
     rfl
    .rw[φ1];exact hB.nf
    .rw[φb];show(c.φ j).2+off*s+((rows.drop off).take n).length*s<=cs.size;rw[hlen];have : off*s+n*s<=rows.length*s:=by rw[<- abb];exact abh s hle
     omega
    .have hi':((rows.drop off).take n)[i]?=aag r:=hi;rw[abk] at hi'
     split at hi'
     .rw[List.getElem?_drop] at hi';exact hB.len _ r hi'
     simp_all
    have hi':((rows.drop off).take n)[i]?=aag r:=hi;rw[abk] at hi'
    split at hi'
    .rw[List.getElem?_drop] at hi';obtain⟨u,g1,g2,g3⟩:=hB.rel _ r q a hi' ha;refine⟨u,?_,g2,g3.ext hr hx⟩;rw[φb];show cs[(c.φ j).2+off*s+i*s+q]?=aag u;rw[<- g1]
     congr 1
     show(c.φ j).2+off*s+i*s+q=(c.φ j).2+(off+i)*s+q;rw[abb];omega
    simp_all
   obtain⟨cs',fr',hB'⟩:=hr.blk j k h;exact⟨cs',fr',⟨by rw[φo hj];exact hB'.at_,by rw[φo hj];exact hB'.nf,hB'.pos,hB'.free,by rw[φo hj];exact hB'.fits,hB'.len,λi r q a hi ha=>by
    obtain⟨u,g1,g2,g3⟩:=hB'.rel i r q a hi ha;exact⟨u,by simp_all,g2,g3.ext hr hx⟩⟩⟩
  .have old:∀{j k},c'.live j k->∃k0,c.live j k0:=λ{j k}hl=>by
    grind
   obtain⟨_,h1⟩:=old hl;obtain⟨_,h2⟩:=old hl';rw[φ1,φ1];exact hr.inj j j' _ _ h1 h2 hne
  refine .hs ?_ hc hm h0 λx hx=>?_
  .unfold Cx.born
   simp_all
  have hat':c'.w.heap[(c'.φ b).1]?=aag (.cells cs ty fr):=by rw[φ1];exact hat
  have:=Cx.hd_of (c:=c') (b:=b) (k:=⟨ver+1,s,ty,(rows.drop off).take n⟩) Hb hat';have he:=hx.symm.trans this;simp only[hdo,sie] at he
  simp_all
section
variable{P:Program}{ρ:Operand->AV}{H:AH}
theorem EvA.trim{op:Op}{b ver s off n:Nat}{ty:TypeId}{rows:List (List AV)}(h:ZT P ρ op<|.hs b ver s off n)(hb:H[b]?=aag (aag ⟨ver,s,ty,rows⟩))(hle:off+n<=rows.length) :
  EvA P ρ op H (.hs b (ver+1) s 0 n) (H.set b<|aag ⟨ver+1,s,ty,(rows.drop off).take n⟩):=λo ho c a K Q hH hr hxs hK=>
 h o ho H c a K Q hH hr hxs λv c1 hH1 hr1 hx1 hv1=>by
  obtain⟨c2,e1,e2,e3,e4,e5⟩:=Cx.trim hr1 (by rw[hH1];exact hb) hle hv1;rw[<- e1];exact hK v c2 (by simp_all) e3 (hx1.trans e4) e5
theorem EvA.cutO{α:Type}{f:α->List AV}{op:Op}{b ver w n:Nat}{ty:TypeId}(l:List α){zl zh:Int}(h:ZT P ρ op<|.hs b ver w (0+zl.toNat)<|zh.toNat-zl.toNat)(hb:H[b]?=aag (bE aaf ver w ty<|l.map f))(hn:n=l.length)
  (g:0<=zl/\zl<=zh/\zh<=(n:Int)) :
  EvA P ρ op H (hS aaf b (ver+1) w ((l.drop zl.toNat).take<|zh.toNat-zl.toNat).length) (H.set b<|bE aaf (ver+1) w ty<|((l.drop zl.toNat).take<|zh.toNat-zl.toNat).map f):=by
 obtain⟨g1,g2,g3⟩:=g;have hl:((l.drop zl.toNat).take<|zh.toNat-zl.toNat).length=zh.toNat-zl.toNat:=by rw[abj,abO];omega
 have:=EvA.trim h (rows:=l.map f) hb (by grind);rw[hl,List.map_take,List.map_drop];rw[aa3] at this;exact this
inductive FzP(H:AH):AV->AV->Prop
 |fz {a a':AV} (h:Fz 0 H a a'):FzP H a a'
 |hp {b ver s j:Nat} {ty:TypeId} {r x row':List AV} (hk:H[b]?=aag (aag ⟨ver,s,ty,[r++x]⟩)) (h:FzL 0 H r row'):FzP H (.hp b ver s 0 j) (.fp row' j)
inductive FzPL(H:AH):List AV->List AV->Prop
 |nil:FzPL H [] []
 |cons {a b:AV} {l k:List AV} (h:FzP H a b) (t:FzPL H l k):FzPL H (a::l) (b::k)
theorem FzPL.spec{l k:List AV}(h:FzPL H l k):l.length=k.length/\∀(i:Nat)(c d:AV),l[i]?=aag c->k[i]?=aag d->FzP H c d:=by
 induction h with
 |nil=>simp_all
 |cons h t ih=>
  grind
end
def WP(r:AV)(G:Nat->AH):AV->AH->Prop:=λr' G'=>∃ver,r'=r/\G'=G ver
def Zc:List Nat->AH->AH->AH
 |[],_,H=>H
 |b::bs,G,H=>match G with
  |[]=>H
  |x::xs=>Zc bs xs (H.set b x)
def WQ(H:AH)(ids:List Nat)(G:AH):AH:=Zc ids G H
theorem FR{H:AH}{b:Nat}{bs:List Nat}{x:Option ABlk}{xs:AH}:WQ H (b::bs) (x::xs)=WQ (H.set b x) bs xs:=rfl
theorem FT:∀(ids:List Nat)(H G:AH),(WQ H ids G).length=H.length
 |[],_,_=>rfl
 |_::_,_,[]=>rfl
 |b::bs,H,x::xs=>by rw[FR,FT bs,List.length_set]
theorem La{b:Nat}:∀(ids:List Nat)(H G:AH),b∉ids->(WQ H ids G)[b]?=H[b]?
 |[],_,_,_=>rfl
 |_::_,_,[],_=>rfl
 |c::bs,H,x::xs,h=>by
  rw[FR,La bs _ _ (λhm=>h<|.tail _ hm),aa2 (λe=>h<|by grind)]
theorem Lb:∀(ids:List Nat)(H G:AH)(i b:Nat),ids.Nodup->ids[i]?=aag b->b<H.length->i<G.length->(WQ H ids G)[b]?=G[i]?
 |[],_,_,_,_,_,h,_,_=>by grind
 |_::_,_,[],_,_,_,_,_,h=>by grind
 |c::bs,H,x::xs,i,b,hn,h,hb,hi=>by
  rw[FR];obtain⟨hn1,hn2⟩:=List.nodup_cons.1 hn
  cases i with
  |zero=>
   simp[aa7,sie] at h;subst h;rw[La bs _ _ hn1,abn hb]
   rfl
  |succ i=>
   rw[Lb bs _ xs i b hn2 h (by grind) (by grind)]
   rfl
inductive OutAt(S:Nat->Nat->Prop)(H:AH):List Nat->AH->Prop
 |nil:OutAt S H [] []
 |cons {b:Nat} {k k0:ABlk} {bs:List Nat} {G:AH} (hb:H[b]?=aag (aag k)) (hk:RenK S k k0) (t:OutAt S H bs G):OutAt S H (b::bs) (aag k0::G)
 |none {b:Nat} {bs:List Nat} {G:AH} (hb:H[b]?=aag Option.none) (t:OutAt S H bs G):OutAt S H (b::bs) (Option.none::G)
theorem OutAt.bE{S:Nat->Nat->Prop}{H:AH}{α:Type}{g:Bool}{v w b:Nat}{ty:TypeId}{f:α->List AV}{x:List α}{bs:List Nat}{G:AH}(hb:H[b]?=aag (bE g v w ty<|x.map f))(hf:∀x,(f x).all (isF 9)=aae)(t:OutAt S H bs G):OutAt S H (b::bs) (Go.Proofs.YtoagamanbofngaaGreatDoor.bE g v w ty (x.map f)::G):=by
 cases g with
 |true=>exact .none hb t
 |false=>exact .cons hb (.ofF λr hr a ha=>nA hf r hr a ha) t
theorem OutAt.spec{S:Nat->Nat->Prop}{H:AH}{ids:List Nat}{G:AH}(h:OutAt S H ids G):ids.length=G.length/\∀(i b:Nat),ids[i]?=aag b->(H[b]?=aag Option.none/\G[i]?=aag Option.none)\/∃k k0:ABlk,H[b]?=aag (aag k)/\G[i]?=aag (aag k0)/\RenK S k k0:=by
 induction h with
 |nil=>simp_all
 |@none b bs G hb t ih=>
  grind
 |@cons b k k0 bs G hb hk t ih=>
  grind
section
variable{P:Program}
theorem cN.outAt{f:FuncId}{as0 aac:List AV}{H0 H:AH}{r0 r:AV}{G0:Nat->AH}(h:cN P f as0 H0<|WP r0 G0)(ids:List Nat)(hn:ids.Nodup)(hin:OutAt (λb i=>ids[i]?=aag b) H ids H0)(has:RenL (λb i=>ids[i]?=aag b) aac as0)
  {G G':Nat->AH} (N:Nat) (hN:H.length=N) (hout:∀v,RenHL (sg ids N) (G0 v)<|G v) (hlen:∀v,(G0 v).length=ids.length) (hr:Ren (sg ids N) r0 r) (hG:∀v,WQ H ids (G v)=G' v):cN P f aac H (WP r G'):=by
 subst hN;refine h.frameN ids hn hin.spec.1 hin.spec.2 has.spec.1 has.spec.2 λr1 G1 ⟨v,e1,e2⟩=>⟨r,_,?_,by grind,v,rfl,rfl⟩;subst e2;obtain⟨l1,l2,l3⟩:=(hout v).spec;have hl:=hlen v;have lt:∀{i b},ids[i]?=aag b->b<H.length:=λ{i b}hi=>by
  rcases hin.spec.2 i b hi with⟨h1,_⟩|⟨k,_,h1,_⟩
  .grind
  grind
 have sgi:∀{i b},i<(G0 v).length->sg ids H.length i b->ids[i]?=aag b:=λ{i b}hi hs=>by
  rcases hs with hs|⟨hs,_⟩
  .exact hs
  omega
 refine⟨by omega,by rw[<- hG,FT];omega,λi b hi hs hd=>?_,λi b k0 hs hk=>?_,λb hb hni=>by rw[<- hG,La _ _ _ hni]⟩
 .have hib:=sgi hi hs;rw[<- hG,Lb ids H (G v) i b hn hib (lt hib) (by omega)];have hg:i<(G v).length:=by omega
  rw[geq hg]
  cases hc:(G v)[i] with
  |none=>rfl
  |some k'=>
   obtain⟨k,h1,_⟩:=l3 i k' (by grind)
   simp_all
 have hi:=(ges hk).1;have hib:=sgi hi hs;obtain⟨k',h1,h2⟩:=l2 i k0 hk;refine⟨k',?_,h2⟩;rw[<- hG,Lb ids H (G v) i b hn hib (lt hib) (by omega)];exact h1
end
section
variable{P:Program}{nt b0:Nat}{Q:Exit->Env->AH->Prop}{en:List (Nat×AV)}{H:AH}{ops:Array Oper}{l:List Oper}{d:Tmp}{t:TypeId}{pos:String}{af:Array Edge}
theorem oW{cl:Call}{f:Operand}{g:FuncId}{pK aac:List AV}{r:AV}{G:Nat->AH}(hc:cl.callee= .value f)(hf:rho (ak en) f= .fn (.func g) pK)(ha:cl.args.toList.map (rho<|ak en)++pK=aac)
  (h:cN P g aac H<|WP r G) (k:∀ver,TO P nt b0 ops l Q (ak ((d,r)::en))<|G ver):TO P nt b0 ops (⟨aag d,.call cl,t,pos,af,aah⟩::l) Q (ak en) H:=by
 subst ha;exact TO.runG (.free rfl) (IK rfl hc hf h) λr' H' ⟨ver,hr,hH⟩=>by
  subst hr hH;exact k ver
end
theorem RenK.mB{K V:Type}{kn vn:Nat}{kc:K->List Value}{cv:V->List AV}{l:List (K×V)}(S:Nat->Nat->Prop)(hv:∀v,(cv v).all (isF 9)=aae):RenK S (mB kn vn kc cv l) (mB kn vn kc cv l):=.ofF λr hr a ha=>by
 obtain⟨p,_,rfl⟩:=abe.1 hr;rcases List.mem_append.1 ha with ha|ha
 .obtain⟨x,_,rfl⟩:=abe.1 ha
  rfl
 grind
theorem RenK.bE'{S:Nat->Nat->Prop}{α:Type}{v w:Nat}{ty:TypeId}{f:α->List AV}{x:List α}(hf:∀x,(f x).all (isF 9)=aae):RenK S ⟨v,w,ty,x.map f⟩ ⟨v,w,ty,x.map f⟩:=.ofF λr hr a ha=>nA hf r hr a ha
section
variable{P:Program}{K:Type}[DecidableEq K]{kn:Nat}{kc:K->List Value}{keyT t e:TypeId}{l:List (K×Bool)}{ρ:Operand->AV}{H:AH}{x y z:Operand}{b:Nat}
omit [DecidableEq K] in
end
section
variable{P:Program}
theorem cN.mkS{f:FuncId}{fn:Func}{body:Code}{aac:List AV}{H:AH}{R:AV->AH->Prop}(hf:P.funcs[f]?=aag fn)(hb:fn.body=aag body)(hcall:lT P f=aae)(hn:aaW aac.length fn.ntmps=aae)
 (hok:codeOk fn.ntmps body=aae) {e0:Env} (hw:GX (UE aac) e0) (h:T P fn.ntmps H.length body (SQ H.length<|Fin P fn R) e0 H):cN P f aac H R:=cN.mkT hf hb hcall hn hok hw h.leaf
end
section
variable{P:Program}{ρ:Operand->AV}{H:AH}
theorem Qi{o:Oper}{t:TypeId}{x:Operand}{cs:List AV}{b:Nat}(ho:o.op= .box t x)(hc:(ρ x).cells=aag cs)(h0:0<cs.length)(hb:H[b]?=aag aah):ZP P o ρ H (.hp b 0 cs.length 0 0) (H.set b<|aag ⟨0,cs.length,t,[cs]⟩):=by
 intro c a K Q hH hr hx hK;have hx1:=hx x (by rw[ho];simp[Op.operands]);have hz':=Bp hx1 hc;have hsz:=hz'.size;subst hH;have hrel:HRel (c.newAt b ⟨0,cs.length,t,[cs]⟩ (a.eval x).cells):=by
  refine Cx.newAt_rel hr hb h0 (by simp_all) (λi row h=>?_) λi row j a h1 h2=>?_
  .grind
  match i,h1 with
  |0,h1=>
   simp_all
   simpa using hz'.get h2
  |i+1,h1=>grind
 have hrun:(execOp a.eval o).run P c.w= .ok (.value<|.pointer<|aag ⟨c.w.heap.size,0,aah⟩) (c.newAt b ⟨0,cs.length,t,[cs]⟩ (a.eval x).cells).w:=by
  rw[execOp,ho];have : (Instr.box t<|a.eval x).run P c.w= .ok (.pointer<|aag ⟨_,0,aah⟩) (c.w.alloc<|.cells (a.eval x).cells t):=rfl
  rfl
 unfold Oper.wp;rw[hrun];have hl2:=Cx.newAt_self (c:=c) (k:=⟨0,cs.length,t,[cs]⟩) (cs:=(a.eval x).cells) hb;have hφ2:(c.newAt b ⟨0,cs.length,t,[cs]⟩ (a.eval x).cells).φ b=(c.w.heap.size,0):=if_pos rfl;refine hK _ (c.newAt b ⟨0,cs.length,t,[cs]⟩ (a.eval x).cells) rfl hrel (Cx.newAt_ext hr hb)<|.hp ?_ λq hq=>?_
 .unfold Cx.born;rw[show(c.newAt b ⟨0,cs.length,t,[cs]⟩ (a.eval x).cells).H[b]?=aag (aag _) from hl2];omega
 have:=Cx.hd_of hl2 (by rw[hφ2];exact heap_alloc_new _ _);have he:=hq.symm.trans this;simp only[hdo,sie] at he
 simp_all
theorem EvA.bxA{t:TypeId}{x:Operand}{cs:List AV}(b:Nat)(hx:(ρ x).cells=aag cs)(hn:(aaX 0 cs.length)=aae)(hb:H[b]?=aag aah):EvA P ρ (.box t x) H (.hp b 0 cs.length 0 0) (H.set b<|aag ⟨0,cs.length,t,[cs]⟩):=
 λ_ ho=>Qi ho hx (nlb hn) hb
end
section
variable{P:Program}{nt b0:Nat}{Q:Exit->Env->AH->Prop}{e:Env}{H:AH}
theorem T.ifH{α:Type}{q:Bool}{x:Operand}{t f:Code}{X Y:Option α}{r:α}(hc:rho e x= .v (.bool q))(h:(bif q then X else Y)=aag r)(h1:q=aae->X=aag r->T P nt b0 t Q e H)(h2:q=aaf->Y=aag r->T P nt b0 f Q e H):T P nt b0 (.cond x t f) Q e H:=
 T.cond hc (by grind) λhq=>h2 hq (Tn hq h)
end
theorem ZV{α:Type}{a b:α}(h:aag a=aag b):a=b:=osl h
def YD(e:Env):List (Nat×AV)->List (Nat×AV)
 |[]=>[]
 |p::l=>(p.1,e p.1)::YD e l
theorem wk{e:Env}:∀{en:List (Nat×AV)},YD e en=en->GX e (ak en)
 |[],_=>ZQ
 |(t,a)::l,h=>by
  injection h with h1 h2;injection h1 with _ h1;exact ZR h1<|wk h2
theorem kw{b0:Nat}{e:Env}{H H0:AH}{en:List (Nat×AV)}(hH:H0=H)(h:YD e en=en):bK b0 e H (ak en) H0:=K5 hH<|wk h
def Vy:Nat->List AV->List (Nat×AV)
 |_,[]=>[]
 |i,a::l=>(i,a)::Vy (i+1) l
theorem Qj:∀(l:List AV)(i t:Nat),ak (Vy i l) t=if t<i then .top else l.getD (t-i) .top
 |[],i,t=>by
  show AV.top=_
  simp_all
 |a::l,i,t=>by
  show(bif aa5 t i then a else ak (Vy (i+1) l) t)=_
  cases hb:aa5 t i with
  |true=>
   simp_all
  |false=>
   have hne:t≠i:=λh=>by simp_all
   rw[Qj l (i+1) t]
   grind
theorem MI(l:List AV):GX (UE l) (ak<|Vy 0 l):=λt=>.inr (by rw[Qj];rfl)
section
variable{P:Program}{f:FuncId}{fn:Func}{body:Code}{aac:List AV}{r:AV}{H H':AH}
def okF(P:Program)(f:FuncId)(fn:Func)(body:Code):Bool:=lT P f&&codeOk fn.ntmps body
theorem MJ(h:okF P f fn body=aae):lT P f=aae/\codeOk fn.ntmps body=aae:=by
 unfold okF at h
 simp_all
theorem pM(hf:P.funcs[f]?=aag fn)(hb:fn.body=aag body)(hk:okF P f fn body=aae)(hn:aaW aac.length fn.ntmps=aae)(h:T P fn.ntmps 0 body (Fin P fn λr0 G=>Fz 0 G r0 r) (ak<|Vy 0 aac) []):aF P f aac r:=
 aF.mkT hf hb (MJ hk).1 hn (MJ hk).2 (MI aac) h
theorem aM(hf:P.funcs[f]?=aag fn)(hb:fn.body=aag body)(hk:okF P f fn body=aae)(hn:aaW aac.length fn.ntmps=aae)(h:T P fn.ntmps H.length body (SQ H.length<|Fin P fn λr0 G=>r0=r/\G=H') (ak<|Vy 0 aac) H):eZ P f aac H r H':=
 eZ.mkT hf hb (MJ hk).1 hn (MJ hk).2 (MI aac) h
end
section
variable{α β:Type}{G:Prop}{r:β}{x:Option β}
theorem jW{k:IntKind}{n:Int}(h:gd (ZU k n) x=aag r)(K:k.wrap n=n->x=aag r->G):G:=K (gdW h).1 (gdW h).2
theorem jD{A:Prop}[Decidable A](h:gd (decide A) x=aag r)(K:A->x=aag r->G):G:=K (gdD h).1 (gdD h).2
theorem jL{b:Bool}(h:gd b x=aag r)(K:b=aae->x=aag r->G):G:=K (gdL h).1 (gdL h).2
theorem jB{o:Option α}{k:α->Option β}(h:o.bind k=aag r)(K:∀v,o=aag v->k v=aag r->G):G:=(ve h).elim λv h=>K v h.1 h.2
end
section
variable{P:Program}{nt b0:Nat}{Q:Exit->Env->AH->Prop}{e e0:Env}{H H' H0:AH}{ops:Array Oper}{l:List Oper}{W:Type}{w:W}
theorem T.sr{i:Nat}{y:Code}(h:TO P nt b0 ops ops.toList (Fg (T P nt b0 y Q) Q) e H):T P nt b0 (.seq (.region i ops aaf) y) Q e H:=.seq<|.region h
theorem T.jU{S:Type}{A:Option S}{K:S->Option W}{x y:Code}(h:A.bind K=aag w)(slots:S->List (Nat×AV))(heap:S->AH)
  (J:∀s,K s=aag w->T P nt b0 y Q (ak<|slots s) (heap s)) (k:∀s,A=aag s->T P nt b0 x (Fg (Tp b0 (λ_:Unit=>True) (λ_=>slots s) λ_=>heap s) Q) e H):T P nt b0 (.seq x y) Q e H:=
 jB h λs h1 h2=>T.joinF (λ_=>True) (λ_=>slots s) (λ_=>heap s) (λ_ _=>J s h2) (k s h1)
theorem T.jF{S G:Type}{A:Option S}{K:S->Option W}{x y:Code}(h:A.bind K=aag w)(inv:S->G->Prop)(slots:S->G->List (Nat×AV))(heap:S->G->AH)
  (J:∀s g,K s=aag w->inv s g->T P nt b0 y Q (ak<|slots s g) (heap s g)) (k:∀s,A=aag s->T P nt b0 x (Fg (Tp b0 (inv s) (slots s)<|heap s) Q) e H):T P nt b0 (.seq x y) Q e H:=
 jB h λs h1 h2=>T.joinF (inv s) (slots s) (heap s) (λg hg=>J s g h2 hg) (k s h1)
theorem cU{S:Type}{slots:S->List (Nat×AV)}{heap:S->AH}{a s:S}(h:aag a=aag s)(c:bK b0 e H (ak<|slots a)<|heap a):Tp b0 (λ_:Unit=>True) (λ_=>slots s) (λ_=>heap s) e H:=
 osl h ▸ ⟨(),trivial,c⟩
theorem T.lU{S E:Type}{body:Code}{x:E}{step:S->Option (S ⊕ E)}{s0:S}(h:aA step s0=aag x)(slots:S->List (Nat×AV))(heap:S->AH)(hs:bK b0 e H (ak<|slots s0)<|heap s0)
  (round:∀s z,step s=aag z->T P nt b0 body (Fg (Ec b0 (λ_ (_:Unit)=>True) (λs _=>slots s) (λs _=>heap s) z)<|Leave Q x z) (ak<|slots s) (heap s)):T P nt b0 (.loop body) Q e H:=
 T.loop step (λ_ _=>True) (λs _=>slots s) (λs _=>heap s) () h trivial hs λs _ z hz _=>round s z hz
theorem lE{S E:Type}{slots:S->List (Nat×AV)}{heap:S->AH}{a:S}{z:S ⊕ E}(h:aag (Sum.inl a)=aag z)(c:bK b0 e H (ak<|slots a)<|heap a):Ec b0 (λ_ (_:Unit)=>True) (λs _=>slots s) (λs _=>heap s) z e H:=
 ⟨a,(),by grind,trivial,c⟩
theorem lX{S E:Type}{x y:E}{z:S ⊕ E}{ex:Exit}(h:aag (Sum.inr y)=aag z)(K:aag y=aag x->Q ex e H):Leave Q x z ex e H:=⟨y,by grind,by grind⟩
theorem TO.jB{S:Type}{q:Bool}{A B:Option S}{K:S->Option W}(h:(bif q then A else B).bind K=aag w)(n:Nat)(slots:S->List (Nat×AV))(heap:S->AH)
  (h1:∀s,q=aae->A=aag s->(∀e H,bK b0 e H (ak<|slots s) (heap s)->TO P nt b0 ops (l.drop n) Q e H)->TO P nt b0 ops l Q e H)
  (h2:∀s,q=aaf->B=aag s->(∀e H,bK b0 e H (ak<|slots s) (heap s)->TO P nt b0 ops (l.drop n) Q e H)->TO P nt b0 ops l Q e H)
  (J:∀s,K s=aag w->TO P nt b0 ops (l.drop n) Q (ak<|slots s) (heap s)):TO P nt b0 ops l Q e H:=by
 obtain⟨s,ha,hk⟩:=ve h;have key:∀e H,bK b0 e H (ak<|slots s) (heap s)->TO P nt b0 ops (l.drop n) Q e H:=λe H c=>(J s hk).cut c
 grind
end
section
variable{P:Program}{ρ:Operand->AV}{H H':AH}{x y:Operand}{a:AV}{t:TypeId}{ag:Bool}{n:Nat}
theorem mv:ZT P ρ (.move x) (ρ x):=ZT.mv _ rfl
theorem as':ZT P ρ (.assign x) (ρ x):=ZT.asg _ rfl
def Zp:AV->Bool
 | .fp _ _=>aae
 | .hp _ _ _ _ _=>aae
 |_=>aaf
theorem nl(h:Zp (ρ x)=aae):ZT P ρ (.nilCheck x) (ρ x):=by
 cases e:ρ x with
 |fp row j=>exact ZT.nilfp e
 |hp b v s i j=>exact ZT.nilhp e
 |_=>rw[e] at h;cases h
def ldE(ag:Bool)(n:Nat):AV->Option AV
 | .fp row j=>wC ag n row j
 |_=>aah
theorem lf(a:AV)(ty:TyF P t ag n)(h:ldE ag n (ρ x)=aag a):ZT P ρ (.load t x) a:=by
 cases e:ρ x with
 |fp row j=>rw[e] at h;exact ZT.loadfp a ty e h
 |_=>rw[e] at h;cases h
def faE(pl:List<|Nat×Nat)(i:Nat)(v:AV):Option AV:=match pl[i]? with
 |some (o,k+1)=>(match v with
  | .fp row j=>aag (.fp row<|j+o)
  | .hp b u s q j=>aag (.hp b u s q<|j+o)
  |_=>aah)
 |_=>aah
theorem MK{α β:Type}{f:α->Option β}:∀{l:List α}{k:List β},l.mapM f=aag k->∀{i:Nat}{b:β},k[i]?=aag b->∃a,l[i]?=aag a/\f a=aag b
 |[],k,h,i,b,hb=>by grind
 |c::l,k,h,i,b,hb=>by
  simp_all
  obtain⟨d,hd,h⟩:=abr.1 h;obtain⟨k',hk',h⟩:=abr.1 h;obtain rfl:=osl h
  cases i with
  |zero=>
   simp_all
  |succ i=>exact MK hk' (by grind)
theorem fa{pl:List (Nat×Nat)}{i:Nat}(q:TyS P t pl)(h:faE pl i (ρ x)=aag a):ZT P ρ (.fieldAddr t x i) a:=by
 have hs:=q.s
 split at hs
 .rename_i fs hu;unfold faE at h
  split at h
  .rename_i o k hk;obtain⟨fl,h1,h2⟩:=MK hs hk;rw[aa8] at h1;obtain⟨inf,h3,h4⟩:=abv.1 h2;injection h4 with h4 h5;have hc:(P.cellsOf fl.type != 0)=aae:=by
    unfold Program.cellsOf
    grind
   subst h4
   cases e:ρ x with
   |fp row j=>rw[e] at h;obtain rfl:=osl h;exact ZT.fafp hu h1 hc e
   |hp b u s w j=>rw[e] at h;obtain rfl:=osl h;exact ZT.fahp hu h1 hc e
   |_=>grind
  cases h
 simp_all
theorem lh(a:AV)(ty:TyF P t ag n){b ver s j:Nat}{ty':TypeId}{row:List AV}(h:ρ x= .hp b ver s 0 j)(hk:H[b]?=aag (aag ⟨ver,s,ty',[row]⟩))(hp:wC ag n row j=aag a):EvA P ρ (.load t x) H a H:=EvA.loadhp a ty h hk rfl rfl rfl hp
def srE(n s j:Nat)(row cs:List AV):Option (List AV):=bif aa5 cs.length n&&aaW (j+n) s then aag (splice row j cs) else aah
theorem sr(row':List AV)(ty:TyF P t ag n){b ver s j:Nat}{ty':TypeId}{row cs:List AV}(hx:ρ x= .hp b ver s 0 j)(hy:(ρ y).cells=aag cs)(hk:H[b]?=aag (aag ⟨ver,s,ty',[row]⟩))(hr:srE n s j row cs=aag row'):EvA P ρ (.store t x y) H .top (H.set b<|aag ⟨ver,s,ty',[row']⟩):=by
 unfold srE at hr
 cases hb:(aa5 cs.length n&&aaW (j+n) s) with
 |false=>simp_all
 |true=>
  rw[hb] at hr;obtain rfl:=osl hr;rw[bae] at hb;exact EvA.st _ ty hx hy hk rfl rfl rfl (abD hb.1) hb.2 rfl
end
section
variable{P:Program}{nt b0:Nat}{Q:Exit->Env->AH->Prop}{H H':AH}{ops:Array Oper}{l:List Oper}{d:Tmp}{ty:TypeId}{pos:String}{af:Array Edge}{en:List (Nat×AV)}{fp:Nat->Fp}{i:Nat}{K:Env->AH->Prop}{S W:Type}{r:W}{A:Option S}{k:S->Option W}{v:S->AV}{cl:Call}{f:Operand}{g:FuncId}{pK aac:List AV}
theorem oC(h:A.bind k=aag r)(hp:∀s,A=aag s->aF P g aac (v s))(hc:cl.callee= .value f)(hf:rho (ak en) f= .fn (.func g) pK)(ha:cl.args.toList.map (rho<|ak en)++pK=aac)(hF:aac.all (isF 9)=aae)
  (J:∀s,A=aag s->k s=aag r->TO P nt b0 ops l Q (ak ((d,v s)::en)) H):TO P nt b0 ops (⟨aag d,.call cl,ty,pos,af,aah⟩::l) Q (ak en) H:=
 jB h λs h1 h2=>oN (ZT.call hc hf ha (hp s h1) hF) (J s h1 h2)
theorem fC(h:A.bind k=aag r)(hp:∀s,A=aag s->aF P g aac (v s))(hc:cl.callee= .value f)(hf:rho (ak en) f= .fn (.func g) pK)(ha:cl.args.toList.map (rho<|ak en)++pK=aac)(hF:aac.all (isF 9)=aae)(h0:fp i=([],aaf))
  (J:∀s,A=aag s->k s=aag r->TF P fp (i+1) l K (ak ((d,v s)::en)) H):TF P fp i (⟨aag d,.call cl,ty,pos,af,aah⟩::l) K (ak en) H:=
 jB h λs h1 h2=>fN h0 (ZT.call hc hf ha (hp s h1) hF) (J s h1 h2)
end
section
variable{P:Program}{fn:Func}{e:Env}{G:AH}{a:AV}{t:Tmp}{m:Nat}
theorem SV(h:fn.results.toList=[.tmp t])(h1:e t=a)(h2:isF 9 a=aae):Fin P fn (λr0 G=>Fz m G r0 a) .ret e G:=Fin.ret (by rw[h];exact .cons (.tmp h1) .nil)<|.of_isF 9 _ h2
end
section
variable{P:Program}{ρ:Operand->AV}{H:AH}{x y:Operand}{t:TypeId}{ag:Bool}{n j w:Nat}{q:Int}
theorem lh1(V:Int->AV)(g:0<=q/\q<3)(ty:TyF P t ag n){b ver s:Nat}{ty':TypeId}{row:List AV}(h:ρ x= .hp b ver s 0 (j+q.toNat*w))(hk:H[b]?=aag (aag ⟨ver,s,ty',[row]⟩))(h0:wC ag n row (j+0*w)=aag (V 0))(h1:wC ag n row (j+1*w)=aag (V 1))(h2:wC ag n row (j+2*w)=aag (V 2)):EvA P ρ (.load t x) H (V q) H:=
 EvA.loadhp _ ty h hk rfl rfl rfl (by grind)
theorem sr1(R:Int->List AV)(g:0<=q/\q<3)(ty:TyF P t ag n){b ver s:Nat}{ty':TypeId}{row cs:List AV}(hx:ρ x= .hp b ver s 0 (j+q.toNat*w))(hy:(ρ y).cells=aag cs)(hk:H[b]?=aag (aag ⟨ver,s,ty',[row]⟩))(h0:srE n s (j+0*w) row cs=aag (R 0))(h1:srE n s (j+1*w) row cs=aag (R 1))(h2:srE n s (j+2*w) row cs=aag (R 2)):EvA P ρ (.store t x y) H .top (H.set b<|aag ⟨ver,s,ty',[R q]⟩):=
 sr _ ty hx hy hk (by grind)
variable{v:Nat}{u:Int}
theorem Zq{Q:Int->Int->Prop}(g:0<=q/\q<3)(g':0<=u/\u<3)(h:Q 0 0/\Q 0 1/\Q 0 2/\Q 1 0/\Q 1 1/\Q 1 2/\Q 2 0/\Q 2 1/\Q 2 2):Q q u:=
 by grind
def P9(Q:Nat->Nat->Int->Int->Prop):Prop:=Q 0 0 0 0/\Q 0 1 0 1/\Q 0 2 0 2/\Q 1 0 1 0/\Q 1 1 1 1/\Q 1 2 1 2/\Q 2 0 2 0/\Q 2 1 2 1/\Q 2 2 2 2
theorem sr2(R:Int->Int->List AV)(g:0<=q/\q<3)(g':0<=u/\u<3)(ty:TyF P t ag n){b ver s:Nat}{ty':TypeId}{row cs:List AV}(hx:ρ x= .hp b ver s 0 ((j+q.toNat*w)+u.toNat*v))(hy:(ρ y).cells=aag cs)(hk:H[b]?=aag (aag ⟨ver,s,ty',[row]⟩))(h9:P9 λa b y z=>srE n s ((j+a*w)+b*v) row cs=aag (R y z)):EvA P ρ (.store t x y) H .top (H.set b<|aag ⟨ver,s,ty',[R q u]⟩):=
 sr _ ty hx hy hk (Zq (Q:=λy z=>srE n s ((j+y.toNat*w)+z.toNat*v) row cs=aag (R y z)) g g' h9)
end
section
variable{P:Program}{H:AH}{s:Nat}{o:Oper}{ρ:Operand->AV}
theorem Qk{e:TypeId}{i:TypeInfo}{z:Value}(w:World)(hi:P.info? e=aag i)(hz:i.zero=aag z):(zeroValue e).run P w= .ok z w:=by simp[zeroValue,typeInfo,hi,hz]
theorem Ql{cl:Call}{x:Operand}{t e:TypeId}{b ver off len:Nat}{k:ABlk}{z:Value}{zr:List AV}(ho:o.op= .call cl)(h1:cl.callee= .builtin .clear)(h2:cl.args.toList=[x])(h3:cl.argTypes.toList=[t])
  (ht:P.underlying t=aag (.slice e)) (hz:(P.info? e).bind (·.zero)=aag z) (hz1:nW z.cells=aae) (hzs:z.cells.size=s) (hzr:zr.length=s) (hzc:∀(c:Cx)(j:Nat)(a:AV),zr[j]?=aag a->∃u,z.cells[j]?=aag u/\c.rel a u)
  (hx:ρ x= .hs b ver s off len) (hb:H[b]?=aag (aag k)) (hv:k.ver=ver) (hs:k.s=s) (hoff:off+len<=k.rows.length) :
  ZP P o ρ H .top (H.set b<|aag { k with rows:=k.rows.take off++(aaY len zr).take len++k.rows.drop (off+len) }):=by
 intro c a K Q hH hr hxs hK;obtain⟨callee,args,ts⟩:=cl;simp only at h1 h2 h3;obtain rfl:args=#[x]:=by cases args;simp_all
 obtain rfl:ts=#[t]:=by cases ts;simp_all
 subst h1;have hx1:=hx ▸ hxs x (by rw[ho];simp[Op.operands,Call.operands]);generalize hn:len=n at hK ⊢;generalize hnews:aaY n zr=news at hK ⊢;have hrl:∀(i:Nat)(row:List AV),news[i]?=aag row->row.length=s:=λi row h=>by
  rw[<- hnews] at h;have:=aba h;rw[abo] at this;rw[this.2,hzr]
 have hnl0:news.length=n:=by rw[<- hnews,abu]
 have hone:∀v∈z.cells,v.oneCell'=aae:=by
  rw[Bi,Array.all_eq_true_iff_forall_mem] at hz1;exact hz1
 generalize hvs:(Builtin.zeroCells z.cells n).toList=vs;have hvl:vs.length=n*s:=by rw[<- hvs,abA,nZ,hzs]
 have hvget:∀i j,i<n->j<s->vs[i*s+j]?=z.cells[j]?:=λi j hi hj=>by
  have hfit:i*s+j<n*s:=by
   have : (i+1)*s<=n*s:=abh _ (by omega);rw[abb] at this;omega
  rw[<- hvs,aa8];unfold Builtin.zeroCells;rw[hzs];have:=Ff z.cells (n*s) (i*s+j) hfit (by omega);rw[hzs] at this;rw[this,abC i s,Nat.mul_add_mod,Nat.mod_eq_of_lt hj]
 have hv1:∀v∈vs,v.oneCell'=aae:=λv hm=>by
  obtain⟨q,hq⟩:=List.getElem?_of_mem hm;have hq':=(ges hq).1;rw[hvl] at hq';have hs0:0<s:=Nat.pos_of_ne_zero λh=>by rw[h,Nat.mul_zero] at hq';omega
  have e1:q=q / s*s+q % s:=by rw[abC];exact(Nat.div_add_mod q s).symm
  rw[e1,hvget (q / s) (q % s) (Nat.div_lt_of_lt_mul<|by rw[abC];exact hq') (Nat.mod_lt _ hs0)] at hq;exact hone v<|abg hq
 have hvr:∀(i:Nat)(row:List AV)(j:Nat)(a:AV),(news.take n)[i]?=aag row->row[j]?=aag a->∃u,vs[i*s+j]?=aag u/\u.oneCell'=aae/\c.rel a u:=λi row j a hi hj=>by
  have hin:i<n:=by
   have:=(ges hi).1;rw[abj] at this;omega
  rw[abk,if_pos hin,<- hnews] at hi;have:=aba hi;rw[abo] at this;rw[this.2] at hj;have hjs:j<s:=by rw[<- hzr];exact(ges hj).1
  obtain⟨u,g1,g2⟩:=hzc c j a hj;exact⟨u,by rw[hvget i j hin hjs];exact g1,hone u<|abg g1,g2⟩
 have hl:c.live b k:=by unfold Cx.live;rw[hH];exact hb
 generalize hux:a.eval x=ux at hx1
 cases hx1 with
 |fr h=>cases h
 |@hs _ _ _ _ _ cap A hbn hcl hcm h0 hh=>
  obtain⟨cur,fr,hB⟩:=hr.blk b k hl;obtain⟨fr,rfl,hat,hd⟩:=hB.cells hl λx hx=>(hh x<|hv ▸ hx).1.trans hs.symm;rw[hv] at hd;obtain⟨_,_,hA,hcf⟩:=hh _ hd;simp only at hA hcf;have hexec:∀w',(n=0/\w'=c.w)\/(∃ad,A=aag ad/\0<n/\(storeCells ad vs).run P c.w= .ok () w')->(execOp a.eval o).run P c.w= .ok (.value<|.tuple #[]) w':=λw' hw=>by
   have e1:(Builtin.clear_ #[t] o.type #[.slice A len cap]).run P c.w= .ok (.tuple #[]) w':=by
    obtain⟨inf,h5,h6⟩:=abr.1 hz;rcases hw with⟨h0',rfl⟩|⟨ad,rfl,hp,hst⟩
    .rw[hn,h0']
     cases A <;> simp[Builtin.clear_,Sem.run_bind,ay ht]
    obtain⟨q,rfl⟩:∃q,n=q+1:=⟨n-1,by omega⟩;rw[hn];simp[Builtin.clear_,Sem.run_bind,ay ht,Qk c.w h5 h6,hvs,hst]
   simp[execOp,ho,resolve,invoke,builtin,hux,e1]
  unfold Oper.wp;rcases Nat.eq_zero_or_pos n with h00|hpos
  .-- nothing is copied
   have hv0:vs=[]:=List.eq_nil_of_length_eq_zero (by rw[hvl,h00,Nat.zero_mul]);have hk0:({ k with rows:=k.rows.take off++news.take n++k.rows.drop (off+n) }:ABlk)=k:=by
    rw[h00];simp
   rw[hexec c.w (.inl ⟨h00,rfl⟩)];refine hK _ c ?_ hr (Ext.refl c) .top;rw[hk0,IG H b _ hb,hH]
  have h0':0<cap:=by omega
  obtain rfl:=hA h0';have hfit:=hB.fits;have hsp:=hB.pos;have hle:(c.φ b).2+off*s+vs.length<=cur.toList.length:=by
   have h5:(off+len)*s<=k.rows.length*s:=abh _ hoff;have h6:n*s<=len*s:=abh _ (by omega);rw[abb] at h5;have hct:cur.toList.length=cur.size:=abA;rw[hs] at hfit;rw[hvl,hct];omega
  have hst:=lS (P:=P) (c.φ b).1 ((c.φ b).2+off*s) k.ty fr vs 0 cur c.w hat (hB.fre fr rfl) (by simpa using hle) hv1;rw[abx] at hst;have hg2:=λq=>IB cur.toList _ _ hle q;have hs2:=IC cur.toList _ _ hle;generalize hcs2:(cur.toList.take ((c.φ b).2+off*s)++vs++cur.toList.drop ((c.φ b).2+off*s+vs.length))=ls at *;have hsz2:ls.toArray.size=cur.size:=by simpa using hs2
  have hget:∀q,ls.toArray[q]?=if (c.φ b).2+off*s<=q/\q<(c.φ b).2+off*s+vs.length then vs[q-((c.φ b).2+off*s)]? else cur[q]?:=λq=>by
   rw[List.getElem?_toArray,hg2,aa8 (xs:=cur)]
  have hrl2:(k.rows.take off++news.take n++k.rows.drop (off+n)).length=k.rows.length:=by
   simp only[lla,abj,abO];omega
  have hrow:∀(i:Nat)(row:List AV),(k.rows.take off++news.take n++k.rows.drop (off+n))[i]?=aag row->(off<=i/\i<off+n/\news[i-off]?=aag row)\/((i<off\/off+n<=i)/\k.rows[i]?=aag row):=λi row h=>by
   have hnl:(news.take n).length=n:=by simp;omega
   have e:=IB k.rows off (news.take n) (by rw[hnl];omega) i;rw[hnl] at e;rw[e] at h
   split at h
   .rename_i h2;refine .inl ⟨h2.1,h2.2,?_⟩;rw[abk,if_pos (by omega)] at h;exact h
   rename_i h2;exact .inr ⟨by omega,h⟩
  have hlen2:∀(i:Nat)(row:List AV),(k.rows.take off++news.take n++k.rows.drop (off+n))[i]?=aag row->row.length=k.s:=λi row h=>by
   rcases hrow i row h with⟨_,_,h2⟩|⟨_,h2⟩
   .rw[hrl _ row h2,hs]
   exact hB.len i row h2
  have hext:=Cx.upd_ext (k:={ k with rows:=k.rows.take off++news.take n++k.rows.drop (off+n) }) (o:=(c.φ b).2) (cs:=ls.toArray) hr hl hB hsz2 (.inl ⟨rfl,rfl,hrl2,rfl⟩);have hrel:=Cx.upd_rel (k:={ k with rows:=k.rows.take off++news.take n++k.rows.drop (off+n) }) (o:=(c.φ b).2) (cs:=ls.toArray) hr hl hB hsz2 rfl hext hsp (by simp only;rw[hrl2,hsz2];exact hfit) hlen2 (λi row j a' h h'=>by
   have hj:j<s:=by
    have:=(ges h').1;rw[hlen2 i row h,hs] at this;exact this
   simp only;rw[hget,hs,hvl];rcases hrow i row h with⟨g1,g2,g3⟩|⟨g1,g3⟩
   .have hf:=zK (s:=s) (show i-off<n by omega) (j:=j+1) hj;have e:i*s=(i-off)*s+off*s:=by
     rw[<- abb]
     congr 1
     omega
    rw[if_pos (by omega)];obtain⟨u',q1,q2,q3⟩:=hvr (i-off) row j a' (by rw[abk,if_pos (by omega)];exact g3) h';refine⟨u',?_,q2,q3⟩;rw[<- q1]
    congr 1
    omega
   have hi':=(ges g3).1;rw[if_neg (λhq=>?_)]
   .have:=hB.rel i row j a' g3 h';rw[hs] at this;exact this
   rcases g1 with g1|g1
   .have hf:=zK (s:=s) g1 (j:=j+1) hj;omega
   have hf:(off+n)*s<=i*s:=abh _ g1;rw[abb] at hf;omega)
  rw[hexec _ (.inr ⟨_,rfl,hpos,hst⟩)];exact hK _ _ (by rw[<- hH];rfl) hrel hext .top
variable{α:Type}{c:α->List AV}{l:List α}{x y:Operand}{t e:TypeId}{ag:Bool}{w m b ver off len:Nat}{zs:List AV}
def ZrR(zs zr:List AV):Prop:=zr.length=zs.length/\∀(cx:Cx)(j:Nat)(a a':AV)(v:Value),zs[j]?=aag a->zr[j]?=aag a'->cx.rel a v->cx.rel a' v
theorem zrE{zs:List AV}:ZrR zs zs:=⟨rfl,by grind⟩
theorem CN{β:Type}[Inhabited β]{f:β->List AV}{cx:Cx}{v:Value}(h:cx.rel .nil v):cx.rel (eL f ([]:List β)) v:=by
 obtain rfl:=iy h;exact .fr<|.sl (s:=1) (g:=0) (o:=0) (λ_ _=>.bool aaf) (aa1 _) (by grind) (by grind) (by grind) (by grind) (by grind) (by grind)
theorem zrN{β:Type}[Inhabited β]{f:β->List AV}:ZrR [.nil] [eL f ([]:List β)]:=⟨rfl,λcx j a a' v h h' hr=>by
 match j with
 |0=>
  obtain rfl:=osl h;obtain rfl:=osl h';exact CN hr
 |j+1=>grind⟩
theorem ZT.ixP{k:IntKind}{i:Int}{n lo:Nat}(q:SlT P t e ag w zs m)(hx:ρ x= .hs b ver w lo n)(hy:ρ y= .v (.int k i))(hi:0<=i/\i<(n:Int)):ZT P ρ (.indexAddr t x y) (.hp b ver w (lo+i.toNat) 0):=ZT.ixhs q.u q.ty hx hy hi
theorem EvA.clearO[Inhabited α](q:SlT P t e ag w zs m)(hz:ZrR zs<|c aad)(hx:ρ x= .hs b ver w off len)(hk:H[b]?=aag (bE aaf ver w e<|l.map c))(ho:off+len<=l.length) :
  EvA P ρ (.call ⟨.builtin .clear,#[x],#[t]⟩) H .top (H.set b<|bE aaf ver w e<|(cpy l off (aaY len aad) len).map c):=λo ho'=>by
 obtain⟨z,hz0,hzz⟩:=abv.1 q.z.z;have hone:nW z.cells=aae:=by
  have:=q.z.one
  grind
 have hsz:z.cells.size=w:=by
  have:=congrArg List.length hzz;rw[<- q.zl,<- this];simp[eC]
 have h:=Ql (o:=o) (P:=P) (ρ:=ρ) (H:=H) (s:=w) ho' rfl rfl rfl q.u hz0 hone hsz (hz.1.trans q.zl) (λcx j a ha=>by
  have hjl:j<zs.length:=by rw[<- hz.1];grind
  have hzs:=geq hjl;have hju:j<z.cells.size:=by rw[hsz,<- q.zl];exact hjl
  refine⟨z.cells[j],by grind,hz.2 cx j _ a _ hzs ha ?_⟩;have hc:=wA cx hone;obtain⟨u,g1,g2⟩:=hc.get (j:=j) (a:=zs[j]) (by grind)
  grind) hx hk rfl rfl (by simpa using ho)
 unfold cpy;rw[if_pos ho];simpa [bE] using h
end
section
variable{P:Program}{H:AH}
theorem cN.wown{f:FuncId}{as0 aac:List AV}{b:Nat}{g:Bool}{ver w w':Nat}{ty ty':TypeId}{xG rows:List (List AV)}{mk:AV->AV}{n:Nat}(h:cN P f as0 [bE g ver w ty xG]<|KO w' ty' mk n rows 0 [])(hb:H[b]?=aag (bE g ver w ty xG))
  (has:RenL (λc i=>[b][i]?=aag c) aac as0) (hk0:∀r∈xG,∀a∈r,isF 9 a=aae) (hk:∀r∈rows,∀a∈r,isF 9 a=aae) (hmk:∀(S:Nat->Nat->Prop)(a b:AV),Ren S a b->Ren S (mk a) (mk b)) :
  cN P f aac H (λr G=>∃g' pY,(g'=aae->n=0)/\r=mk (hS g' b pY w' n)/\G=H.set b (bE g' pY w' ty' rows)):=by
 have hlt:b<H.length:=by grind
 refine h.frameN [b] (by simp) rfl (λi c hi=>?_) has.spec.1 has.spec.2 λr0 G0 ⟨g',pY,hg,hr0,hG0⟩=>?_
 .match i with
  |0=>
   obtain rfl:b=c:=by simpa using hi
   cases g with
   |true=>exact .inl ⟨hb,rfl⟩
   |false=>exact .inr ⟨_,_,hb,rfl,.ofF hk0⟩
  |i+1=>simp at hi
 subst hr0 hG0;have key:∀i c,sg [b] H.length i c->i<1->c=b:=λi c hs hi=>by
  rcases hs with hs|⟨hs,_⟩
  .grind
  simp at hs;omega
 refine⟨_,_,⟨by simp,by simp,λi c hi hs hn=>?_,λi c k0 hs hk0=>?_,by grind⟩,hmk _ _ _ ?_,⟨g',pY,hg,rfl,rfl⟩⟩
 .grind
 .have hi:i<1:=by grind
  obtain rfl:i=0:=by omega
  simp[List.nil_append,aa7,sie] at hk0;refine⟨k0,by grind,.ofF λr hr a ha=>?_⟩
  cases g' with
  |true=>cases hk0
  |false=>
   obtain rfl:=osl hk0;exact hk r hr a ha
 cases g' with
 |true=>exact .nil
 |false=>exact .hs (.inl rfl)
theorem eZ.oneE{f:FuncId}{as0 aac:List AV}{b:Nat}{g:Bool}{ver w:Nat}{ty:TypeId}{xG rows:List (List AV)}{r:AV}(h:eZ P f as0 [bE g ver w ty xG] r [bE g ver w ty rows])(hb:H[b]?=aag (bE g ver w ty xG))
  (has:RenL (λc i=>[b][i]?=aag c) aac as0) (hk0:∀r∈xG,∀a∈r,isF 9 a=aae) (hk:∀r∈rows,∀a∈r,isF 9 a=aae) (hr:isF 9 r=aae):eZ P f aac H r (H.set b<|bE g ver w ty rows):=by
 have hlt:b<H.length:=by grind
 have h0:cN P f as0 [bE g ver w ty xG] (λr' G=>r'=r/\G=[bE g ver w ty rows]):=⟨h.1,λc vs hH hr hall=>(h.2 c vs hH hr hall).mono λe w' ⟨v,c',h1,h2,h3,h4,h5,h6⟩=>⟨v,c',r,h1,h2,⟨rfl,h3⟩,h4,h5,h6⟩⟩;refine cN.acall<|h0.frameN [b] (by simp) rfl (λi c hi=>?_) has.spec.1 has.spec.2 λr0 G0 ⟨hr0,hG0⟩=>?_
 .match i with
  |0=>
   obtain rfl:b=c:=by simpa using hi
   cases g with
   |true=>exact .inl ⟨hb,rfl⟩
   |false=>exact .inr ⟨_,_,hb,rfl,.ofF hk0⟩
  |i+1=>simp at hi
 subst hr0 hG0;have key:∀i c,sg [b] H.length i c->i<1->c=b:=λi c hs hi=>by
  rcases hs with hs|⟨hs,_⟩
  .grind
  grind
 refine⟨_,_,⟨by simp,by simp,λi c hi hs hn=>?_,λi c k0 hs hk0=>?_,by grind⟩,bA 9 _ hr,rfl,rfl⟩
 .grind
 have hi:i<1:=by grind
 obtain rfl:i=0:=by omega
 simp only[aa7,sie] at hk0;refine⟨k0,by grind,.ofF λr hr a ha=>?_⟩
 cases g with
 |true=>cases hk0
 |false=>
  obtain rfl:=osl hk0;exact hk r hr a ha
theorem ML{S:Nat->Nat->Prop}{g:Bool}{i j v w n n':Nat}(h:S i j)(hn:n=n'):Ren S (hS g i v w n) (hS g j v w n'):=hn ▸ kz h
variable{nt b0:Nat}{Q:Exit->Env->AH->Prop}{en:List (Nat×AV)}{ops:Array Oper}{l:List Oper}{d:Tmp}{t:TypeId}{pos:String}{af:Array Edge}
theorem oGW{cl:Call}{f:Operand}{g:FuncId}{pK as0:List AV}{H:AH}{b w0 ver w:Nat}{g0:Bool}{ty0 ty:TypeId}{xG rows:List (List AV)}{mk:AV->AV}{n:Nat}(hc:cl.callee= .value f)(hf:rho (ak en) f= .fn (.func g) pK)
  (h:cN P g as0 [bE g0 ver w0 ty0 xG]<|KO w ty mk n rows 0 []) (hb:H[b]?=aag (bE g0 ver w0 ty0 xG)) (has:RenL (λc i=>[b][i]?=aag c) (cl.args.toList.map (rho<|ak en)++pK) as0) (hk0:∀r∈xG,∀a∈r,isF 9 a=aae) (hk:∀r∈rows,∀a∈r,isF 9 a=aae)
  (hmk:∀(S:Nat->Nat->Prop)(a b:AV),Ren S a b->Ren S (mk a) (mk b)) (k:∀g' pY,(g'=aae->n=0)->TO P nt b0 ops l Q (ak ((d,mk<|hS g' b pY w n)::en)) (H.set b<|bE g' pY w ty rows)):TO P nt b0 ops (⟨aag d,.call cl,t,pos,af,aah⟩::l) Q (ak en) H:=by
 exact TO.runG (.free rfl) (IK rfl hc hf<|h.wown hb has hk0 hk hmk) λr' H' ⟨g',pY,hg,hr,hH⟩=>by
  subst hr hH;exact k g' pY hg
end
section
variable{P:Program}{ρ:Operand->AV}{H:AH}{x y z:Operand}{t e keyT:TypeId}{ag:Bool}{w j b kn:Nat}
variable{K:Type}[DecidableEq K]{kc:K->List Value}{l:List (K×Bool)}
omit [DecidableEq K] in
end
section
variable{P:Program}{o:Oper}{ρ ρ':Operand->AV}{H:AH}{K K':AV->AH->Prop}
theorem OpG.congr{R:AV->AH->Prop}(h:OpG P o ρ H R)(he:∀x∈o.op.operands,ρ x=ρ' x):OpG P o ρ' H R:=
 λc a K Q hH hr hxs hK=>h c a K Q hH hr (by grind) hK
theorem OpG.mono{R R':AV->AH->Prop}(h:OpG P o ρ H R)(hR:∀r G,R r G->R' r G):OpG P o ρ H R':=
 λc a K Q hH hr hxs hK=>h c a K Q hH hr hxs λv c' r hr1 hr2 hr3 hr4=>by grind
theorem ZP.opG{r:AV}{H':AH}(h:ZP P o ρ H r H'):OpG P o ρ H λr' G=>r'=r/\G=H':=
 λc a K Q hH hr hxs hK=>h c a K Q hH hr hxs λv c' hc hr2 hr3 hr4=>by grind
abbrev Xc:=Bool×List Nat
def agr(F:List Nat)(G H:AH):Prop:=∀b∈F,G[b]?=H[b]?
theorem agr.a0{b:Nat}{F:List Nat}{G H:AH}(h:agr (b::F) G H){x:Option ABlk}(hx:H[b]?=aag x):G[b]?=aag x:=(h b<|by simp).trans hx
theorem agr.a1{b c:Nat}{F:List Nat}{G H:AH}(h:agr (c::b::F) G H){x:Option ABlk}(hx:H[b]?=aag x):G[b]?=aag x:=(h b<|by simp).trans hx
theorem agr.a2{a b c:Nat}{F:List Nat}{G H:AH}(h:agr (a::c::b::F) G H){x:Option ABlk}(hx:H[b]?=aag x):G[b]?=aag x:=(h b<|by simp).trans hx
def Ed(W:List Nat)(H H':AH):Prop:=∀b,b<H.length->b∉W->H'[b]?=H[b]?
theorem fB{b:Nat}{X:Option ABlk}:Ed [b] H (H.set b X):=λc _ hc=>by grind
theorem qI{L:AH}:Ed [] H (H++L):=λ_ hb _=>by grind
def FU(P:Program)(o:Oper)(ρ:Operand->AV)(H:AH)(b:Xc)(K:AV->AH->Prop):Prop:=match b.1 with
 |false=>∃r,(∀c∈b.2,c<H.length)/\(∀G,agr b.2 G H->ZP P o ρ G r G)/\K r H
 |true=>OpG P o ρ H λr H'=>Ed b.2 H H'/\K r H'
theorem FU.mono{b:Xc}(h:FU P o ρ H b K)(hK:∀r G,K r G->K' r G):FU P o ρ H b K':=by
 obtain⟨b,F⟩:=b
 cases b with
 |false=>
  obtain⟨r,h0,h1,h2⟩:=h;exact⟨r,h0,h1,hK _ _ h2⟩
 |true=>
  show OpG P o ρ H λr H'=>Ed F H H'/\K' r H';exact OpG.mono (R:=λr H'=>Ed F H H'/\K r H') h λr G hr=>⟨hr.1,hK _ _ hr.2⟩
theorem FU.congr{b:Xc}(h:FU P o ρ H b K)(he:∀x∈o.op.operands,ρ x=ρ' x):FU P o ρ' H b K:=by
 obtain⟨b,F⟩:=b
 cases b with
 |false=>
  obtain⟨r,h0,h1,h2⟩:=h;exact⟨r,h0,λG hG=>(h1 G hG).congr he,h2⟩
 |true=>
  exact OpG.congr (R:=λr H'=>Ed F H H'/\K r H') h he
theorem FU.opG{b:Xc}(h:FU P o ρ H b K):OpG P o ρ H K:=by
 obtain⟨b,F⟩:=b
 cases b with
 |false=>
  obtain⟨r,_,h1,h2⟩:=h;refine(ZP.opG<|h1 H λ_ _=>rfl).mono ?_
  grind
 |true=>exact OpG.mono (R:=λr H'=>Ed F H H'/\K r H') h λr G hr=>hr.2
def Tt(a b:Xc):Bool:=!b.1||a.2.all λx=>!b.2.contains x
def Tu(P:Program)(ops:Array Oper)(cls:Nat->Xc)(Q:Env->AH->Prop):Nat->Array Bool->Env->AH->Prop
 |0,listed,e,H=>Region.ready .any ops listed=[]/\Q e H
 |fuel+1,listed,e,H=>(Region.ready .any ops listed=[]->Q e H) /\
  ∀i∈Region.ready .any ops listed,∃o,ops[i]?=aag o/\FU P o (rho e) H (cls i) λr H'=>Tu P ops cls Q fuel (listed.setIfInBounds i aae) (ww e o.dst r) H'
theorem Oa{ops:Array Oper}{cls:Nat->Xc}{Q:Env->AH->Prop}{i:Nat}{oi:Oper}{r:AV}{F:List Nat}(hi:ops[i]?=aag oi)(hci:cls i=(aaf,F)) :
  ∀(fuel:Nat)(listed:Array Bool)(e:Env)(H:AH),
   (∀(j:Nat)(oj:Oper),ops[j]?=aag oj->j≠i->listed.getD j aae=aaf->(∀ed∈oj.after,Region.binds .any ed=aae->ed.on≠i)->oi.apart ops oj=aae/\Tt (cls i) (cls j)=aae) ->
   i∈Region.ready .any ops listed->(∀c∈F,c<H.length)->(∀G,agr F G H->ZP P oi (rho e) G r G)->Tu P ops cls Q fuel (listed.setIfInBounds i aae) (ww e oi.dst r) H->Tu P ops cls Q (fuel+1) listed e H:=by
 intro fuel
 induction fuel with
 |zero=>
  intro listed e H _ hr hF hy hA;refine⟨λh=>(by rw[h] at hr;cases hr),λj hj=>?_⟩
  by_cases hji:j=i
  .subst hji;exact⟨oi,hi,by rw[hci];exact⟨r,hF,hy,hA⟩⟩
  have:=ready_mono hj hji;rw[hA.1] at this
  cases this
 |succ fuel ih=>
  intro listed e H hfree hr hF hy hA;refine⟨λh=>(by rw[h] at hr;cases hr),λj hj=>?_⟩
  by_cases hji:j=i
  .subst hji;exact⟨oi,hi,by rw[hci];exact⟨r,hF,hy,hA⟩⟩
  obtain⟨oj,hoj,hsj⟩:=hA.2 j<|ready_mono hj hji;obtain⟨hjun,oj',D9,hall⟩:=mem_ready.1 hj;rw[hoj] at D9;injection D9 with D9;subst D9;have hnot:∀ed∈oj.after,Region.binds .any ed=aae->ed.on≠i:=λed he hb heq=>by
   have h0:=(mem_ready.1 hr).1
   grind
  obtain⟨hap,hcm⟩:=hfree j oj hoj hji hjun hnot;obtain⟨h1,h2,h3⟩:=Oper.apart_spec hap;have ej:=wB (e:=e) (r:=r) h1;have hfree':∀(k:Nat)(ok:Oper),ops[k]?=aag ok->k≠i->(listed.setIfInBounds j aae).getD k aae=aaf->(∀ed∈ok.after,Region.binds .any ed=aae->ed.on≠i)->oi.apart ops ok=aae/\Tt (cls i) (cls k)=aae:=λk ok hk hki hun hno=>by
   refine hfree k ok hk hki ?_ hno
   by_cases hjk:j=k
   .subst hjk;exact hjun
   rw[getD_set_ne aae hjk] at hun;exact hun
  have hsj':=hsj.congr ej;have go:∀q Hj,(∀c∈F,c<Hj.length)->(∀c∈F,Hj[c]?=H[c]?)->Tu P ops cls Q fuel ((listed.setIfInBounds i aae).setIfInBounds j aae) (ww (ww e oi.dst r) oj.dst q) Hj->Tu P ops cls Q (fuel+1) (listed.setIfInBounds j aae) (ww e oj.dst q) Hj:=λq Hj hF' hHj hAj=>by
   have ei:=wB (e:=e) (oi:=oj) (r:=q) h3;refine ih (listed.setIfInBounds j aae) (ww e oj.dst q) Hj hfree' (ready_mono hr<|Ne.symm hji) hF' (λG hG=>(hy G λc hc=>(hG c hc).trans<|hHj c hc).congr λx hx=>(ei x hx).symm) ?_;rw[abH _ _ hji,Bu (λd hd=>λhd'=>h2 d (by simpa using hd')<|by simpa using hd)];exact hAj
  refine⟨oj,hoj,?_⟩;rw[hci] at hcm;generalize cls j=cj at hsj' hcm ⊢;obtain⟨b,W⟩:=cj
  cases b with
  |false=>
   obtain⟨q,q0,q1,q2⟩:=hsj';exact⟨q,q0,q1,go q H hF (λ_ _=>rfl) q2⟩
  |true=>
   simp only[Tt,Bool.not_true,Bool.false_or,aaZ,abI,aby,decide_eq_false_iff_not] at hcm;show OpG P oj (rho e) H λr1 H1=>Ed W H H1/\Tu P ops cls Q (fuel+1) (listed.setIfInBounds j aae) (ww e oj.dst r1) H1;refine OpG.mono (R:=λr1 H1=>Ed W H H1/\Tu P ops cls Q fuel ((listed.setIfInBounds i aae).setIfInBounds j aae) (ww (ww e oi.dst r) oj.dst r1) H1) hsj' λq Hj ⟨k1,k2⟩=>⟨k1,go q Hj (λc hc=>?_) (λc hc=>k1 c (hF c hc)<|hcm c hc) k2⟩;have:=k1 c (hF c hc)<|hcm c hc;rw[geq (hF c hc)] at this
   grind
def Xe(ops:Array Oper)(cls:Nat->Xc):List Nat->Array Bool->Bool
 |[],listed=>(Region.ready .any ops listed).isEmpty
 |i::l,listed=>(match ops[i]? with
  |some oi=>if (cls i).1 then Region.ready .any ops listed==[i] else (Region.ready .any ops listed).contains i&&(aa0 ops.size).all λj=>j==i||listed.getD j aae||(match ops[j]? with
   |some oj=>(oj.after.any λed=>Region.binds .any ed&&ed.on==i)||(oi.apart ops oj&&Tt (cls i) (cls j))
   |none=>aae)
  |none=>aaf)&&Xe ops cls l (listed.setIfInBounds i aae)
def TX(P:Program)(ops:Array Oper)(cls:Nat->Xc):List Nat->(Env->AH->Prop)->Env->AH->Prop
 |[],K,e,H=>K e H
 |i::l,K,e,H=>∃o,ops[i]?=aag o/\FU P o (rho e) H (cls i) λr H'=>TX P ops cls l K (ww e o.dst r) H'
theorem Lc{ops:Array Oper}{cls:Nat->Xc}{Q:Env->AH->Prop}:∀(l:List Nat)(listed:Array Bool)(e:Env)(H:AH),Xe ops cls l listed=aae->TX P ops cls l Q e H->Tu P ops cls Q l.length listed e H
 |[],listed,e,H,hc,h=>⟨by simpa [Xe] using hc,h⟩
 |i::l,listed,e,H,hc,h=>by
  obtain⟨oi,hi,hs⟩:=h;simp only[Xe,hi,bae] at hc;obtain⟨hc1,hc2⟩:=hc;generalize hci:cls i=ci at hc1 hs;obtain⟨b,F⟩:=ci
  cases b with
  |true=>
   simp_all
   refine⟨by grind,λj hj=>?_⟩;rw[hc1,List.mem_singleton] at hj;subst hj;exact⟨oi,hi,by rw[hci];exact FU.mono hs λr G hr=>Lc l _ _ _ hc2 hr⟩
  |false=>
   obtain⟨r,hF,hy,hK⟩:=hs;simp only[Bool.false_eq_true,if_false,bae,aby,dte,aaZ,abJ] at hc1;refine Oa hi hci l.length listed e H (λj oj hj hne hun hno=>?_) hc1.1 hF hy<|Lc l _ _ _ hc2 hK
   grind
theorem H3{nt:Nat}{ops:Array Oper}{cls:Nat->Xc}{Q:Exit->Env->AH->Prop}(hd:NS nt ops.toList=aae)(hg:ops.all (λo=>o.guard.isNone)=aae):∀(fuel:Nat)(listed:Array Bool)(e:Env)(H:AH),Tu P ops cls (Q .normal) fuel listed e H ->
  ∀(c c0:Cx)(a:Act),c.H=H->Ext c0 c->SRel c nt e a->wpAny P .any ops (WM nt c0 Q) fuel listed a c.w
 |0,listed,e,H,h,c,c0,a,hH,hx,hs=>⟨h.1,trivial,c,e,rfl,hx,hs,hH ▸ h.2⟩
 |fuel+1,listed,e,H,h,c,c0,a,hH,hx,hs=>by
  refine⟨λhr=>⟨trivial,c,e,rfl,hx,hs,hH ▸ h.1 hr⟩,λi hi=>?_⟩;obtain⟨o,ho,hst⟩:=h.2 i hi;have hm:o∈ops.toList:=by grind
  have hgn:o.guard=aah:=by
   rw[Array.all_eq_true] at hg;obtain⟨hlt,rfl⟩:=abz.1 ho
   simp_all
  have hw:Region.wanted o (yielded ops a.tmps)=aae:=by simp[Region.wanted,hgn]
  unfold wpOp;simp[ho];rw[if_pos hw];refine .inl<|hst.opG c a _ _ hH hs.heap (λx _=>hs.rho x) λv c' r hA hr' hx' hv=>?_;exact H3 hd hg fuel _ _ _ hA c' c0 _ rfl (hx.trans hx')<|hs.put o.dst (rC hd hm) hx' hr' hv
end
theorem EvA.mkZR{P:Program}{ρ:Operand->AV}{H:AH}{x y:Operand}{t e:TypeId}{ag:Bool}{w m:Nat}{zs:List AV}{a b:Int}{α:Type}(bl:Nat)(v:α)(q:SlT P t e ag w zs m)(hx:ρ x= .v (.int .i64 a))(hy:ρ y= .v (.int .i64 b))(hq:0<=a/\a<=b/\b*(m:Int)<=140737488355328/\b<=140737488355328)(hab:a=b)(hF:zs.all (isF 9)=aae)(hb:H[bl]?=aag aah) :
  EvA P ρ (.makeSlice t x y) H (hS aaf bl 0 w (aaY a.toNat v).length) (H.set bl<|bE aaf 0 w e<|aaY a.toNat zs):=λo ho=>by
 subst hab;rw[abu];have h:=IL (H:=H) q ho hx hy hq;refine h.at_ hb (λr hr z hz=>?_)<|.inl ⟨_,rfl,rfl⟩
 grind
theorem ZT.mkF0{P:Program}{ρ:Operand->AV}{t e:TypeId}{α:Type}[Inhabited α]{f:α->List AV}{ag:Bool}{w m:Nat}{zs:List AV}{parts:Array (Nat×Operand)}(q:SlT P t e ag w zs m)(hr:ma (parts.toList.map λp=>(ρ p.2).cells)=aag [[.nil]])(hn:(aaX 0 w&&aaW (1*w) 16777216&&(parts.toList.map (·.1)==aa0 1))=aae)(hw:w=1) :
  ZT P ρ (.buildSlice t 1 parts) (eL (cL f) [([]:List α)]):=by
 simp only[bae,beq_iff_eq] at hn;have hz:=P6 q.z (q.zl.trans q.ty.cells.symm);refine .newF ⟨0,_,e,_⟩ (λb=>.hs b 0 (P.cellsOf e) 0 1) (λo ho G=>nY ho q.u hr (by rw[q.ty.cells];grind) (by rw[q.ty.cells];omega) hn.2 hz q.z.one (λrow hrow=>by
  obtain rfl:=List.mem_singleton.1 hrow;rw[q.ty.cells,hw]
  rfl)) λm G hG=>?_
 refine .hs (k:=⟨0,P.cellsOf e,e,[[.nil]]⟩) (aa1 _) (by grind) rfl rfl (by simp) (λi r hi hr=>?_) λi r j c d hi hr hc hd=>?_
 .obtain rfl:i=0:=by omega
  obtain rfl:=osl hr
  rfl
 obtain rfl:i=0:=by omega
 obtain rfl:=osl hr
 match j with
 |0=>
  obtain rfl:=osl hc;obtain rfl:=osl hd;exact .nil0
 |j+1=>grind
section
variable{P:Program}{nt b0:Nat}{Q:Exit->Env->AH->Prop}{e:Env}{H H':AH}{r:AV}
theorem T.drawX{i:Nat}{ops:Array Oper}(ord:List Nat)(cls:Nat->Xc)(hm:P.follows .mixedOrders=aae)(hg:ops.all (λo=>o.guard.isNone)=aae)(hc:(Xe ops cls ord (abd ops.size aaf)&&(ord.length==ops.size))=aae)(h:TX P ops cls ord (Q .normal) e H):T P nt b0 (.region i ops aae) Q e H:=by
 intro hok c c0 a hH hb hx hs;simp[bae,beq_iff_eq] at hc;refine wp_region_any hm ?_;have hlex:=Lc ord (abd ops.size aaf) e H hc.1 h;have:=H3 hok hg ord.length _ e H hlex c.drew c0 a hH (hx.trans c.drew_ext) ⟨hs.size,hs.defers,λt=>(hs.rel t).ext hs.heap c.drew_ext,Cx.drew_rel hs.heap⟩;rw[hc.2] at this;exact this
variable{d:Tmp}{op:Op}{ty:TypeId}{pos:String}{af:Array Edge}{en:List (Nat×AV)}{cls:Nat->Xc}{ops:Array Oper}{i:Nat}{K:Env->AH->Prop}{l:List Nat}
theorem TX.nil(h:K e H):TX P ops cls [] K e H:=h
theorem xN(h0:ops[i]?=aag ⟨aag d,op,ty,pos,af,aah⟩)(hc:cls i=(aaf,[]))(hv:ZT P (rho<|ak en) op r)(h:TX P ops cls l K (ak ((d,r)::en)) H):TX P ops cls (i::l) K (ak en) H:=
 ⟨_,h0,by rw[hc];exact⟨r,by grind,λG _=>hv _ rfl G,h⟩⟩
theorem xR(F:List Nat)(h0:ops[i]?=aag ⟨aag d,op,ty,pos,af,aah⟩)(hc:cls i=(aaf,F))(hb:F.all (λb=>aaX b H.length)=aae)(hv:∀G,agr F G H->EvA P (rho<|ak en) op G r G)(h:TX P ops cls l K (ak ((d,r)::en)) H):TX P ops cls (i::l) K (ak en) H:=
 ⟨_,h0,by rw[hc];exact⟨r,λb hm=>nlb<|aaZ.1 hb b hm,λG hG=>hv G hG _ rfl,h⟩⟩
theorem xT{W:List Nat}{o:Oper}{R:AV->AH->Prop}{e:Env}(h0:ops[i]?=aag o)(hc:cls i=(aae,W))(hv:OpG P o (rho e) H R)(hk:∀r G,R r G->Ed W H G/\TX P ops cls l K (ww e o.dst r) G):TX P ops cls (i::l) K e H:=by
 refine⟨o,h0,?_⟩;rw[hc];exact OpG.mono hv hk
theorem xA{W:List Nat}(h0:ops[i]?=aag ⟨aag d,op,ty,pos,af,aah⟩)(hc:cls i=(aae,W))(hv:EvA P (rho<|ak en) op H r H')(hk:Ed W H H')(h:TX P ops cls l K (ak ((d,r)::en)) H'):TX P ops cls (i::l) K (ak en) H:=
 xT h0 hc (ZP.opG<|hv ⟨_,op,ty,_,af,_⟩ rfl) λr' G hG=>by obtain⟨e1,e2⟩:=hG;subst e1 e2;exact⟨hk,h⟩
theorem xV{W:List Nat}(h0:ops[i]?=aag ⟨aah,op,ty,pos,af,aah⟩)(hc:cls i=(aae,W))(hv:EvA P (rho<|ak en) op H r H')(hk:Ed W H H')(h:TX P ops cls l K (ak en) H'):TX P ops cls (i::l) K (ak en) H:=
 xT h0 hc (ZP.opG<|hv ⟨_,op,ty,_,af,_⟩ rfl) λr' G hG=>by obtain⟨e1,e2⟩:=hG;subst e1 e2;exact⟨hk,h⟩
end
def EqS(a b:AV):Prop:=∀(w:World)(fz:Nat->Prop)(v:Value),FRel w fz a v->FRel w fz b v
def Js:List AV->List AV->Prop
 |[],[]=>True
 |a::r,b::q=>EqS a b/\Js r q
 |_,_=>False
theorem EqS.refl(a:AV):EqS a a:=λ_ _ _ h=>h
theorem Js.refl:∀r:List AV,Js r r
 |[]=>trivial
 |a::r=>⟨EqS.refl a,Js.refl r⟩
theorem Js.len:∀{r q:List AV},Js r q->r.length=q.length
 |[],[],_=>rfl
 |a::r,b::q,h=>by rw[llc,llc,Js.len h.2]
 |[],_::_,h=>h.elim
 |_::_,[],h=>h.elim
theorem Js.get:∀{r q:List AV},Js r q->∀{j:Nat}{b:AV},q[j]?=aag b->∃a,r[j]?=aag a/\EqS a b
 |[],[],_,j,b,h=>by grind
 |a::r,b::q,h,0,c,hc=>by
  simp[aa7,sie] at hc;subst hc;exact⟨a,rfl,h.1⟩
 |a::r,b::q,h,j+1,c,hc=>by
  exact h.2.get hc
 |[],_::_,h,_,_,_=>h.elim
 |_::_,[],h,_,_,_=>h.elim
theorem EqS.sl{n:Nat}{row row':Nat->List AV}(he:∀i,i<n->Js (row i) (row' i)):EqS (.sl n row) (.sl n row'):=λw fz v h=>by
 cases h with
 |@sl _ cap s g o _ a us hc hm ha hs hu h1 h3=>
  refine .sl (s:=s) us hc hm ha (λi hi=>?_) (λi j b hi hj=>?_) (λi j b hi hj=>?_) λi j b hi hj=>?_
  .rw[<- (he i hi).len];grind
  .obtain⟨a',ha',_⟩:=(he i hi).get hj
   grind
  .obtain⟨a',ha',_⟩:=(he i hi).get hj
   grind
  obtain⟨a',ha',e⟩:=(he i hi).get hj;exact e _ _ _<|h3 i j a' hi ha'
theorem EqS.fp{row row':List AV}(he:Js row row'){j:Nat}:EqS (.fp row j) (.fp row' j):=λw fz v h=>by
 cases h with
 |fp us hg hlt hu h1 h3=>
  refine .fp us hg hlt (λj b hj=>?_) (λj b hj=>?_) λj b hj=>?_
  .obtain⟨a',ha',_⟩:=he.get hj
   grind
  .obtain⟨a',ha',_⟩:=he.get hj
   grind
  obtain⟨a',ha',e⟩:=he.get hj;exact e _ _ _<|h3 j a' ha'
theorem Vz{c:Cx}{n:Nat}{row:Nat->List AV}{b:AV}{v:Value}(he:EqS (.sl n row) b)(h:c.rel (.sl n row) v):c.rel b v:=.fr<|he _ _ _<|xH h
theorem vP{c:Cx}{row row':List AV}{v:Value}{j:Nat}(he:Js row row')(h:c.rel (.fp row j) v):c.rel (.fp row' j) v:=.fr<|EqS.fp he _ _ _<|xI h
theorem EqS.eL{α β:Type}[Inhabited α][Inhabited β]{f:α->List AV}{g:β->List AV}{i:α->β}(h:∀x,Js (f x)<|g<|i x)(l:List α):EqS (eL f l) (eL g<|l.map i):=by
 unfold Go.Proofs.YtoagamanbofngaaGreatDoor.eL;rw[llm];refine .sl λk hk=>?_
 grind
theorem CO{α β:Type}[Inhabited α][Inhabited β]{f:α->List AV}{g:β->List AV}{i:α->β}{c:Cx}{v:Value}(h:∀x,Js (f x)<|g<|i x){l:List α}(hv:c.rel (eL f l) v):c.rel (eL g<|l.map i) v:=Vz (EqS.eL h l) hv
theorem row_in{α:Type}[Inhabited α]{f:α->List AV}{r:List α->Nat->List AV}(h0:∀x l,r (x::l) 0=f x)(h1:∀x l i,r (x::l) (i+1)=r l i):∀(l:List α)(i:Nat),i<l.length->r l i=f (l.getD i aad)
 |[],i,h=>by grind
 |x::l,0,_=>h0 x l
 |x::l,i+1,h=>by
  rw[h1,row_in h0 h1 l i (by grind)]
  rfl
theorem EqS.slr{α:Type}[Inhabited α]{f:α->List AV}{r:List α->Nat->List AV}(h0:∀x l,r (x::l) 0=f x)(h1:∀x l i,r (x::l) (i+1)=r l i)(l:List α):EqS (.sl l.length<|r l) (Go.Proofs.YtoagamanbofngaaGreatDoor.eL f l):=
 .sl λi hi=>by rw[row_in h0 h1 l i hi];exact Js.refl _
theorem EqS.slr'{α:Type}[Inhabited α]{f:α->List AV}{r:List α->Nat->List AV}(h0:∀x l,r (x::l) 0=f x)(h1:∀x l i,r (x::l) (i+1)=r l i)(l:List α):EqS (Go.Proofs.YtoagamanbofngaaGreatDoor.eL f l) (.sl l.length<|r l):=
 .sl λi hi=>by rw[row_in h0 h1 l i hi];exact Js.refl _
theorem zrC{a a':AV}{zs zr:List AV}(h:∀(cx:Cx)(v:Value),cx.rel a v->cx.rel a' v)(t:ZrR zs zr):ZrR (a::zs) (a'::zr):=⟨by rw[llc,llc,t.1],λcx j b b' v hb hb' hr=>by
 match j with
 |0=>
  grind
 |j+1=>exact t.2 cx j b b' v (by grind) (by grind) hr⟩
section
variable{P:Program}{ρ:Operand->AV}{x:Operand}{t e:TypeId}{ag:Bool}
theorem ZT.slG{α:Type}[Inhabited α]{c:α->List AV}(l:List α){n w:Nat}{row:List AV}(hu:P.underlying t=aag (.array n e))(ty:TyF P e ag w)(hx:ρ x= .fp row 0)(hl:l.length=n)(hn:(aaW n 16777216)=aae)(hr:row.length=n*w/\∀i,i<n->(row.drop<|i*w).take w=c (l.getD i aad)) :
  ZT P ρ (.slice t x aah aah aah) (eL c l):=by
 have hn':=nlb hn;have key:ZT P ρ (.slice t x aah aah aah) (.sl n λi=>(row.drop<|0+i*w).take w):=.mk λK hK=>by
  show Bc P ρ (.slice t x aah aah aah) K;simp only[Bc,Ag,hu,hx,Option.map_none];rw[ty.cells];exact⟨⟨by omega,by omega,by omega,by omega,ty.info,by omega⟩,hK⟩
 refine key.res λC v hv=>?_;unfold Go.Proofs.YtoagamanbofngaaGreatDoor.eL;rw[hl];exact JP (by grind) hv
end
open Go.RowKit
def Fq:List BA:=[(⟨#[112,111]⟩:BA),(⟨#[108,111,99]⟩:BA),(⟨#[101,120,116]⟩:BA),(⟨#[114,102]⟩:BA),(⟨#[99,111]⟩:BA),(⟨#[102,114]⟩:BA),(⟨#[102,101,110,99,101]⟩:BA),(⟨#[119,114]⟩:BA),(⟨#[119,119]⟩:BA),(⟨#[105,100]⟩:BA)]
def Zd:List AV:=[St (⟨#[112,111]⟩:BA),St (⟨#[108,111,99]⟩:BA),St (⟨#[101,120,116]⟩:BA),St (⟨#[114,102]⟩:BA),St (⟨#[99,111]⟩:BA),St (⟨#[102,114]⟩:BA),St (⟨#[102,101,110,99,101]⟩:BA),St (⟨#[119,114]⟩:BA),St (⟨#[119,119]⟩:BA),St (⟨#[105,100]⟩:BA)]
theorem Tv:Zd.length=10*1/\∀i,i<10->(Zd.drop (i*1)).take 1=cS (Fq.getD i aad):=⟨rfl,λi h=>by
 match i,h with
 |0,_=>rfl
 |1,_=>rfl
 |2,_=>rfl
 |3,_=>rfl
 |4,_=>rfl
 |5,_=>rfl
 |6,_=>rfl
 |7,_=>rfl
 |8,_=>rfl
 |9,_=>rfl
 |q+10,h=>exact absurd h (Nat.not_lt.2 (Nat.le_add_left 10 q))⟩
structure ZW where
 Op:Int
 Loc:Int
 Reg:Int
 Val:Int
instance:Inhabited ZW:=⟨⟨aad,aad,aad,aad⟩⟩
def ZW.c(x:ZW):List AV:=[I x.Op,I x.Loc,I x.Reg,I x.Val]
theorem ZW.len(x:ZW):(ZW.c x).length=4:=rfl
theorem ZW.isF(x:ZW):(ZW.c x).all (isF 9)=aae:=rfl
structure ZX where
 From:LI
 Order:LL
instance:Inhabited ZX:=⟨⟨aad,aad⟩⟩
def ZX.c(x:ZX):List AV:=[eL cI x.From,eL (cL cI) x.Order]
theorem ZX.len(x:ZX):(ZX.c x).length=2:=rfl
theorem ZX.isF(x:ZX):(ZX.c x).all (isF 9)=aae:=rfl
structure ZY where
 Thread:Int
 Index:Int
 Loc:Int
 Reads:Bool
 aP:Bool
instance:Inhabited ZY:=⟨⟨aad,aad,aad,aad,aad⟩⟩
def ZY.c(x:ZY):List AV:=[I x.Thread,I x.Index,I x.Loc,Bo x.Reads,Bo x.aP]
theorem ZY.len(x:ZY):(ZY.c x).length=5:=rfl
theorem ZY.isF(x:ZY):(ZY.c x).all (isF 9)=aae:=rfl
structure aG where
 p:List (List ZW)
 x:ZX
 events:List ZY
 values:LI
 busy:List Bool
structure XV_impl_valuer where
 p:List (List ZW)
 x:ZX
 events:List ZY
instance:Inhabited XV_impl_valuer:=⟨⟨aad,aad,aad⟩⟩
def XV_impl_valuer.c(x:XV_impl_valuer):List AV:=[eL (cL ZW.c) x.p,eL cI x.x.From,eL (cL cI) x.x.Order,eL ZY.c x.events]
theorem XV_impl_valuer.len(x:XV_impl_valuer):(XV_impl_valuer.c x).length=4:=rfl
theorem XV_impl_valuer.isF(x:XV_impl_valuer):(XV_impl_valuer.c x).all (isF 9)=aae:=rfl
inductive ZTE where
 |mk (Op:Int) (Name:BA) (Kids:List ZTE)
structure aa where
 Op:Int
 Name:BA
 Kids:List ZTE
instance:Inhabited ZTE:=⟨.mk aad aad []⟩
instance:Inhabited aa:=⟨⟨aad,aad,[]⟩⟩
def ZTE.out:ZTE->aa
 | .mk a0 a1 a2=>⟨a0,a1,a2⟩
def aa.inn(x:aa):ZTE:=.mk x.Op x.Name x.Kids
mutual
def ZTE.c:ZTE->List AV
 | .mk a0 a1 a2=>[I a0,St a1,.sl a2.length (ZTE.r a2)]
def ZTE.r:List ZTE->Nat->List AV
 |[]=>λ_=>[.nil,.nil,.nil]
 |x::l=>λi=>match i with
  |0=>ZTE.c x
  |i+1=>ZTE.r l i
end
theorem ZTE.len(x:ZTE):(ZTE.c x).length=3:=by
 cases x;simp only[ZTE.c];rfl
theorem ZTE.isF(x:ZTE):(ZTE.c x).all (isF 9)=aae:=by
 cases x;simp only[ZTE.c];rfl
theorem ZTE.r0(x:ZTE)(l:List ZTE):ZTE.r (x::l) 0=ZTE.c x:=by simp only[ZTE.r]
theorem ZTE.r1(x:ZTE)(l:List ZTE)(i:Nat):ZTE.r (x::l) (i+1)=ZTE.r l i:=by simp only[ZTE.r]
def aa.c(x:aa):List AV:=[I x.Op,St x.Name,eL ZTE.c x.Kids]
theorem aa.len(x:aa):(aa.c x).length=3:=rfl
theorem aa.isF(x:aa):(aa.c x).all (isF 9)=aae:=rfl
theorem ZTE.out_c(x:ZTE):Js (ZTE.c x) (aa.c x.out):=by
 cases x;simp only[ZTE.c];exact⟨EqS.refl _,⟨EqS.refl _,⟨EqS.slr ZTE.r0 ZTE.r1 _,trivial⟩⟩⟩
theorem aa.inn_c(x:aa):Js (aa.c x) (ZTE.c x.inn):=by
 cases x;simp only[aa.inn,ZTE.c];exact⟨EqS.refl _,⟨EqS.refl _,⟨EqS.slr' ZTE.r0 ZTE.r1 _,trivial⟩⟩⟩
structure ah where
 Kind:Int
 Expr:aa
instance:Inhabited ah:=⟨⟨aad,aad⟩⟩
def ah.c(x:ah):List AV:=[I x.Kind,I x.Expr.Op,St x.Expr.Name,eL ZTE.c x.Expr.Kids]
theorem ah.len(x:ah):(ah.c x).length=4:=rfl
theorem ah.isF(x:ah):(ah.c x).all (isF 9)=aae:=rfl
structure cg where
 states:Int
 gH:LL
instance:Inhabited cg:=⟨⟨aad,aad⟩⟩
def cg.c(x:cg):List AV:=[I x.states,eL (cL cI) x.gH]
theorem cg.len(x:cg):(cg.c x).length=2:=rfl
theorem cg.isF(x:cg):(cg.c x).all (isF 9)=aae:=rfl
structure ae where
 b:LI
 p:Int
instance:Inhabited ae:=⟨⟨aad,aad⟩⟩
def ae.c(x:ae):List AV:=[eL cY x.b,I x.p]
theorem ae.len(x:ae):(ae.c x).length=2:=rfl
theorem ae.isF(x:ae):(ae.c x).all (isF 9)=aae:=rfl
structure ZZ where
 at_:LI
 regs:LI
 mem:LI
 buf:LL
instance:Inhabited ZZ:=⟨⟨aad,aad,aad,aad⟩⟩
def ZZ.c(x:ZZ):List AV:=[eL cI x.at_,eL cI x.regs,eL cI x.mem,eL (cL cI) x.buf]
theorem ZZ.len(x:ZZ):(ZZ.c x).length=4:=rfl
theorem ZZ.isF(x:ZZ):(ZZ.c x).all (isF 9)=aae:=rfl
structure Z3b where
 x0:Int
 x1:Int
 x2:Int
instance:Inhabited Z3b:=⟨⟨aad,aad,aad⟩⟩
def Z3b.c(x:Z3b):List AV:=[Y x.x0,Y x.x1,Y x.x2]
theorem Z3b.len(x:Z3b):(Z3b.c x).length=3:=rfl
theorem Z3b.isF(x:Z3b):(Z3b.c x).all (isF 9)=aae:=rfl
def Z3b.get(a:Z3b)(q:Int):Int:=if q=0 then a.x0 else if q=1 then a.x1 else a.x2
def Z3b.set(a:Z3b)(q:Int)(v:Int):Z3b:=if q=0 then ⟨v,a.x1,a.x2⟩ else if q=1 then ⟨a.x0,v,a.x2⟩ else ⟨a.x0,a.x1,v⟩
structure Z33 where
 x0:Z3b
 x1:Z3b
 x2:Z3b
instance:Inhabited Z33:=⟨⟨aad,aad,aad⟩⟩
def Z33.c(x:Z33):List AV:=[Y x.x0.x0,Y x.x0.x1,Y x.x0.x2,Y x.x1.x0,Y x.x1.x1,Y x.x1.x2,Y x.x2.x0,Y x.x2.x1,Y x.x2.x2]
theorem Z33.len(x:Z33):(Z33.c x).length=9:=rfl
theorem Z33.isF(x:Z33):(Z33.c x).all (isF 9)=aae:=rfl
def Z33.get(a:Z33)(q:Int):Z3b:=if q=0 then a.x0 else if q=1 then a.x1 else a.x2
def Z33.set(a:Z33)(q:Int)(v:Z3b):Z33:=if q=0 then ⟨v,a.x1,a.x2⟩ else if q=1 then ⟨a.x0,v,a.x2⟩ else ⟨a.x0,a.x1,v⟩
structure ZVa where
 p:List (List ZW)
 pc:Z3b
 reg:Z33
 mem:Z3b
instance:Inhabited ZVa:=⟨⟨aad,aad,aad,aad⟩⟩
def ZVa.c(x:ZVa):List AV:=[eL (cL ZW.c) x.p,Y x.pc.x0,Y x.pc.x1,Y x.pc.x2,Y x.reg.x0.x0,Y x.reg.x0.x1,Y x.reg.x0.x2,Y x.reg.x1.x0,Y x.reg.x1.x1,Y x.reg.x1.x2,Y x.reg.x2.x0,Y x.reg.x2.x1,Y x.reg.x2.x2,Y x.mem.x0,Y x.mem.x1,Y x.mem.x2]
theorem ZVa.len(x:ZVa):(ZVa.c x).length=16:=rfl
theorem ZVa.isF(x:ZVa):(ZVa.c x).all (isF 9)=aae:=rfl

end
end Go.Proofs.YtoagamanbofngaaGreatDoor
