/- Texts joined. No conditions. -/
import Derived.Laws.BytesArg
import Derived.ChangeKeysEq
import Derived.Test.YtabfkkjdfhbngaaGreatDoorV2
namespace Go.Proofs.YtabfkkjdfhbngaaGreatDoor
noncomputable section
open _root_.Inhabited renaming default -> QW
open _root_.Bool renaming true -> QX
open _root_.Bool renaming false -> QY
open _root_.Option renaming some -> QZ
open _root_.Option renaming none -> Q0
open _root_.Decidable renaming decide -> Q3
open _root_.Nat renaming blt -> R6, ble -> R8, le_refl -> Sb, zero_add -> Sd, zero_le -> Sq, lt_or_ge -> Su, eq_of_beq_eq_true -> SC, ble_eq_true_of_le -> SG
open _root_.List renaming all_eq_true -> R7, range -> R9, getElem?_set_ne -> Sf, getElem?_cons_zero -> Sk, ext_getElem? -> Sn, range'_succ -> Sr, getElem?_map -> Ss, replicate -> Sw, mem_map -> Sy, getElem?_set_self -> SB, mem_of_getElem? -> SJ
open _root_.Option renaming map_some -> Sa, bind_some -> Sg, isSome_iff_exists -> SE
open _root_.BitVec renaming ofInt -> Sc
open _root_.Array renaming getElem?_eq_getElem -> Se, mem_toList_iff -> Si, mem_of_getElem? -> Sj, getElem?_toList -> Sv, replicate -> Sz, getElem?_eq_some_iff -> SA, getElem?_eq_none -> SD, getElem?_append_left -> SF, length_toList -> SI
theorem osi {α:Type} {a b:α} (h:QZ a=QZ b):a=b:=osl h
open Go.RowKit
def GJ (k:Env->AH->Prop) (Q:Exit->Env->AH->Prop):Exit->Env->AH->Prop:=λx e H=>match x with
 | .normal=>k e H
 | x=>Q x e H
def I0 (i:Nat) (Q:Exit->Env->AH->Prop):Exit->Env->AH->Prop:=λx e H=>match x with
 | .exit j=>bif Nat.beq j i then Q .normal e H else Q (.exit j) e H
 | x=>Q x e H
def T (P:Program) (nt b0:Nat) (code:Code) (Q:Exit->Env->AH->Prop) (e:Env) (H:AH):Prop:=
 codeOk nt code=QX->∀ (c c0:Cx) (a:Act),c.H=H->c0.H.length<=b0->Ext c0 c->SRel c nt e a->code.wp P (NF nt c0 Q) a c.w
def TO (P:Program) (nt b0:Nat) (ops:Array Oper) (l:List Oper) (Q:Exit->Env->AH->Prop) (e:Env) (H:AH):Prop:=
 Hy nt ops.toList=QX->∀ (k:Nat),(∀ j,l[j]? = ops[k+j]?)->k+l.length=ops.size->∀ (c c0:Cx) (a:Act),c.H=H->c0.H.length<=b0->Ext c0 c->SRel c nt e a->wpOps P ops (NF nt c0 Q) (List.range' k l.length) a c.w
section
variable {P:Program} {nt b0:Nat} {Q:Exit->Env->AH->Prop} {e e0:Env} {H H0:AH}
theorem T.skip (h:Q .normal e H):T P nt b0 .skip Q e H:=λ_ c c0 a hH _ hx hs=>wp_skip ⟨trivial,c,e,rfl,hx,hs,hH ▸ h⟩
theorem T.ret (h:Q .ret e H):T P nt b0 .ret Q e H:=λ_ c c0 a hH _ hx hs=>wp_ret ⟨trivial,c,e,rfl,hx,hs,hH ▸ h⟩
theorem T.exit {i:Nat} (h:Q (.exit i) e H):T P nt b0 (.exit i) Q e H:=λ_ c c0 a hH _ hx hs=>wp_exit ⟨trivial,c,e,rfl,hx,hs,hH ▸ h⟩
theorem T.cut {code:Code} (hs:dz b0 e H e0 H0) (h:T P nt b0 code Q e0 H0):T P nt b0 code Q e H:=by
 intro hok c c0 a hH hb hx hr;subst hH;obtain ⟨c',h4,h5,h6,h7⟩:=hs.state hx hr hb;rw [<- h4];exact h hok c' c0 a h7 hb h5 h6
theorem T.weak {code:Code} (hw:CV e e0) (h:T P nt b0 code Q e0 H):T P nt b0 code Q e H:=h.cut<|.inl ⟨rfl,hw⟩
theorem T.seq {x y:Code} (h:T P nt b0 x (GJ (T P nt b0 y Q) Q) e H):T P nt b0 (.seq x y) Q e H:=by
 intro hok c c0 a hH hb hx hr;simp only [codeOk,bae] at hok;refine wp_seq<|wp_mono (h hok.1 c c0 a hH hb hx hr) λex a' w' hl=>?_;obtain ⟨hg,c',e',rfl,hx',hs',hq⟩:=hl
 cases ex with
 | normal=>exact hq hok.2 c' c0 a' rfl hb hx' hs'
 | exit i=>exact ⟨hg,c',e',rfl,hx',hs',hq⟩
 | ret=>exact ⟨hg,c',e',rfl,hx',hs',hq⟩
 | _=>exact hg.elim
theorem T.reserve {code:Code} (h:T P nt b0 code Q e<|H++[Q0]):T P nt b0 code Q e H:=by
 intro hok c c0 a hH hb hx hr;subst hH;exact h hok c.res c0 a rfl hb (hx.trans c.res_ext) ⟨hr.size,hr.defers,λt=>(hr.rel t).ext hr.heap c.res_ext,Cx.res_heap hr.heap⟩
def Cut (b0:Nat) {S G:Type} (ok:S->Prop) (inv:S->G->Prop) (slots:S->G->List (Nat×AV)) (heap:S->G->AH) (e:Env) (H:AH):Prop:=
 ∃ s g,ok s/\inv s g/\dz b0 e H (ai<|slots s g) (heap s g)
theorem T.mono {code:Code} {Q':Exit->Env->AH->Prop} (h:T P nt b0 code Q e H) (hq:∀ x e H,Q x e H->∀ c c0:Cx,∀ a:Act,c.H=H->c0.H.length<=b0->Ext c0 c->SRel c nt e a->NF nt c0 Q' x a c.w) (hg:∀ x e H,Q x e H->Mt x):T P nt b0 code Q' e H:=by
 intro hok c c0 a hH hb hx hr;refine wp_mono (h hok c c0 a hH hb hx hr) λex a' w' ⟨hg',c',e',hw,hx',hs',hq'⟩ => ?_
 grind
theorem T.join {S G:Type} {x y:Code} (ok:S->Prop) (inv:S->G->Prop) (slots:S->G->List (Nat×AV)) (heap:S->G->AH)
  (J:∀ s g,ok s->inv s g->T P nt b0 y Q (ai<|slots s g) (heap s g)) (h:T P nt b0 x (GJ (Cut b0 ok inv slots heap) Q) e H):T P nt b0 (.seq x y) Q e H:=by
 intro hok c c0 a hH hb hx hr;simp only [codeOk,bae] at hok;refine wp_seq<|wp_mono (h hok.1 c c0 a hH hb hx hr) λex a' w' hl=>?_;obtain ⟨hg,c',e',rfl,hx',hs',hq⟩:=hl
 cases ex with
 | normal=>
  obtain ⟨s,g,h1,h2,h3⟩:=hq;obtain ⟨c2,h4,h5,h6,h7⟩:=h3.state hx' hs' hb;rw [<- h4];exact J s g h1 h2 hok.2 c2 c0 a' h7 hb h5 h6
 | exit i=>exact ⟨hg,c',e',rfl,hx',hs',hq⟩
 | ret=>exact ⟨hg,c',e',rfl,hx',hs',hq⟩
 | _=>exact hg.elim
theorem T.block {i:Nat} {x:Code} (h:T P nt b0 x (I0 i Q) e H):T P nt b0 (.block i x) Q e H:=by
 intro hok c c0 a hH hb hx hr;simp only [codeOk] at hok;refine wp_block<|wp_mono (h hok c c0 a hH hb hx hr) λex a' w' hl=>?_;obtain ⟨hg,c',e',rfl,hx',hs',hq⟩:=hl
 cases ex with
 | exit j=>
  simp only [I0] at hq;simp only [Exit.inBlock]
  cases hb:Nat.beq j i with
  | true=>
   rw [hb] at hq;rw [if_pos (SC hb)];exact ⟨trivial,c',e',rfl,hx',hs',hq⟩
  | false=>
   rw [hb] at hq;rw [if_neg (λhe=>by simp_all)];exact ⟨trivial,c',e',rfl,hx',hs',hq⟩
 | normal=>exact ⟨hg,c',e',rfl,hx',hs',hq⟩
 | ret=>exact ⟨hg,c',e',rfl,hx',hs',hq⟩
 | _=>exact hg.elim
theorem T.cond {q:Bool} {x:Operand} {t f:Code} (hc:rho e x = .v (.bool q)) (h1:q=QX->T P nt b0 t Q e H) (h2:q=QY->T P nt b0 f Q e H):T P nt b0 (.cond x t f) Q e H:=by
 intro hok c c0 a hH hb hx hr;simp only [codeOk,bae] at hok;have hrel:=hr.rho x;rw [hc] at hrel;have he:=(iR hrel).1
 cases q with
 | true=>exact wp_cond_true he (h1 rfl hok.1 c c0 a hH hb hx hr)
 | false=>exact wp_cond_false he (h2 rfl hok.2 c c0 a hH hb hx hr)
theorem T.region {i:Nat} {ops:Array Oper} (h:TO P nt b0 ops ops.toList Q e H):T P nt b0 (.region i ops QY) Q e H:=by
 intro hok c c0 a hH hb hx hr;simp only [codeOk] at hok;refine wp_region ?_;have := h hok 0 (λj=>by simp) (by simp) c c0 a hH hb hx hr;rw [List.range_eq_range'];omega
theorem TO.nil {ops:Array Oper} (h:Q .normal e H):TO P nt b0 ops [] Q e H:=by
 intro hd k hl hn c c0 a hH hb hx hr;simp only [List.length_nil,List.range'_zero,wpOps];exact ⟨trivial,c,e,rfl,hx,hr,hH ▸ h⟩
theorem TO.cut {ops:Array Oper} {l:List Oper} (hs:dz b0 e H e0 H0) (h:TO P nt b0 ops l Q e0 H0):TO P nt b0 ops l Q e H:=by
 intro hd k hl hn c c0 a hH hb hx hr;subst hH;obtain ⟨c',h4,h5,h6,h7⟩:=hs.state hx hr hb;rw [<- h4];exact h hd k hl hn c' c0 a h7 hb h5 h6
def EvA (P:Program) (ρ:Operand->AV) (op:Op) (H:AH) (r:AV) (H':AH):Prop:=∀ o:Oper,o.op=op->QC P o ρ H r H'
def QE (P:Program) (ρ:Operand->AV) (op:Op) (r:AV):Prop:=∀ o:Oper,o.op=op->∀ G,QC P o ρ G r G
theorem EvA.mk {ρ:Operand->AV} {op:Op} {r:AV} {H H':AH} (h:∀ K:AV->AH->Prop,K r H'->aop P ρ op H K):EvA P ρ op H r H':=λo ho=>by
 obtain ⟨r',H2,hop,hr',hH'⟩:=NW (o:=o) (K:=λr' H2=>r'=r/\H2=H') (by rw [ho];exact h _ ⟨rfl,rfl⟩)
 simp_all
theorem QE.mk {ρ:Operand->AV} {op:Op} {r:AV} (h:∀ K:AV->Prop,K r->NE P ρ op K):QE P ρ op r:=λo ho=>by
 obtain ⟨r',hop,hr'⟩:=Mr (o:=o) (K:=λr'=>r'=r) (by rw [ho];exact h _ rfl)
 simp_all
theorem QE.toA {ρ:Operand->AV} {op:Op} {r:AV} {H:AH} (h:QE P ρ op r):EvA P ρ op H r H:=λo ho=>h o ho H
theorem EJ {ops:Array Oper} {c:Cx} {a:Act} {j:Nat} {q:Bool} (hs:SRel c nt e a) (hq:dL ops.toList e j = .v (.bool q)):yielded ops a.tmps j=QZ q:=by
 unfold dL at hq
 split at hq
 ·rename_i d hd';rw [Sv] at hd';have hrel:=hs.rel d;rw [hq] at hrel;have := (iR hrel).1;unfold yielded;rw [hd'];simp only [Sg]
  by_cases hlt:d<a.tmps.size
  ·rw [Se hlt];have e2:a.tmps.getD d undef=a.tmps[d]:=by simp [hlt]
   rw [e2] at this;rw [this]
  have e2:a.tmps.getD d undef=undef:=by simp [hlt]
  rw [e2] at this
  cases this
 simp_all
theorem I1 {ops:Array Oper} {c:Cx} {a:Act} {j:Nat} (hs:SRel c nt e a) (hq:dL ops.toList e j = .tup []):yielded ops a.tmps j=Q0:=by
 unfold dL at hq
 split at hq
 ·rename_i d hd';rw [Sv] at hd';have hrel:=hs.rel d;rw [hq] at hrel;obtain ⟨us,h1,_⟩:=yO hrel;unfold yielded;rw [hd'];simp only [Sg]
  by_cases hlt:d<a.tmps.size
  ·rw [Se hlt];have e2:a.tmps.getD d undef=a.tmps[d]:=by simp [hlt]
   rw [e2] at h1;rw [h1]
  rw [SD (Nat.le_of_not_lt hlt)]
 simp_all
def yS (ops:Array Oper) (e:Env) (o:Oper) (w:Bool):Prop:=∀ (nt:Nat) (c:Cx) (a:Act),SRel c nt e a->Region.wanted o (yielded ops a.tmps)=w
theorem yS.free {ops:Array Oper} {o:Oper} (h:o.guard=Q0):yS ops e o QX:=λ_ _ _ _=>by simp [Region.wanted,h]
theorem yS.yes {ops:Array Oper} {o:Oper} {j:Nat} {b q:Bool} (h:o.guard=QZ (j,b)) (hy:dL ops.toList e j = .v (.bool q)) (hq:q=b):yS ops e o QX:=λ_ _ _ hs=>by
 subst hq;simp [Region.wanted,h,EJ hs hy]
theorem yS.no {ops:Array Oper} {o:Oper} {j:Nat} {b q:Bool} (h:o.guard=QZ (j,b)) (hy:dL ops.toList e j = .v (.bool q)) (hq:q = !b):yS ops e o QY:=λ_ _ _ hs=>by
 subst hq;simp only [Region.wanted,h,EJ hs hy]
 simp_all
theorem yS.un {ops:Array Oper} {o:Oper} {j:Nat} {b:Bool} (h:o.guard=QZ (j,b)) (hy:dL ops.toList e j = .tup []):yS ops e o QY:=λ_ _ _ hs=>by
 simp [Region.wanted,h,I1 hs hy]
theorem TO.run {ops:Array Oper} {o:Oper} {l:List Oper} {r:AV} {H':AH} (hw:yS ops e o QX) (hv:EvA P (rho e) o.op H r H') (h:TO P nt b0 ops l Q (sI e o.dst r) H'):TO P nt b0 ops (o::l) Q e H:=by
 intro hd k hl hn c c0 a hH hb hx hr;have h0:ops[k]? = QZ o:=by simpa using (hl 0).symm
 have ho:o∈ops.toList:=by rw [Si];exact Sj h0
 have hl':∀ j,l[j]? = ops[k+1+j]? := λj=>by have := hl<|j+1;grind
 simp only [llc] at hn;simp only [llc,Sr,wpOps,h0];rw [if_pos (hw nt c a hr)];refine .inl<|hv o rfl c a _ _ hH hr.heap (λx _=>hr.rho x) λv c' hH' hr' hx' hv=>?_;exact h hd (k+1) hl' (by omega) c' c0 _ hH' hb (hx.trans hx')<|hr.put o.dst (nR hd ho) hx' hr' hv
theorem TO.pass {ops:Array Oper} {o:Oper} {l:List Oper} (hw:yS ops e o QY) (h:TO P nt b0 ops l Q (sI e o.dst<|.tup []) H):TO P nt b0 ops (o::l) Q e H:=by
 intro hd k hl hn c c0 a hH hb hx hr;have h0:ops[k]? = QZ o:=by simpa using (hl 0).symm
 have ho:o∈ops.toList:=by rw [Si];exact Sj h0
 have hl':∀ j,l[j]? = ops[k+1+j]? := λj=>by have := hl<|j+1;grind
 simp only [llc] at hn;simp only [llc,Sr,wpOps,h0];rw [hw nt c a hr];exact h hd (k+1) hl' (by omega) c c0 _ hH hb hx<|hr.put o.dst (nR hd ho) (Ext.refl c) hr.heap<|.tup (vs:=#[]) rfl (λi q u hq=>by grind)
def TL (P:Program) (cls:Nat->Nat):Nat->List Oper->(Env->AH->Prop)->Env->AH->Prop
 | _,[],K,e,H=>K e H
 | k,o::rest,K,e,H=>∃ r H',Hw P (cls k) o (rho e) H r H'/\TL P cls (k+1) rest K (sI e o.dst r) H'
theorem TL.nil {cls:Nat->Nat} {k:Nat} {K:Env->AH->Prop} (h:K e H):TL P cls k [] K e H:=h
theorem TL.op1 {cls:Nat->Nat} {k:Nat} {K:Env->AH->Prop} {o:Oper} {l:List Oper} {r:AV} (hc:cls k=1) (hv:EvA P (rho e) o.op H r H) (h:TL P cls (k+1) l K (sI e o.dst r) H):TL P cls k (o::l) K e H:=
 ⟨r,H,.inr<|.inl ⟨hc,rfl,hv o rfl⟩,h⟩
def Ae {S E:Type} (step:S->Option (S ⊕ E)):Nat->S->Option E
 | 0,_=>Q0
 | n+1,s=>match step s with
  | none=>Q0
  | some (.inl s')=>Ae step n s'
  | some (.inr x)=>QZ x
theorem yT {S E:Type} {step:S->Option (S ⊕ E)} {x:E}:∀ (n m:Nat) (s:S),n<=m->Ae step n s=QZ x->Ae step m s=QZ x
 | 0,_,_,_,h=>by cases h
 | n+1,0,_,hle,_=>by omega
 | n+1,m+1,s,hle,h=>by
  simp only [Ae] at h ⊢
  split at h
  ·cases h
  ·exact yT n m _ (by omega) h
  omega
open Classical in
def aB {S E:Type} (step:S->Option (S ⊕ E)) (s:S):Option E:=if h:∃ x,∃ n,Ae step n s=QZ x then QZ h.choose else Q0
theorem yf {S E:Type} {step:S->Option (S ⊕ E)} {s:S} {x:E}:aB step s=QZ x↔∃ n,Ae step n s=QZ x:=by
 unfold aB
 constructor
 ·intro h
  split at h
  ·rename_i hx;injection h with h;rw [<- h];exact hx.choose_spec
  grind
 rintro ⟨n,h⟩;have hx:∃ x,∃ n,Ae step n s=QZ x:=⟨x,n,h⟩;rw [dif_pos hx];obtain ⟨m,hm⟩:=hx.choose_spec;have h1:=yT n (max n m) s (by omega) h;have h2:=yT m (max n m) s (by omega) hm
 simp_all
theorem yg {S E:Type} (step:S->Option (S ⊕ E)) (s:S):aB step s=(step s).bind λz=>match z with
  | .inl s'=>aB step s'
  | .inr x=>QZ x:=by
 apply Option.ext;intro x;rw [yf]
 constructor
 ·rintro ⟨n,h⟩
  cases n with
  | zero=>cases h
  | succ n=>
   simp only [Ae] at h
   split at h
   ·cases h
   ·rename_i s' hs;rw [hs];exact yf.2 ⟨n,h⟩
   simp_all
 intro h
 cases hs:step s with
 | none=>simp_all
 | some z=>
  rw [hs] at h
  cases z with
  | inl s'=>
   obtain ⟨n,hn⟩:=yf.1 h;exact ⟨n+1,by simp only [Ae,hs];exact hn⟩
  | inr y=>exact ⟨1,by simp only [Ae,hs];exact h⟩
theorem EK {S E:Type} {step:S->Option (S ⊕ E)} (st:Nat->S) (n:Nat) {x:E} (h:∀ i,i<n->step (st i)=QZ (.inl<|st<|i+1)) (hx:step (st n)=QZ (.inr x)):aB step (st 0)=QZ x:=by
 have key:∀ k i,i+k=n->aB step (st i)=QZ x:=by
  intro k
  induction k with
  | zero=>intro i hi;rw [yg,show i=n by omega,hx];rfl
  | succ k ih=>intro i hi;rw [yg,h i (by omega)];exact ih (i+1) (by omega)
 simp_all
def FL (b0:Nat) {S E G:Type} (inv:S->G->Prop) (slots:S->G->List (Nat×AV)) (heap:S->G->AH) (z:S ⊕ E) (e:Env) (H:AH):Prop:=∃ s g,z = .inl s/\inv s g/\dz b0 e H (ai<|slots s g) (heap s g)
def Leave {S E:Type} (Q:Exit->Env->AH->Prop) (x:E) (z:S ⊕ E):Exit->Env->AH->Prop:=λex e H=>∃ y,z = .inr y/\(y=x->Q ex e H)
theorem T.loop {S E G:Type} {body:Code} {x:E} (step:S->Option (S ⊕ E)) (inv:S->G->Prop) (slots:S->G->List (Nat×AV)) (heap:S->G->AH) {s0:S} (g0:G) (hx0:aB step s0=QZ x) (hi:inv s0 g0)
  (hs:dz b0 e H (ai<|slots s0 g0)<|heap s0 g0)
  (round:∀ s g z,step s=QZ z->inv s g->T P nt b0 body (GJ (FL b0 inv slots heap z)<|Leave Q x z) (ai<|slots s g) (heap s g)):T P nt b0 (.loop body) Q e H:=by
 refine T.cut hs ?_;intro hok c c0 a hH hb hx hr;simp only [codeOk] at hok;obtain ⟨n,hn⟩:=yf.1 hx0;refine HE (λn a w=>∃ c' s g,c'.w=w/\c'.H=heap s g/\Ext c0 c'/\SRel c' nt (ai<|slots s g) a/\inv s g/\Ae step n s=QZ x) (n:=n) ⟨c,s0,g0,rfl,hH,hx,hr,hi,hn⟩ λm a' w' ⟨c',s',g',hw',hH',hx',hs',hi',hm⟩ => ?_;subst hw'
 cases m with
 | zero=>cases hm
 | succ m=>
  simp only [Ae] at hm
  cases hst:step s' with
  | none=>simp_all
  | some z=>
   rw [hst] at hm;refine wp_mono (round s' g' z hst hi' hok c' c0 a' hH' hb hx' hs') λex a2 w2 hl=>?_;obtain ⟨hg,c2,e2,rfl,hx2,hs2,hq⟩:=hl;have other:∀ ex,Mt ex->ex ≠ .normal->GJ (FL b0 inv slots heap z) (Leave Q x z) ex e2 c2.H->Q ex e2 c2.H:=λex hg hne hq=>by
    have hq:Leave Q x z ex e2 c2.H:=by
     cases ex with
     | normal=>exact absurd rfl hne
     | _=>exact hq
    obtain ⟨y,rfl,hy⟩:=hq
    simp_all
   cases ex with
   | normal=>
    obtain ⟨s3,g3,rfl,hi3,hst3⟩:=hq;obtain ⟨c3,h4,h5,h6,h7⟩:=hst3.state hx2 hs2 hb;exact ⟨m,by omega,c3,s3,g3,h4,h7,h5,h6,hi3,hm⟩
   | exit i=>exact ⟨hg,c2,e2,rfl,hx2,hs2,other _ hg (by simp) hq⟩
   | ret=>exact ⟨hg,c2,e2,rfl,hx2,hs2,other _ hg (by simp) hq⟩
   | _=>exact hg.elim
end
open Go.RowKit
abbrev I (n:Int):AV := .v<|.int .i64 n
abbrev Bo (b:Bool):AV := .v<|.bool b
abbrev St (s:BA):AV := .v<|.string s
abbrev Y (n:Int):AV := .v<|.int .u8 n
def eL {α:Type} [Inhabited α] (f:α->List AV) (l:List α):AV := .sl l.length λi=>f<|l.getD i QW
structure TyF (P:Program) (t:TypeId) (ag:Bool) (n:Nat):Prop where
 ag:xL P t=ag
 und:(P.underlying t).isSome=QX
 cells:P.cellsOf t=n
 info:(P.info? t).isSome=QX
structure TyZ (P:Program) (t:TypeId) (zs:List AV):Prop where
 z:((P.info? t).bind (·.zero)).map dW=QZ zs
 one:((P.info? t).bind (·.zero)).map (λz=>oQ z.cells)=QZ QX
structure TyS (P:Program) (t:TypeId) (pl:List (Nat×Nat)):Prop where
 s:(match P.underlying t with
  | some (.struct fs)=>fs.toList.mapM (λf=>(P.info? f.type).map λi=>(f.offset,i.size))
  | _=>Q0)=QZ pl
def xb (ag:Bool) (n:Nat) (row:List AV) (j:Nat):Option AV:=match ag with
 | true=>if j+n<=row.length then QZ (.agg<|(row.drop j).take n) else Q0
 | false=>row[j]?
section
variable {P:Program} {ρ:Operand->AV} {H H':AH} {x y z:Operand} {a b c:AV} {t u:TypeId}
theorem QE.mv (a:AV) (h:ρ x=a):QE P ρ (.move x) a := .mk λK hK=>by
 show (ρ x).force K;rw [AV.force_iff,h];exact hK
theorem QE.asg (a:AV) (h:ρ x=a):QE P ρ (.assign x) a := .mk λK hK=>by
 show (ρ x).force K;rw [AV.force_iff,h];exact hK
theorem QE.pickT {q:Bool} (hc:ρ x = .v (.bool q)) (hq:q=QX) (a:AV) (h:ρ y=a):QE P ρ (.pick x y z) a := .mk λK hK=>by
 show xI P ρ (.pick x y z) K;subst hq;simp only [xI,hc];refine Br.yes rfl ?_;rw [AV.force_iff,h];exact hK
theorem QE.pickF {q:Bool} (hc:ρ x = .v (.bool q)) (hq:q=QY) (a:AV) (h:ρ z=a):QE P ρ (.pick x y z) a := .mk λK hK=>by
 show xI P ρ (.pick x y z) K;subst hq;simp only [xI,hc];refine Br.no rfl ?_;rw [AV.force_iff,h];exact hK
theorem QE.nilfp {row:List AV} {j:Nat} (h:ρ x = .fp row j):QE P ρ (.nilCheck x) (.fp row j) := .mk λK hK=>by
 show xI P ρ (.nilCheck x) K;simp only [xI,h];exact hK
theorem QE.nilhp {b q s i j:Nat} (h:ρ x = .hp b q s i j):QE P ρ (.nilCheck x) (.hp b q s i j) := .mk λK hK=>by
 show xI P ρ (.nilCheck x) K;simp only [xI,h];exact hK
theorem Bf {ag:Bool} {n:Nat} (ty:TyF P t ag n) {row:List AV} {j:Nat} {K:AV->Prop} (hp:xb ag n row j=QZ a) (hK:K a):apart P t row j K:=by
 unfold apart;rw [ty.ag]
 cases ag with
 | true=>
  simp only [xb] at hp
  split at hp
  ·rename_i hle;injection hp with hp;rw [ty.cells];refine Ck.intro (decide_eq_true hle) ?_;rw [sJ,hp];exact hK
  simp_all
 | false=>
  simp only [xb] at hp;simp only;have hd:row.drop j=a::row.drop (j+1):=by
   obtain ⟨hlt,h1⟩:=ges hp;rw [List.drop_eq_getElem_cons hlt,h1]
  rw [hd];simp only;have := ty.und
  split
  ·rw [AV.force_iff];exact hK
  simp_all
theorem QE.loadfp (a:AV) {ag:Bool} {n:Nat} (ty:TyF P t ag n) {row:List AV} {j:Nat} (h:ρ x = .fp row j) (hp:xb ag n row j=QZ a):QE P ρ (.load t x) a := .mk λK hK=>by
 show xI P ρ (.load t x) K;simp only [xI,h];exact Bf ty hp hK
section
variable {k:IntKind} {m n:Int}
theorem QE.add (hx:ρ x = .v (.int k m)) (hy:ρ y = .v (.int k n)) (hw:k.wrap (m+n)=m+n):QE P ρ (.binOp .add t x y u) (.v<|.int k<|m+n) := .mk λK hK=>by
 show p7 P .add t (ρ x) (ρ y) K;simp only [p7,hx,hy];exact Ck.intro (by simp) ⟨hw,hK⟩
theorem QE.sub (hx:ρ x = .v (.int k m)) (hy:ρ y = .v (.int k n)) (hw:k.wrap (m-n)=m-n):QE P ρ (.binOp .sub t x y u) (.v<|.int k<|m-n) := .mk λK hK=>by
 show p7 P .sub t (ρ x) (ρ y) K;simp only [p7,hx,hy];exact Ck.intro (by simp) ⟨hw,hK⟩
theorem QE.mul (hx:ρ x = .v (.int k m)) (hy:ρ y = .v (.int k n)) (hw:k.wrap (m*n)=m*n):QE P ρ (.binOp .mul t x y u) (.v<|.int k<|m*n) := .mk λK hK=>by
 show p7 P .mul t (ρ x) (ρ y) K;simp only [p7,hx,hy];exact Ck.intro (by simp) ⟨hw,hK⟩
theorem QE.quo (hx:ρ x = .v (.int k m)) (hy:ρ y = .v (.int k n)) (h0:n≠0) (hw:k.wrap (m.tdiv n)=m.tdiv n):QE P ρ (.binOp .quo t x y u) (.v<|.int k<|m.tdiv n) := .mk λK hK=>by
 show p7 P .quo t (ρ x) (ρ y) K;simp only [p7,hx,hy];exact Ck.intro (by simp) ⟨h0,hw,hK⟩
theorem QE.rem (hx:ρ x = .v (.int k m)) (hy:ρ y = .v (.int k n)) (h0:n≠0):QE P ρ (.binOp .rem t x y u) (.v<|.int k<|m.tmod n) := .mk λK hK=>by
 show p7 P .rem t (ρ x) (ρ y) K;simp only [p7,hx,hy];exact Ck.intro (by simp) ⟨h0,hK⟩
def fH (k:IntKind) (m n:Int):Int:=k.wrap ((Sc k.bits m&&&Sc k.bits n).toNat:Int)
def bOr (k:IntKind) (m n:Int):Int:=k.wrap ((Sc k.bits m|||Sc k.bits n).toNat:Int)
def N8 (k:IntKind) (m n:Int):Int:=k.wrap ((Sc k.bits m ^^^ Sc k.bits n).toNat:Int)
def mP (k:IntKind) (m n:Int):Int:=k.wrap ((Sc k.bits m &&& ~~~Sc k.bits n).toNat:Int)
def De (k:IntKind) (m n:Int):Int:=k.wrap<|m*2 ^ (min n.toNat k.bits)
def jw (k:IntKind) (m n:Int):Int:=m.fdiv<|2 ^ (min n.toNat k.bits)
theorem QE.band (hx:ρ x = .v (.int k m)) (hy:ρ y = .v (.int k n)):QE P ρ (.binOp .and t x y u) (.v<|.int k<|fH k m n) := .mk λK hK=>by
 show p7 P .and t (ρ x) (ρ y) K;simp only [p7,hx,hy];exact Ck.intro (by simp) hK
theorem QE.bor (hx:ρ x = .v (.int k m)) (hy:ρ y = .v (.int k n)):QE P ρ (.binOp .or t x y u) (.v<|.int k<|bOr k m n) := .mk λK hK=>by
 show p7 P .or t (ρ x) (ρ y) K;simp only [p7,hx,hy];exact Ck.intro (by simp) hK
theorem QE.bxor (hx:ρ x = .v (.int k m)) (hy:ρ y = .v (.int k n)):QE P ρ (.binOp .xor t x y u) (.v<|.int k<|N8 k m n) := .mk λK hK=>by
 show p7 P .xor t (ρ x) (ρ y) K;simp only [p7,hx,hy];exact Ck.intro (by simp) hK
theorem QE.bandNot (hx:ρ x = .v (.int k m)) (hy:ρ y = .v (.int k n)):QE P ρ (.binOp .andNot t x y u) (.v<|.int k<|mP k m n) := .mk λK hK=>by
 show p7 P .andNot t (ρ x) (ρ y) K;simp only [p7,hx,hy];exact Ck.intro (by simp) hK
theorem QE.shl {k':IntKind} (hx:ρ x = .v (.int k m)) (hy:ρ y = .v (.int k' n)) (h0:0<=n):QE P ρ (.binOp .shl t x y u) (.v<|.int k<|De k m n) := .mk λK hK=>by
 show p7 P .shl t (ρ x) (ρ y) K;simp only [p7,hx,hy];exact ⟨h0,hK⟩
theorem QE.shr {k':IntKind} (hx:ρ x = .v (.int k m)) (hy:ρ y = .v (.int k' n)) (h0:0<=n):QE P ρ (.binOp .shr t x y u) (.v<|.int k<|jw k m n) := .mk λK hK=>by
 show p7 P .shr t (ρ x) (ρ y) K;simp only [p7,hx,hy];exact ⟨h0,hK⟩
theorem QE.ieq (hx:ρ x = .v (.int k m)) (hy:ρ y = .v (.int k n)):QE P ρ (.binOp .eql t x y u) (.v<|.bool<|m==n) := .mk λK hK=>by
 show p7 P .eql t (ρ x) (ρ y) K;simp only [p7,hx,hy];exact Ck.intro (by simp) hK
theorem QE.ine (hx:ρ x = .v (.int k m)) (hy:ρ y = .v (.int k n)):QE P ρ (.binOp .neq t x y u) (.v<|.bool<|m != n) := .mk λK hK=>by
 show p7 P .neq t (ρ x) (ρ y) K;simp only [p7,hx,hy];exact Ck.intro (by simp) hK
theorem QE.ilt (hx:ρ x = .v (.int k m)) (hy:ρ y = .v (.int k n)):QE P ρ (.binOp .lss t x y u) (.v<|.bool<|Q3<|m<n) := .mk λK hK=>by
 show p7 P .lss t (ρ x) (ρ y) K;simp only [p7,hx,hy];exact Ck.intro (by simp) hK
theorem QE.ile (hx:ρ x = .v (.int k m)) (hy:ρ y = .v (.int k n)):QE P ρ (.binOp .leq t x y u) (.v<|.bool<|Q3<|m<=n) := .mk λK hK=>by
 show p7 P .leq t (ρ x) (ρ y) K;simp only [p7,hx,hy];exact Ck.intro (by simp) hK
theorem QE.igt (hx:ρ x = .v (.int k m)) (hy:ρ y = .v (.int k n)):QE P ρ (.binOp .gtr t x y u) (.v<|.bool<|Q3<|n<m) := .mk λK hK=>by
 show p7 P .gtr t (ρ x) (ρ y) K;simp only [p7,hx,hy];exact Ck.intro (by simp) hK
theorem QE.ige (hx:ρ x = .v (.int k m)) (hy:ρ y = .v (.int k n)):QE P ρ (.binOp .geq t x y u) (.v<|.bool<|Q3<|n<=m) := .mk λK hK=>by
 show p7 P .geq t (ρ x) (ρ y) K;simp only [p7,hx,hy];exact Ck.intro (by simp) hK
theorem QE.neg (hx:ρ x = .v (.int k m)) (hw:k.wrap (0-m)=0-m):QE P ρ (.unOp .neg t x) (.v<|.int k<|0-m) := .mk λK hK=>by
 show aun .neg (ρ x) K;simp only [aun,hx]
 simp_all
theorem QE.iconv {k':IntKind} {d:TypeId} (hs:(P.underlying t).isSome=QX) (hd:P.underlying d=QZ (.int k')) (hx:ρ x = .v (.int k m)) (hw:k'.wrap m=m):QE P ρ (.convert t d x) (.v<|.int k' m) := .mk λK hK=>by
 show Hl P t d (ρ x) K;obtain ⟨q,hq⟩:=SE.1 hs;simp only [Hl,hx,hd,hq]
 simp_all
end
theorem QE.sconv {d:TypeId} {s:BA} (hs:(P.underlying t).isSome=QX) (hd:P.underlying d=QZ .string) (hx:ρ x = .v (.string s)):QE P ρ (.convert t d x) (.v<|.string s) := .mk λK hK=>by
 show Hl P t d (ρ x) K;obtain ⟨q,hq⟩:=SE.1 hs;simp only [Hl,hx,hd,hq];exact hK
theorem QE.cat {s r:BA} (hx:ρ x = .v (.string s)) (hy:ρ y = .v (.string r)) (hn:s.size+r.size<=9223372036854775807):QE P ρ (.binOp .add t x y u) (.v<|.string<|s++r) := .mk λK hK=>by
 show p7 P .add t (ρ x) (ρ y) K;simp only [p7,hx,hy]
 simp_all
theorem QE.seq {s r:BA} (hx:ρ x = .v (.string s)) (hy:ρ y = .v (.string r)):QE P ρ (.binOp .eql t x y u) (.v<|.bool<|Q3<|s=r) := .mk λK hK=>by
 show p7 P .eql t (ρ x) (ρ y) K;simp only [p7,hx,hy];exact hK
theorem QE.sne {s r:BA} (hx:ρ x = .v (.string s)) (hy:ρ y = .v (.string r)):QE P ρ (.binOp .neq t x y u) (.v<|.bool<|!decide (s=r)) := .mk λK hK=>by
 show p7 P .neq t (ρ x) (ρ y) K;simp only [p7,hx,hy];exact hK
theorem QE.beq {p q:Bool} (ht:w9 P t=QX) (hx:ρ x = .v (.bool p)) (hy:ρ y = .v (.bool q)):QE P ρ (.binOp .eql t x y u) (.v<|.bool<|p==q) := .mk λK hK=>by
 show p7 P .eql t (ρ x) (ρ y) K;simp only [p7,hx,hy];exact Ck.intro ht hK
theorem QE.bne {p q:Bool} (ht:w9 P t=QX) (hx:ρ x = .v (.bool p)) (hy:ρ y = .v (.bool q)):QE P ρ (.binOp .neq t x y u) (.v<|.bool<|!(p==q)) := .mk λK hK=>by
 show p7 P .neq t (ρ x) (ρ y) K;simp only [p7,hx,hy];exact Ck.intro ht hK
theorem QE.not {p:Bool} (hx:ρ x = .v (.bool p)):QE P ρ (.unOp .not t x) (.v<|.bool !p) := .mk λK hK=>by
 show aun .not (ρ x) K;simp only [aun,hx];exact hK
theorem QE.fafp {fs:Array Field} {f:Nat} {fl:Field} {row:List AV} {j:Nat} (hu:P.underlying t=QZ (.struct fs)) (hf:fs[f]? = QZ fl) (hc:(P.cellsOf fl.type != 0)=QX) (hx:ρ x = .fp row j):QE P ρ (.fieldAddr t x f) (.fp row<|j+fl.offset) := .mk λK hK=>by
 show xI P ρ (.fieldAddr t x f) K;simp only [xI,hu,hf,hx];exact Ck.intro hc hK
theorem QE.fahp {fs:Array Field} {f:Nat} {fl:Field} {b v s i j:Nat} (hu:P.underlying t=QZ (.struct fs)) (hf:fs[f]? = QZ fl) (hc:(P.cellsOf fl.type != 0)=QX) (hx:ρ x = .hp b v s i j):QE P ρ (.fieldAddr t x f) (.hp b v s i<|j+fl.offset) := .mk λK hK=>by
 show xI P ρ (.fieldAddr t x f) K;simp only [xI,hu,hf,hx];exact Ck.intro hc hK
theorem QE.field (a:AV) {fs:Array Field} {f:Nat} {fl:Field} {cs:List AV} {ag:Bool} {n:Nat} (hu:P.underlying t=QZ (.struct fs)) (hf:fs[f]? = QZ fl) (ty:TyF P fl.type ag n) (hx:ρ x = .agg cs) (hp:xb ag n cs fl.offset=QZ a):QE P ρ (.field t x f) a := .mk λK hK=>by
 show xI P ρ (.field t x f) K;simp only [xI,hu,hf,hx];exact Bf ty hp hK
theorem QE.ixsl {e:TypeId} {ag:Bool} {w n:Nat} {row:Nat->List AV} {k:IntKind} {q:Int} (hu:P.underlying t=QZ (.slice e)) (ty:TyF P e ag w) (hx:ρ x = .sl n row) (hy:ρ y = .v (.int k q)) (hq:0<=q/\q<n) (hl:(row q.toNat).length=w) :
  QE P ρ (.indexAddr t x y) (.fp (row q.toNat) 0) := .mk λK hK=>by
 show fO P t (ρ x) (ρ y) K;simp only [fO,hu,hx,hy];refine ⟨hq,Ck.intro ?_ hK⟩;rw [hl,ty.cells,ty.info];simp
theorem QE.ixhs {e:TypeId} {ag:Bool} {w b ver off len:Nat} {k:IntKind} {q:Int} (hu:P.underlying t=QZ (.slice e)) (ty:TyF P e ag w) (hx:ρ x = .hs b ver w off len) (hy:ρ y = .v (.int k q)) (hq:0<=q/\q<len) :
  QE P ρ (.indexAddr t x y) (.hp b ver w (off+q.toNat) 0) := .mk λK hK=>by
 show fO P t (ρ x) (ρ y) K;simp only [fO,hu,hx,hy];refine ⟨hq,Ck.intro ?_ hK⟩;rw [ty.cells,ty.info];simp
theorem QE.ixst {s:BA} {k:IntKind} {q:Int} (hu:P.underlying t=QZ .string) (hx:ρ x = .v (.string s)) (hy:ρ y = .v (.int k q)) (hq:0<=q/\q<s.size):QE P ρ (.index t x y) (.v<|.int .u8 ((s.data.getD q.toNat 0).toNat:Int)) := .mk λK hK=>by
 show Ey P t (ρ x) (ρ y) K;simp only [Ey,hu,hx,hy]
 simp_all
def bnd (ρ:Operand->AV) (x:Option Operand) (d m:Int):Prop:=match x with
 | none=>d=m
 | some y=>∃ k,ρ y = .v (.int k m)
theorem bnd.no {d:Int}:bnd ρ Q0 d d:=rfl
theorem bnd.yes {d m:Int} {k:IntKind} (h:ρ y = .v (.int k m)):bnd ρ (QZ y) d m:=⟨k,h⟩
theorem wh {w:Option Operand} {d m:Int} {K:Int->Prop} (h:bnd ρ w d m) (hK:K m):bound (w.map ρ) d K:=by
 cases w with
 | none=>obtain rfl:=h;exact hK
 | some y=>
  obtain ⟨k,h⟩:=h;simp only [Sa,bound,h];exact hK
theorem QE.slst {s:BA} {lo hi:Option Operand} {l h:Int} (hu:P.underlying t=QZ .string) (hx:ρ x = .v (.string s)) (hl:bnd ρ lo 0 l) (hh:bnd ρ hi s.size h) (hq:0<=l/\l<=h/\h<=s.size):QE P ρ (.slice t x lo hi Q0) (.v<|.string<|s.extract l.toNat h.toNat) := .mk λK hK=>by
 show wO P t (ρ x) (lo.map ρ) (hi.map ρ) Q0 K;simp only [wO,hu,hx];exact wh hl<|wh hh ⟨hq,hK⟩
theorem QE.slsl {e:TypeId} {ag:Bool} {w n:Nat} {row:Nat->List AV} {lo hi:Option Operand} {l h:Int} (hu:P.underlying t=QZ (.slice e)) (ty:TyF P e ag w) (hx:ρ x = .sl n row) (hl:bnd ρ lo 0 l) (hh:bnd ρ hi n h) (hq:0<=l/\l<=h/\h<=n) (hr:∀ i,i<n->(row i).length=w) :
  QE P ρ (.slice t x lo hi Q0) (.sl (h.toNat-l.toNat) λi=>row<|i+l.toNat) := .mk λK hK=>by
 show wO P t (ρ x) (lo.map ρ) (hi.map ρ) Q0 K;simp only [wO,hu,hx];exact wh hl<|wh hh ⟨⟨hq.1,hq.2.1,hq.2.2,λi hi=>(hr i hi).trans ty.cells.symm,ty.info⟩,hK⟩
theorem QE.slhs {e:TypeId} {ag:Bool} {w b ver off n:Nat} {lo hi:Option Operand} {l h:Int} (hu:P.underlying t=QZ (.slice e)) (ty:TyF P e ag w) (hx:ρ x = .hs b ver w off n) (hl:bnd ρ lo 0 l) (hh:bnd ρ hi n h) (hq:0<=l/\l<=h/\h<=n) :
  QE P ρ (.slice t x lo hi Q0) (.hs b ver w (off+l.toNat)<|h.toNat-l.toNat) := .mk λK hK=>by
 show wO P t (ρ x) (lo.map ρ) (hi.map ρ) Q0 K;simp only [wO,hu,hx];exact wh hl<|wh hh ⟨⟨hq.1,hq.2.1,hq.2.2,ty.cells.symm,ty.info⟩,hK⟩
theorem QE.ext (a:AV) {xs:List AV} {i:Nat} (hx:ρ x = .tup xs) (hi:xs[i]? = QZ a):QE P ρ (.extract x i) a := .mk λK hK=>by
 show xI P ρ (.extract x i) K;obtain ⟨hlt,h1⟩:=ges hi;simp only [xI,hx];refine Ck.intro (decide_eq_true hlt) ?_;rw [AV.force_iff]
 simp_all
theorem QE.build (cs:List AV) {parts:Array (Nat×Operand)} {fs:Array Field} {zs:List AV} {pl:List (Nat×Nat)} {ps:List (Nat×AV)} (hu:P.underlying t=QZ (.struct fs)) (z:TyZ P t zs) (s:TyS P t pl) (hp:(parts.toList.map λp=>(p.1,ρ p.2))=ps) (hf:Bw (pl.toArray[·]?) zs ps=QZ cs) :
  QE P ρ (.build t parts) (.agg cs) := .mk λK hK=>by
 show Ez P t (parts.toList.map λp=>(p.1,ρ p.2)) K;rw [hp];have hz:=z.z;have ho:=z.one;have hs:=s.s
 cases hi:P.info? t with
 | none=>simp_all
 | some i=>
  rw [hi] at hz ho
  cases hzz:i.zero with
  | none=>simp_all
  | some zv=>
   simp only [Sg,hzz,Sa,sie] at hz ho;rw [hu] at hs;simp only at hs;simp only [Ez,hi,hu,hzz,hs,hz,hf];exact Ck.intro ho hK
theorem QE.mkfn {f:Fn} {first p6:Array Operand} (cs:List AV) (h0:(first.size==0)=QX) (hc:p6.toList.map ρ=cs):QE P ρ (.makeFunc f first p6) (.fn f cs) := .mk λK hK=>by
 show xI P ρ (.makeFunc f first p6) K;simp only [xI,hc];exact Ck.intro h0 hK
theorem QE.of_acallN {cl:Call} {r:AV} (hv:∀ f,cl.callee ≠ .value f) (h:∀ K:AV->Prop,K r->sK P ρ cl.callee cl.args.toList cl.argTypes.toList K):QE P ρ (.call cl) r := .mk λK hK=>by
 unfold NE;have h:=h K hK
 cases hc:cl.callee with
 | value f=>simp_all
 | invoke x m=>rw [hc] at h;simp only [hc];show sK P ρ cl.callee cl.args.toList cl.argTypes.toList K;simp_all
 | builtin f=>rw [hc] at h;simp only [hc];show sK P ρ cl.callee cl.args.toList cl.argTypes.toList K;simp_all
theorem QE.lensl {e:TypeId} {n:Nat} {row:Nat->List AV} (hu:P.underlying t=QZ (.slice e)) (hx:ρ x = .sl n row):QE P ρ (.call ⟨.builtin .len,#[x],#[t]⟩) (.v<|.int .i64 n) := .of_acallN (by simp) λK hK=>by
 simp only [sK,hu,hx];exact hK
theorem QE.lenhs {e:TypeId} {b v s o n:Nat} (hu:P.underlying t=QZ (.slice e)) (hx:ρ x = .hs b v s o n):QE P ρ (.call ⟨.builtin .len,#[x],#[t]⟩) (.v<|.int .i64 n) := .of_acallN (by simp) λK hK=>by
 simp only [sK,hu,hx];exact hK
theorem QE.lennil {e:TypeId} (hu:P.underlying t=QZ (.slice e)) (hx:ρ x = .nil):QE P ρ (.call ⟨.builtin .len,#[x],#[t]⟩) (.v<|.int .i64 0) := .of_acallN (by simp) λK hK=>by
 simp only [sK,hu,hx];exact hK
theorem QE.lenst {s:BA} (hu:P.underlying t=QZ .string) (hx:ρ x = .v (.string s)):QE P ρ (.call ⟨.builtin .len,#[x],#[t]⟩) (.v<|.int .i64 s.size) := .of_acallN (by simp) λK hK=>by
 simp only [sK,hu,hx];exact hK
theorem QE.min {k k':IntKind} {m n:Int} {ts:Array TypeId} (hx:ρ x = .v (.int k m)) (hy:ρ y = .v (.int k' n)):QE P ρ (.call ⟨.builtin .min,#[x,y],ts⟩) (.v<|.int k<|if n<m then n else m) := .of_acallN (by simp) λK hK=>by
 simp only [sK,hx,hy];exact hK
theorem QE.max {k k':IntKind} {m n:Int} {ts:Array TypeId} (hx:ρ x = .v (.int k m)) (hy:ρ y = .v (.int k' n)):QE P ρ (.call ⟨.builtin .max,#[x,y],ts⟩) (.v<|.int k<|if n>m then n else m) := .of_acallN (by simp) λK hK=>by
 simp only [sK,hx,hy];exact hK
theorem EvA.call {cl:Call} {f:Operand} {g:FuncId} {p6 QV:List AV} {r:AV} (hc:cl.callee = .value f) (hf:ρ f = .fn (.func g) p6) (ha:cl.args.toList.map ρ++p6=QV) (h:dX P g QV H r H'):EvA P ρ (.call cl) H r H' := .mk λK hK=>by
 unfold aop;simp only [hc,hf,ha];exact .intro h hK
theorem QE.call {cl:Call} {f:Operand} {g:FuncId} {p6 QV:List AV} {r:AV} (hc:cl.callee = .value f) (hf:ρ f = .fn (.func g) p6) (ha:cl.args.toList.map ρ++p6=QV) (h:ax P g QV r) (hF:QV.all (isF 9)=QX):QE P ρ (.call cl) r := .mk λK hK=>by
 unfold NE;simp only [hc,hf,ha];exact .intro (λH=>h.acall hF H) hK
theorem EvA.alloc {zs:List AV} (z:TyZ P t zs) (hn:(R6 0 zs.length)=QX):EvA P ρ (.alloc t) H (.hp H.length 0 zs.length 0 0) (H++[QZ ⟨0,zs.length,t,[zs]⟩]) := .mk λK hK=>by
 show Fx P ρ (.alloc t) H K;have hz:=z.z;have ho:=z.one
 cases hi:P.info? t with
 | none=>simp_all
 | some i=>
  rw [hi] at hz ho
  cases hzz:i.zero with
  | none=>simp_all
  | some zv=>
   simp only [Sg,hzz,Sa,sie] at hz ho;simp only [Fx,hi,hzz,hz];refine Ck.intro ?_ hK
   simp_all
theorem EvA.box {cs:List AV} (hx:(ρ x).cells=QZ cs) (hn:(R6 0 cs.length)=QX):EvA P ρ (.box t x) H (.hp H.length 0 cs.length 0 0) (H++[QZ ⟨0,cs.length,t,[cs]⟩]) := .mk λK hK=>by
 show Fx P ρ (.box t x) H K;simp only [Fx,hx];exact Ck.intro (decide_eq_true<|nlb hn) hK
theorem EvA.bslice {e:TypeId} {w n:Nat} {ag:Bool} {zs:List AV} {parts:Array (Nat×Operand)} (hu:P.underlying t=QZ (.slice e)) (ty:TyF P e ag w) (z:TyZ P e zs) (hzl:zs.length=w) (rows:List<|List AV) (hr:kQ (parts.toList.map λp=>(ρ p.2).cells)=QZ rows)
  (hn:(R6 0 w&&R8 (n*w) 16777216&&(parts.toList.map (·.1)==R9 n))=QX) (hl:rows.all (λrow=>row.length==w)=QX) :
  EvA P ρ (.buildSlice t n parts) H (.hs H.length 0 w 0 n) (H++[QZ ⟨0,w,e,rows⟩]) := .mk λK hK=>by
 show Fx P ρ (.buildSlice t n parts) H K;have hz:=z.z;have ho:=z.one;simp only [bae] at hn;simp only [Fx,hu,hr];have hz1:((P.info? e).bind (·.zero)).map (λz=>z.cells.size)=QZ w:=by
  cases hb:(P.info? e).bind (·.zero) with
  | none=>rw [hb] at hz;cases hz
  | some zv=>
   rw [hb] at hz;simp only [Sa,sie] at hz ⊢;rw [<- hzl,<- hz];simp [dW]
 rw [ty.cells,hz1,ho];refine Ck.intro ?_ hK
 simp_all
theorem EvA.mslice {e:TypeId} {w:Nat} {ag:Bool} {zs:List AV} {l c:Int} (hu:P.underlying t=QZ (.slice e)) (ty:TyF P e ag w) (z:TyZ P e zs) (hzl:zs.length=w) (hw:(R6 0 w)=QX) (hx:ρ x = .v (.int .i64 l)) (hy:ρ y = .v (.int .i64 c)) (n:Nat) (hb:P.bytesOf e=n)
  (hq:0<=l/\l<=c/\c*(n:Int)<=140737488355328/\c<=140737488355328):EvA P ρ (.makeSlice t x y) H (.hs H.length 0 w 0 l.toNat) (H++[QZ ⟨0,w,e,Sw c.toNat zs⟩]) := .mk λK hK=>by
 show Fx P ρ (.makeSlice t x y) H K;have hz:=z.z;have ho:=z.one
 cases hi:(P.info? e).bind (·.zero) with
 | none=>simp_all
 | some zv=>
  rw [hi] at hz ho;simp only [Sa,sie] at hz ho;simp only [Fx,hu,hx,hy,hi,hb];refine ⟨hq,?_⟩;rw [ty.cells,hz,hzl,ho];refine Ck.intro ?_ hK
  simp_all
theorem EvA.loadhp (a:AV) {ag:Bool} {n:Nat} (ty:TyF P t ag n) {b ver s i j:Nat} (h:ρ x = .hp b ver s i j) {k:ABlk} (hk:H[b]? = QZ (QZ k)) (hv:k.ver=ver) (hs:k.s=s) {row:List AV} (hr:k.rows[i]? = QZ row) (hp:xb ag n row j=QZ a):EvA P ρ (.load t x) H a H := .mk λK hK=>by
 show Fx P ρ (.load t x) H K;simp only [Fx,h,hk];obtain ⟨hlt,h1⟩:=ges hr;refine ⟨⟨hv,hs,hlt⟩,?_⟩;have : k.rows.getD i []=row:=by rw [<- h1];simp [hlt]
 rw [this];exact Bf ty hp hK
theorem EvA.store {ag:Bool} {n:Nat} (ty:TyF P t ag n) {b ver s i j:Nat} (hx:ρ x = .hp b ver s i j) {cs:List AV} (hy:(ρ y).cells=QZ cs) {k:ABlk} (hk:H[b]? = QZ (QZ k)) (hv:k.ver=ver) (hs:k.s=s) {row:List AV} (hr:k.rows[i]? = QZ row)
  (hl:cs.length=n) (hj:j+n<=s) (k':ABlk) (hk':{ k with rows:=k.rows.set i (splice row j cs) }=k'):EvA P ρ (.store t x y) H .top (H.set b<|QZ k') := .mk λK hK=>by
 show Fx P ρ (.store t x y) H K;simp only [Fx,hx,hy,hk];obtain ⟨hlt,h1⟩:=ges hr;refine ⟨⟨hv,hs,hlt,by omega⟩,?_⟩;rw [ty.cells,ty.info,hl];refine Ck.intro (by simp) ?_;have : k.rows.getD i []=row:=by rw [<- h1];simp [hlt]
 rw [sJ,this,hk'];exact hK
end
def gd {α:Type} (b:Bool) (x:Option α):Option α:=bif b then x else Q0
theorem tV {α:Type} {b:Bool} {x:Option α} (h:b=QX):gd b x=x:=by subst h;rfl
theorem gdL {α:Type} {b:Bool} {x:Option α} {r:α} (h:gd b x=QZ r):b=QX/\x=QZ r:=by
 cases b
 ·cases h
 exact ⟨rfl,h⟩
theorem gdD {α:Type} {A:Prop} [Decidable A] {x:Option α} {r:α} (h:gd (decide A) x=QZ r):A/\x=QZ r:=by
 obtain ⟨h1,h2⟩:=gdL h
 simp_all
def QF (k:IntKind) (n:Int):Bool:=Q3<|k.wrap n=n
theorem gdW {α:Type} {k:IntKind} {n:Int} {x:Option α} {r:α} (h:gd (QF k n) x=QZ r):k.wrap n=n/\x=QZ r:=gdD h
theorem LJ {n:Int} (h : -9223372036854775808<=n/\n<=9223372036854775807):QF .i64 n=QX:=decide_eq_true<|IntWalk.i64_in n h
theorem N9 {n:Int} (h:0<=n/\n<=255):QF .u8 n=QX:=decide_eq_true<|IntWalk.u8_in n h
theorem Oa {n:Int} (h:0<=n/\n<=18446744073709551615):QF .u64 n=QX:=decide_eq_true<|IntWalk.u64_in n h
theorem qg {α β:Type} {o:Option α} {k:α->Option β} {r:β} (h:o.bind k=QZ r):∃ x,o=QZ x/\k x=QZ r:=Option.bind_eq_some_iff.1 h
theorem Pt {α:Type} {b:Bool} {x y r:α} (hb:b=QX) (h:(bif b then x else y)=r):x=r:=by simp_all
theorem Pu {α:Type} {b:Bool} {x y r:α} (hb:b=QY) (h:(bif b then x else y)=r):y=r:=by simp_all
def hS (g:Bool) (b ver s n:Nat):AV:=bif g then .nil else .hs b ver s 0 n
def bE (g:Bool) (ver s:Nat) (ty:TypeId) (rows:List<|List AV):Option ABlk:=bif g then Q0 else QZ ⟨ver,s,ty,rows⟩
def bh (P:Program) (H:AH) (s:Nat) (a:AV) (news:List<|List AV):Prop:=∀ (c:Cx) (u:Value),c.H=H->HRel c->c.rel a u->∃ vs,SrcIs P c s u news vs
section
variable {P:Program} {ρ:Operand->AV} {H:AH} {x y:Operand} {t u e:TypeId} {s:Nat}
theorem bh.mk {a:AV} {news:List (List AV)} (h:∀ K:List (List AV)->Prop,K news->NT H P t s a K):bh P H s a news:=by
 obtain ⟨n2,hn,h2⟩:=IU<|h (λq=>q=news) rfl;subst hn;exact h2
theorem bh.nil:bh P H s .nil [] := .mk (t:=0) λ_ hK=>hK
theorem wR {α:Type} [Inhabited α] (f:α->List AV) (l:List α):(R9 l.length).map (λi=>f<|l.getD i QW)=l.map f:=by
 apply List.ext_getElem
 ·simp
 simp_all
theorem bh.eL {α:Type} [Inhabited α] {f:α->List AV} {l:List α} (hf:∀ x,(f x).length=s):bh P H s (eL f l) (l.map f) := .mk (t:=0) λK hK=>by
 show (∀ i,i<l.length->(f<|l.getD i QW).length=s)/\K ((R9 l.length).map λi=>f<|l.getD i QW);exact ⟨λi _=>hf _,by rw [wR];exact hK⟩
theorem bh.sl {n:Nat} {row:Nat->List AV} (hf:∀ i,i<n->(row i).length=s):bh P H s (.sl n row) ((R9 n).map row) := .mk (t:=0) λK hK=>⟨hf,hK⟩
theorem bh.own {b ver off n:Nat} {k:ABlk} (hk:H[b]? = QZ (QZ k)) (hv:k.ver=ver) (hs:k.s=s) (hn:off+n<=k.rows.length) {news:List (List AV)} (he:(k.rows.drop off).take n=news):bh P H s (.hs b ver s off n) news := .mk (t:=0) λK hK=>by
 simp only [NT,hk]
 simp_all
theorem bh.hS {g:Bool} {b ver n:Nat} {ty:TypeId} {rows:List (List AV)} (hk:H[b]? = QZ (bE g ver s ty rows)) (hn:n=rows.length) (hg:g=QX->rows=[]):bh P H s (hS g b ver s n) rows:=by
 cases g with
 | true=>rw [hg rfl];exact .nil
 | false=>subst hn;exact .own (k:=⟨ver,s,ty,rows⟩) hk rfl rfl (by simp) (by simp)
theorem MG {zs:List AV} (z:TyZ P e zs) (hl:zs.length=s):((P.info? e).bind (·.zero)).map (λz=>z.cells.size)=QZ s:=by
 have hz:=z.z
 cases hb:(P.info? e).bind (·.zero) with
 | none=>simp_all
 | some zv=>
  rw [hb] at hz;simp only [Sa,sie] at hz ⊢;rw [<- hl,<- hz];simp [dW]
theorem FM (h:Hm P u=QX):(∃ e2,P.underlying u=QZ (.slice e2))\/P.underlying u=QZ .string:=by
 unfold Hm at h
 grind
theorem GK {α:Type}:∀ (l:List α) (i:Nat) (x:α),l[i]? = QZ x->l.set i x=l
 | [],_,_,_=>rfl
 | a::l,0,x,h=>by
  simp_all
 | a::l,i+1,x,h=>by
  simp only [List.getElem?_cons_succ] at h;simp [GK l i x h]
theorem EvA.appv {g:Bool} {b ver n m:Nat} {ag:Bool} {zs:List AV} {rows news:List (List AV)} (hu:P.underlying t=QZ (.slice e)) (hv:Hm P u=QX) (ty:TyF P e ag s) (z:TyZ P e zs) (hzl:zs.length=s) (hs:(R6 0 s)=QX)
  (hx:ρ x=Go.Proofs.YtabfkkjdfhbngaaGreatDoor.hS g b ver s n) (hk:H[b]? = QZ (bE g ver s e rows)) (hn:n=rows.length) (hg:g=QX->rows=[]) (hsrc:bh P H s (ρ y) news) (hm:P.bytesOf e=m) (hb1:(n+news.length)*m<=35184372088832) (hb2:n+news.length<=35184372088832) :
  EvA P ρ (.call ⟨.builtin .append,#[x,y],#[t,u]⟩) H (Go.Proofs.YtabfkkjdfhbngaaGreatDoor.hS (g&&news.isEmpty) b (ver+1) s<|n+news.length) (H.set b<|bE (g&&news.isEmpty) (ver+1) s e<|rows++news):=λo ho=>by
 have hpos:0<P.cellsOf e:=by rw [ty.cells];exact nlb hs
 have hz:=MG z<|hzl.trans ty.cells.symm;rw [<- ty.cells] at hsrc hx hk ⊢
 cases g with
 | false=>
  have h:=BM (o:=o) (P:=P) (ρ:=ρ) (H:=H) (k:=⟨ver,P.cellsOf e,e,rows⟩) (off:=0) (len:=n) (news:=news) ho rfl rfl rfl hu (FM hv) hx hk rfl rfl rfl (by grind) rfl hz (by simp_all) hb2 hsrc;have e1:(List.drop 0 rows).take n=rows:=by subst hn;simp
  simp only [e1] at h;exact h
 | true=>
  have hr:=hg rfl;subst hr;subst hn;simp only [List.length_nil,Sd] at hb1 hb2 ⊢
  cases news with
  | nil=>
   have h:=z6 (o:=o) (P:=P) (ρ:=ρ) (H:=H) ho rfl rfl rfl hu (FM hv) hx hz rfl hsrc;have e2:H.set b (bE (QX&&([]:List<|List AV).isEmpty) (ver+1) (P.cellsOf e) e<|[]++[])=H:=GK _ _ _ hk;rw [e2];exact h
  | cons a l=>
   exact FJ (o:=o) (P:=P) (ρ:=ρ) (H:=H) (ver:=ver+1) hk ho rfl rfl rfl hu (FM hv) hx hpos hz (by simp_all) hb2 (by simp) hsrc
theorem EvA.app {g:Bool} {b ver n m:Nat} {ag:Bool} {zs:List AV} {rows rows':List (List AV)} {a:List AV} {news:List (List AV)} (hu:P.underlying t=QZ (.slice e)) (hv:Hm P u=QX) (ty:TyF P e ag s) (z:TyZ P e zs) (hzl:zs.length=s) (hs:(R6 0 s)=QX)
  (hx:ρ x=Go.Proofs.YtabfkkjdfhbngaaGreatDoor.hS g b ver s n) (hk:H[b]? = QZ (bE g ver s e rows)) (hn:n=rows.length) (hg:g=QX->rows=[]) (hsrc:bh P H s (ρ y) (a::news)) (hm:P.bytesOf e=m) (hb1:(n+(a::news).length)*m<=35184372088832) (hb2:n+(a::news).length<=35184372088832)
  (hr:rows++(a::news)=rows') {n':Nat} (hn':n+(a::news).length=n') :
  EvA P ρ (.call ⟨.builtin .append,#[x,y],#[t,u]⟩) H (Go.Proofs.YtabfkkjdfhbngaaGreatDoor.hS QY b (ver+1) s n') (H.set b<|bE QY (ver+1) s e rows'):=by
 have h:=EvA.appv (P:=P) (ρ:=ρ) (x:=x) (y:=y) hu hv ty z hzl hs hx hk hn hg hsrc hm hb1 hb2
 simp_all
theorem QE.lenhS {g:Bool} {b v s n:Nat} (hu:P.underlying t=QZ (.slice e)) (hx:ρ x=Go.Proofs.YtabfkkjdfhbngaaGreatDoor.hS g b v s n) (hg:g=QX->n=0):QE P ρ (.call ⟨.builtin .len,#[x],#[t]⟩) (.v<|.int .i64 n):=by
 cases g with
 | true=>rw [hg rfl];exact QE.lennil hu hx
 | false=>exact QE.lenhs hu hx
theorem QE.ixhS {g:Bool} {ag:Bool} {w b ver len:Nat} {k:IntKind} {q:Int} (hu:P.underlying t=QZ (.slice e)) (ty:TyF P e ag w) (hx:ρ x=Go.Proofs.YtabfkkjdfhbngaaGreatDoor.hS g b ver w len) (hy:ρ y = .v (.int k q)) (hg:g=QX->len=0) (hq:0<=q/\q<len) :
  QE P ρ (.indexAddr t x y) (.hp b ver w q.toNat 0):=by
 cases g with
 | true=>grind
 | false=>have h:=QE.ixhs (P:=P) (ρ:=ρ) hu ty hx hy hq;simp_all
end
section
variable {m:Nat} {H:AH} {e:Env}
theorem yU:∀ (n:Nat) (m:Nat) (a:AV),isF n a=QX->FI n m a=QX
 | 0,_,_,h=>by cases h
 | n+1,m,a,h=>by
  cases a with
  | agg cs=>simp only [isF,FI,R7] at h ⊢;exact λc hc=>yU n m c<|h c hc
  | tup cs=>simp only [isF,FI,R7] at h ⊢;exact λc hc=>yU n m c<|h c hc
  | fn f cs=>simp only [isF,FI,R7] at h ⊢;exact λc hc=>yU n m c<|h c hc
  | ifc t x=>simp only [isF,FI] at h ⊢;exact yU n m x h
  | hs=>cases h
  | hp=>cases h
  | mp=>cases h
  | top=>cases h
  | _=>rfl
theorem Fz.of_isF:∀ (n:Nat) (a:AV),isF n a=QX->Fz m H a a
 | 0,_,h=>by cases h
 | n+1,a,h=>by
  cases a with
  | v x=>exact .v
  | nil=>exact .nil
  | sl k row=>exact .sl λ_ _=>rfl
  | fp row j=>exact .fp
  | agg cs=>
   simp only [isF,R7] at h;exact .agg rfl (λi c d hc hd=>by obtain ⟨rfl,hm⟩:=dY hc hd;exact Fz.of_isF n _<|h _ hm)
  | tup cs=>
   simp only [isF,R7] at h;exact .tup rfl (λi c d hc hd=>by obtain ⟨rfl,hm⟩:=dY hc hd;exact Fz.of_isF n _<|h _ hm)
  | fn f cs=>
   simp only [isF,R7] at h;exact .fn rfl (λi c d hc hd=>by obtain ⟨rfl,hm⟩:=dY hc hd;exact Fz.of_isF n _<|h _ hm)
  | ifc t x=>
   simp only [isF] at h;exact .ifc<|Fz.of_isF n x h
  | hs b q s o l=>cases h
  | hp b q s i j=>cases h
  | mp b s=>cases h
  | top=>cases h
theorem Fz.own {α:Type} [Inhabited α] {g:Bool} {b ver s n:Nat} {ty:TypeId} {f:α->List AV} {l:List α} (hm:R8 m b=QX) (hk:H[b]? = QZ (bE g ver s ty<|l.map f)) (hn:n=l.length) (hg:g=QX->l=[]) (hf:∀ x,(f x).all (isF 9)=QX):Fz m H (hS g b ver s n) (eL f l):=by
 subst hn
 cases g with
 | true=>rw [hg rfl];exact .nil0
 | false=>
  refine .hs (k:=⟨ver,s,ty,l.map f⟩) (nlb hm) hk rfl rfl (by simp) (λi r hi hr=>?_) λi r j c d hi hr hc hd=>?_
  ·simp_all
  simp only [Sd,Ss,geq hi,Sa,sie] at hr;subst hr;have e1:l.getD i QW=l[i]:=by simp [hi]
  rw [e1] at hd;obtain ⟨rfl,hm⟩:=dY hc hd;exact Fz.of_isF 9 _<|R7.1 (hf _) _ hm
inductive FzL (m:Nat) (H:AH):List AV->List AV->Prop
 | nil:FzL m H [] []
 | cons {a b:AV} {l k:List AV} (h:Fz m H a b) (t:FzL m H l k):FzL m H (a::l) (b::k)
theorem FzL.spec {l k:List AV} (h:FzL m H l k):l.length=k.length/\∀ (i:Nat) (c d:AV),l[i]? = QZ c->k[i]? = QZ d->Fz m H c d:=by
 induction h with
 | nil=>simp_all
 | cons h t ih=>
  grind
theorem Fz.tupL {l k:List AV} (h:FzL m H l k):Fz m H (.tup l) (.tup k) := .tup h.spec.1 h.spec.2
theorem Fz.aggL {l k:List AV} (h:FzL m H l k):Fz m H (.agg l) (.agg k) := .agg h.spec.1 h.spec.2
theorem Stl.hS {g:Bool} {b ver s n:Nat} (hb:R6 b m=QX):Stl m H (hS g b ver s n) (hS g b ver s n):=by
 cases g with
 | true=>exact .fz .nil
 | false=>exact .hs (nlb hb)
theorem Stl.eqv {a a' b:AV} (h:a=a') (k:Stl m H a' b):Stl m H a b:=h ▸ k
inductive StlL (m:Nat) (H:AH):List AV->List AV->Prop
 | nil:StlL m H [] []
 | cons {a b:AV} {l k:List AV} (h:Stl m H a b) (t:StlL m H l k):StlL m H (a::l) (b::k)
theorem StlL.spec {l k:List AV} (h:StlL m H l k):l.length=k.length/\∀ (i:Nat) (c d:AV),l[i]? = QZ c->k[i]? = QZ d->Stl m H c d:=by
 induction h with
 | nil=>simp_all
 | cons h t ih=>
  grind
theorem StayB.list {α:Type} {g:Bool} {ver s:Nat} {ty:TypeId} {f:α->List AV} {l:List α} (hf:∀ x,(f x).all (isF 9)=QX):StayB m H (bE g ver s ty<|l.map f) (bE g ver s ty<|l.map f):=by
 cases g with
 | true=>exact .dead
 | false=>
  refine .keep λr hr a ha=>?_;obtain ⟨x,_,rfl⟩:=Sy.1 hr;exact yU 9 m a<|R7.1 (hf x) a ha
theorem StayB.row {ver s:Nat} {ty:TypeId} {r r0:List AV} (h:StlL m H r r0):StayB m H (QZ ⟨ver,s,ty,[r]⟩) (QZ ⟨ver,s,ty,[r0]⟩) := .same rfl λi q q0 hq hq0=>by
 cases i with
 | zero=>
  simp only [Sk,sie] at hq hq0;subst hq hq0;exact h.spec
 | succ i=>grind
theorem n9 {b0:Nat} {e0:Env} {H0:AH} (hb:R8 b0 H0.length=QX) (hH:StayL H0.length H H H0) (hs:∀ t,Stl H0.length H (e t)<|e0 t):dz b0 e H e0 H0 := .inr ⟨_,nlb hb,Stay.of hH,hs⟩
theorem Iz {b0:Nat} {e0:Env} {H0:AH} (hH:H0=H) (hw:CV e e0):dz b0 e H e0 H0 := .inl ⟨hH,hw⟩
end
section
variable {P:Program}
inductive ResOk (P:Program) (e:Env) (H:AH):ResultVar->AV->Prop
 | tmp {t:Tmp} {a:AV} (h:e t=a):ResOk P e H (.tmp t) a
 | cell {ad:Tmp} {t:TypeId} {ag:Bool} {n b ver s i j:Nat} {k:ABlk} {row:List AV} (a:AV) (ty:TyF P t ag n) (h:e ad = .hp b ver s i j) (hk:H[b]? = QZ (QZ k)) (hv:k.ver=ver) (hs:k.s=s) (hr:k.rows[i]? = QZ row) (hp:xb ag n row j=QZ a):ResOk P e H (.cell ad t) a
 | cellF {ad:Tmp} {t:TypeId} {ag:Bool} {n j:Nat} {row:List AV} (a:AV) (ty:TyF P t ag n) (h:e ad = .fp row j) (hp:xb ag n row j=QZ a):ResOk P e H (.cell ad t) a
inductive ResL (P:Program) (e:Env) (H:AH):List ResultVar->List AV->Prop
 | nil:ResL P e H [] []
 | cons {r:ResultVar} {a:AV} {l:List ResultVar} {k:List AV} (h:ResOk P e H r a) (t:ResL P e H l k):ResL P e H (r::l) (a::k)
def NH:List AV->AV
 | [a]=>a
 | QV => .tup QV
theorem GL {t:TypeId} {ag:Bool} {n:Nat} (ty:TyF P t ag n) {row:List AV} {j:Nat} {a:AV} (hp:xb ag n row j=QZ a):BD P t row j a:=by
 obtain ⟨r,h1,h2⟩:=xS<|Bf (K:=λq=>q=a) ty hp rfl
 simp_all
theorem I2 {c:Cx} {nt:Nat} {e:Env} {a:Act} (hs:SRel c nt e a) {r:ResultVar} {x:AV} (h:ResOk P e c.H r x):∃ v,(Db a.tmps r).run P c.w = .ok v c.w/\c.rel x v:=by
 cases h with
 | tmp h=>exact ⟨_,by simp [Db],h ▸ hs.rel _⟩
 | @cell ad t ag n b ver s i j k row x ty h hk hv hsz hr hp=>
  have h1:=h ▸ hs.rel ad;generalize hu:a.tmps.getD ad undef=u at h1
  cases h1 with
  | fr h=>cases h
  | @hp _ _ _ _ _ adr hbn hh=>
   have hl:c.live b k:=hk;obtain ⟨cs,fr,hB⟩:=hs.heap.blk b k hl;obtain ⟨fr,rfl,hat,hd⟩:=hB.cells hl λx hx=>(hh x<|hv ▸ hx).1.trans hsz.symm;rw [hv] at hd;obtain ⟨_,rfl⟩:=hh _ hd;have hrow:Hn c (c.φ b).1 ((c.φ b).2+i*s) row:=by
    intro q a' hq;obtain ⟨u,h1,h2,h3⟩:=hB.rel i _ q a' hr hq;refine ⟨u,?_,h2,h3⟩;rw [<- hsz,cell_of_row c.w _ _ cs k.ty fr hat];exact h1
   obtain ⟨v,hrun,hrel⟩:=vX hrow<|GL ty hp;refine ⟨v,?_,hrel⟩;simp only [Db,hu];simpa [Instr.loadAt,Instr.sureAddr,asAddr] using hrun
 | @cellF ad t ag n j row x ty h hp=>
  have h1:=h ▸ hs.rel ad;obtain ⟨g,o,he,hrow⟩:=(uC h1).rowAt;obtain ⟨v,hrun,hrel⟩:=vX hrow<|GL ty hp;refine ⟨v,?_,hrel⟩;simp only [Db,he];simpa [Instr.loadAt,Instr.sureAddr,asAddr] using hrun
theorem GM {c:Cx} {nt:Nat} {e:Env} {a:Act} (hs:SRel c nt e a):∀ {rs:List ResultVar} {QV:List AV},ResL P e c.H rs QV->∃ vs:List Value,(rs.mapM<|Db a.tmps).run P c.w = .ok vs c.w/\vs.length=QV.length/\∀ (i:Nat) (x:AV) (v:Value),QV[i]? = QZ x->vs[i]? = QZ v->c.rel x v
 | [],[],_=>⟨[],by simp,rfl,λi x v h=>by grind⟩
 | r::rs,x::QV,.cons h t=>by
  obtain ⟨v,h1,h2⟩:=I2 hs h;obtain ⟨vs,h3,h4,h5⟩:=GM hs t;refine ⟨v::vs,by simp [List.mapM_cons,Sem.run_bind,h1,h3],by simp [h4],λi y u hy hu=>?_⟩
  grind
theorem EL {fn:Func} {c:Cx} {nt:Nat} {e:Env} {a:Act} {QV:List AV} (hs:SRel c nt e a) (h:ResL P e c.H fn.results.toList QV):∃ v,(results fn a.tmps).run P c.w = .ok v c.w/\c.rel (NH QV) v:=by
 obtain ⟨vs,h1,h2,h3⟩:=GM hs h;have e1:results fn a.tmps=(do let vs <- fn.results.mapM (Db a.tmps);pure (if h:vs.size=1 then vs[0] else .tuple vs)):=by
  unfold results
  congr 2
 refine ⟨if h:vs.toArray.size=1 then vs.toArray[0] else .tuple vs.toArray,?_,?_⟩
 ·rw [e1,Array.mapM_eq_mapM_toList];simp only [Sem.run_bind,Sem.run_map,h1,Result.andThen_ok,Sem.run_pure]
 match QV,vs,h2,h3 with
 | [x],[v],_,h3=>exact h3 0 x v rfl rfl
 | [],[],_,_=>exact .tup (by simp) (λi q u hq=>by simp at hq)
 | x::y::QV,v::w::vs,h2,h3=>
  rw [dif_neg (by simp)];exact .tup (by simpa using h2) λi q u hq hu=>h3 i q u hq (by simpa using hu)
def Fin (P:Program) (fn:Func) (R:AV->AH->Prop):Exit->Env->AH->Prop:=λx e G=>(x = .normal\/x = .ret)/\∃ QV,ResL P e G fn.results.toList QV/\R (NH QV) G
theorem fG.mkT {f:FuncId} {fn:Func} {body:Code} {QV:List AV} {H:AH} {R:AV->AH->Prop} (hf:P.funcs[f]? = QZ fn) (hb:fn.body=QZ body) (hcall:iH P f=QX) (hn:R8 QV.length fn.ntmps=QX)
  (hok:codeOk fn.ntmps body=QX) {e0:Env} (hw:CV (KO QV) e0) (h:T P fn.ntmps H.length body (Fin P fn R) e0 H):fG P f QV H R:=by
 refine ⟨hcall,λc vs hH hr hall=>?_⟩;obtain ⟨hl,hrel⟩:=hall;have hn:=nlb hn;have hs:SRel c fn.ntmps (KO QV) { tmps:=vs++Sz (fn.ntmps-vs.size) undef,defers:=[] }:=by
  refine ⟨by simp_all,rfl,λt=>?_,hr⟩;unfold KO;rcases Su t QV.length with hlt | hge
  ·have e1:QV.getD t .top=QV[t]:=by simp [hlt]
   have hlt2:t<vs.size:=by omega
   have e2:(vs++Sz (fn.ntmps-vs.size) undef).getD t undef=vs[t]:=by
    rw [Array.getD_eq_getD_getElem?,SF hlt2,Se hlt2]
    rfl
   rw [e1];simp only [e2];exact hrel t _ _ (geq hlt)<|Se hlt2
  have e1:QV.getD t .top = .top:=by simp [hge]
  rw [e1];exact .top
 refine calls_of_wp hf hb<|wp_mono (h hok c c _ hH (by simp_all) (Ext.refl c)<|hs.weak hw) λx a w hl=>?_;obtain ⟨hg,c',e',rfl,hx,hs',hq,as',hR1,hR⟩:=hl;obtain ⟨v,hv,hrel'⟩:=EL (P:=P) hs' hR1;rcases hq with rfl | rfl
 ·exact ⟨hs'.defers,v,hv,v,c',_,rfl,rfl,hR,hs'.heap,hx,hrel'⟩
 exact ⟨hs'.defers,v,hv,v,c',_,rfl,rfl,hR,hs'.heap,hx,hrel'⟩
theorem ax.mkT {f:FuncId} {fn:Func} {body:Code} {QV:List AV} {r:AV} (hf:P.funcs[f]? = QZ fn) (hb:fn.body=QZ body) (hcall:iH P f=QX) (hn:R8 QV.length fn.ntmps=QX)
 (hok:codeOk fn.ntmps body=QX) {e0:Env} (hw:CV (KO QV) e0) (h:T P fn.ntmps 0 body (Fin P fn λr0 G=>Fz 0 G r0 r) e0 []):ax P f QV r:=ax.of<|fG.mkT hf hb hcall hn hok hw h
theorem Fin.ret {fn:Func} {R:AV->AH->Prop} {e:Env} {G:AH} {vs:List AV} (h:ResL P e G fn.results.toList vs) (k:R (NH vs) G):Fin P fn R .ret e G:=⟨.inr rfl,vs,h,k⟩
theorem Fin.normal {fn:Func} {R:AV->AH->Prop} {e:Env} {G:AH} {vs:List AV} (h:ResL P e G fn.results.toList vs) (k:R (NH vs) G):Fin P fn R .normal e G:=⟨.inl rfl,vs,h,k⟩
end
def cI:Int->List AV:=λn=>[I n]
def cY:Int->List AV:=λn=>[Y n]
def cB:Bool->List AV:=λb=>[Bo b]
def cS:BA->List AV:=λs=>[St s]
def cL {α:Type} [Inhabited α] (f:α->List AV):List α->List AV:=λl=>[eL f l]
structure SlT (P:Program) (t e:TypeId) (ag:Bool) (w:Nat) (zs:List AV) (m:Nat):Prop where
 u:P.underlying t=QZ (.slice e)
 ty:TyF P e ag w
 z:TyZ P e zs
 zl:zs.length=w
 pos:(R6 0 w)=QX
 by_:P.bytesOf e=m
def bq (n m:Nat):Bool:=Q3<|n*m<=35184372088832/\n<=35184372088832
def SQ (b0:Nat) (Q:Exit->Env->AH->Prop):Exit->Env->AH->Prop:=λx e H=>∃ e0 H0,dz b0 e H e0 H0/\Q x e0 H0
def Pk (b0:Nat) {G:Type} (inv:G->Prop) (slots:G->List (Nat×AV)) (heap:G->AH) (e:Env) (H:AH):Prop:=∃ g,inv g/\dz b0 e H (ai<|slots g) (heap g)
def sumK {S W:Type} (a:Option<|S ⊕ W) (k:S->Option W):Option W:=match a with
 | none=>Q0
 | some (.inl s)=>k s
 | some (.inr w)=>QZ w
def Pv {S W:Type} (K:S->Option W) (r:W) (z:S ⊕ W):Prop:=match z with
 | .inl s=>K s=QZ r
 | .inr w=>w=r
theorem tX {S W:Type} {a:Option (S ⊕ W)} {k:S->Option W} {r:W} (h:sumK a k=QZ r):∃ K,K=k/\∃ z,a=QZ z/\Pv K r z:=by
 refine ⟨k,rfl,?_⟩
 cases a with
 | none=>cases h
 | some z=>
  cases z with
  | inl s=>exact ⟨.inl s,rfl,h⟩
  | inr w=>exact ⟨.inr w,rfl,osl h⟩
section
variable {P:Program} {nt b0:Nat} {Q:Exit->Env->AH->Prop} {e e0:Env} {H H' H0:AH} {ops:Array Oper} {o:Oper} {l:List Oper} {r:AV}
theorem T.leaf {x:Code} (h:T P nt b0 x (SQ b0 Q) e H):T P nt b0 x Q e H:=by
 intro hok c c0 a hH hb hx hr;refine wp_mono (h hok c c0 a hH hb hx hr) λex a' w' hl=>?_;obtain ⟨hg,c',e',rfl,hx',hs',e1,H1,hs,hq⟩:=hl;obtain ⟨c2,h4,h5,h6,h7⟩:=hs.state hx' hs' hb;exact ⟨hg,c2,e1,h4,h5,h6,h7 ▸ hq⟩
theorem jh {k:Env->AH->Prop} (h:Q .ret e H):GJ k Q .ret e H:=h
theorem ji {i:Nat} (h:Q .ret e H):I0 i Q .ret e H:=h
theorem T.joinF {G:Type} {x y:Code} (inv:G->Prop) (slots:G->List (Nat×AV)) (heap:G->AH)
  (J:∀ g,inv g->T P nt b0 y Q (ai<|slots g) (heap g)) (h:T P nt b0 x (GJ (Pk b0 inv slots heap) Q) e H):T P nt b0 (.seq x y) Q e H:=by
 refine T.join (S:=Unit) (λ_=>True) (λ_ g=>inv g) (λ_ g=>slots g) (λ_ g=>heap g) (λ_ g _ hi=>J g hi) ?_;intro hok c c0 a hH hb hx hr;refine wp_mono (h hok c c0 a hH hb hx hr) λex a' w' ⟨hg,c',e',hw,hx',hs',hq⟩=>⟨hg,c',e',hw,hx',hs',?_⟩
 cases ex with
 | normal=>obtain ⟨g,h1,h2⟩:=hq;exact ⟨(),g,trivial,h1,h2⟩
 | _=>exact hq
theorem T.clean {x:Code} (hH:H0=H) (hw:CV e e0) (h:T P nt b0 x Q e0 H0):T P nt b0 x Q e H:=h.cut<|Iz hH hw
theorem yh {α:Type} {q:Bool} {x y:Option α} {r:α} (h:(bif q then x else y)=QZ r):(q=QX/\x=QZ r)\/(q=QY/\y=QZ r):=by
 grind
section
variable {d:Tmp} {op:Op} {ty:TypeId} {pos:String} {af:Array Edge} {en:List (Nat×AV)} {cls:Nat->Nat} {i:Nat} {K:Env->AH->Prop}
theorem oN (h:QE P (rho<|ai en) op r) (k:TO P nt b0 ops l Q (ai ((d,r)::en)) H):TO P nt b0 ops (⟨QZ d,op,ty,pos,af,Q0⟩::l) Q (ai en) H := .run (.free rfl) h.toA k
theorem oA (h:EvA P (rho<|ai en) op H r H') (k:TO P nt b0 ops l Q (ai ((d,r)::en)) H'):TO P nt b0 ops (⟨QZ d,op,ty,pos,af,Q0⟩::l) Q (ai en) H := .run (.free rfl) h k
theorem oV (h:EvA P (rho<|ai en) op H r H') (k:TO P nt b0 ops l Q (ai en) H'):TO P nt b0 ops (⟨Q0,op,ty,pos,af,Q0⟩::l) Q (ai en) H := .run (.free rfl) h k
theorem gN {j:Nat} {b q:Bool} (hy:dL ops.toList (ai en) j = .v (.bool q)) (hq:q=b) (h:QE P (rho<|ai en) op r) (k:TO P nt b0 ops l Q (ai ((d,r)::en)) H):TO P nt b0 ops (⟨QZ d,op,ty,pos,af,QZ (j,b)⟩::l) Q (ai en) H := .run (.yes rfl hy hq) h.toA k
theorem gA {j:Nat} {b q:Bool} (hy:dL ops.toList (ai en) j = .v (.bool q)) (hq:q=b) (h:EvA P (rho<|ai en) op H r H') (k:TO P nt b0 ops l Q (ai ((d,r)::en)) H'):TO P nt b0 ops (⟨QZ d,op,ty,pos,af,QZ (j,b)⟩::l) Q (ai en) H := .run (.yes rfl hy hq) h k
theorem gS {j:Nat} {b q:Bool} (hy:dL ops.toList (ai en) j = .v (.bool q)) (hq:q = !b) (k:TO P nt b0 ops l Q (ai ((d,.tup [])::en)) H):TO P nt b0 ops (⟨QZ d,op,ty,pos,af,QZ (j,b)⟩::l) Q (ai en) H := .pass (.no rfl hy hq) k
theorem gU {j:Nat} {b:Bool} (hy:dL ops.toList (ai en) j = .tup []) (k:TO P nt b0 ops l Q (ai ((d,.tup [])::en)) H):TO P nt b0 ops (⟨QZ d,op,ty,pos,af,QZ (j,b)⟩::l) Q (ai en) H := .pass (.un rfl hy) k
theorem d1 (hc:cls i=1) (hv:EvA P (rho<|ai en) op H r H) (h:TL P cls (i+1) l K (ai ((d,r)::en)) H):TL P cls i (⟨QZ d,op,ty,pos,af,Q0⟩::l) K (ai en) H:=TL.op1 hc hv h
end
end
section
variable {P:Program} {ρ:Operand->AV} {H:AH} {x y:Operand} {t u e:TypeId} {ag:Bool} {w m:Nat} {zs:List AV}
theorem QC.res {o:Oper} {H':AH} {r r':AV} (h:QC P o ρ H r H') (hr:∀ (c:Cx) (v:Value),c.rel r v->c.rel r' v):QC P o ρ H r' H':=
 λc a K Q hH hc hxs hK=>h c a K Q hH hc hxs λv c' h1 h2 h3 h4=>hK v c' h1 h2 h3 (hr c' v h4)
theorem QE.res {op:Op} {r r':AV} (h:QE P ρ op r) (hr:∀ (c:Cx) (v:Value),c.rel r v->c.rel r' v):QE P ρ op r':=λo ho G=>(h o ho G).res hr
theorem EM {c:Cx} {n:Nat} {row row':Nat->List AV} {v:Value} (he:∀ i,i<n->row i=row' i) (h:c.rel (.sl n row) v):c.rel (.sl n row') v:=by
 have hf:=uB h;refine .fr ?_
 cases hf with
 | @sl _ cap s g o _ a us hc hm ha hs hu2 h1 h3=>
  refine .sl (s:=s) (g:=g) (o:=o) us hc hm ha (λi hi=>?_) (λi j a hi hj=>?_) (λi j a hi hj=>?_) λi j a hi hj=>?_
  ·rw [<- he i hi];exact hs i hi
  ·rw [<- he i hi] at hj;exact hu2 i j a hi hj
  ·rw [<- he i hi] at hj;exact h1 i j a hi hj
  simp_all
variable {α:Type} {c:α->List AV} {l:List α}
theorem QE.lenL [Inhabited α] (q:SlT P t e ag w zs m) (hx:ρ x=eL c l):QE P ρ (.call ⟨.builtin .len,#[x],#[t]⟩) (I l.length):=QE.lensl q.u hx
theorem QE.lenO {g:Bool} {b v s n:Nat} (q:SlT P t e ag w zs m) (hx:ρ x=Go.Proofs.YtabfkkjdfhbngaaGreatDoor.hS g b v s n) (hg:g=QX->n=0):QE P ρ (.call ⟨.builtin .len,#[x],#[t]⟩) (I n):=QE.lenhS q.u hx hg
theorem QE.lenZ (q:SlT P t e ag w zs m) (hx:ρ x = .nil):QE P ρ (.call ⟨.builtin .len,#[x],#[t]⟩) (I 0):=QE.lennil q.u hx
theorem QE.ixL [Inhabited α] {k:IntKind} {i:Int} (q:SlT P t e ag w zs m) (hx:ρ x=eL c l) (hy:ρ y = .v (.int k i)) (hi:0<=i/\i<l.length) (hl:∀ x,(c x).length=w):QE P ρ (.indexAddr t x y) (.fp (c<|l.getD i.toNat QW) 0):=
 QE.ixsl (row:=λi=>c<|l.getD i QW) q.u q.ty hx hy hi<|hl _
theorem QE.ixO {g:Bool} {b ver n:Nat} {k:IntKind} {i:Int} (q:SlT P t e ag w zs m) (hx:ρ x=Go.Proofs.YtabfkkjdfhbngaaGreatDoor.hS g b ver w n) (hy:ρ y = .v (.int k i)) (hg:g=QX->n=0) (hi:0<=i/\i<n):QE P ρ (.indexAddr t x y) (.hp b ver w i.toNat 0):=
 QE.ixhS q.u q.ty hx hy hg hi
theorem QE.slL [Inhabited α] {lo hi:Option Operand} {a b:Int} (q:SlT P t e ag w zs m) (hx:ρ x=eL c l) (hl:bnd ρ lo 0 a) (hh:bnd ρ hi l.length b) (hq:0<=a/\a<=b/\b<=l.length) (hc:∀ x,(c x).length=w) :
  QE P ρ (.slice t x lo hi Q0) (eL c<|(l.drop a.toNat).take<|b.toNat-a.toNat):=by
 refine (QE.slsl (row:=λi=>c<|l.getD i QW) q.u q.ty hx hl hh hq λi _=>hc _).res λC v hv=>?_;have hn:((l.drop a.toNat).take<|b.toNat-a.toNat).length=b.toNat-a.toNat:=by simp;omega
 unfold Go.Proofs.YtabfkkjdfhbngaaGreatDoor.eL;rw [hn];exact EM (λi hi=>by grind) hv
theorem Bg [Inhabited α] {f:α->List AV} {l:List α} {i:Nat} (h:i<l.length):(l.map f)[i]? = QZ (f<|l.getD i QW):=by
 simp_all
theorem EvA.ldO (a:AV) [Inhabited α] {g:Bool} {b ver i j n:Nat} {e':TypeId} {w':Nat} (tt:TyF P t ag n) (h:ρ x = .hp b ver w' i j) (hk:H[b]? = QZ (bE g ver w' e'<|l.map c)) (hg:g=QX->l=[]) (hi:i<l.length) (hp:xb ag n (c<|l.getD i QW) j=QZ a):EvA P ρ (.load t x) H a H:=by
 cases g with
 | true=>simp_all
 | false=>exact EvA.loadhp (k:=⟨ver,w',e',l.map c⟩) a tt h hk rfl rfl (Bg hi) hp
theorem EvA.stO (v:α) [Inhabited α] {g:Bool} {b ver i j n:Nat} {e':TypeId} {w':Nat} (tt:TyF P t ag n) (hx:ρ x = .hp b ver w' i j) {cs:List AV} (hy:(ρ y).cells=QZ cs) (hk:H[b]? = QZ (bE g ver w' e'<|l.map c)) (hg:g=QX->l=[]) (hi:i<l.length)
  (hl:cs.length=n) (hj:R8 (j+n) w'=QX) (hv:splice (c<|l.getD i QW) j cs=c v):EvA P ρ (.store t x y) H .top (H.set b<|bE QY ver w' e'<|(l.set i v).map c):=by
 cases g with
 | true=>simp_all
 | false=>exact EvA.store (k:=⟨ver,w',e',l.map c⟩) tt hx hy hk rfl rfl (Bg hi) hl (nlb hj) _ (by simp_all)
theorem EvA.al {b:Nat} (z:TyZ P t zs) (hn:(R6 0 zs.length)=QX) (hb:H.length=b):EvA P ρ (.alloc t) H (.hp b 0 zs.length 0 0) (H++[QZ ⟨0,zs.length,t,[zs]⟩]):=by
 subst hb;exact EvA.alloc z hn
theorem EvA.bx {b:Nat} {cs:List AV} (hx:(ρ x).cells=QZ cs) (hn:(R6 0 cs.length)=QX) (hb:H.length=b):EvA P ρ (.box t x) H (.hp b 0 cs.length 0 0) (H++[QZ ⟨0,cs.length,t,[cs]⟩]):=by
 subst hb;exact EvA.box hx hn
theorem EvA.st (k':ABlk) {n:Nat} (ty:TyF P t ag n) {b ver s i j:Nat} (hx:ρ x = .hp b ver s i j) {cs:List AV} (hy:(ρ y).cells=QZ cs) {k:ABlk} (hk:H[b]? = QZ (QZ k)) (hv:k.ver=ver) (hs:k.s=s) {row:List AV} (hr:k.rows[i]? = QZ row)
 (hl:cs.length=n) (hj:R8 (j+n) s=QX) (hk':{ k with rows:=k.rows.set i (splice row j cs) }=k'):EvA P ρ (.store t x y) H .top (H.set b<|QZ k'):=EvA.store ty hx hy hk hv hs hr hl (nlb hj) k' hk'
theorem Ob {g:Bool} {n:Nat} {i:Int} (hg:g=QX->l=[]) (hn:n=l.length) (h:0<=i/\i<(n:Int)):g=QY:=by
 grind
theorem bA {n:Nat} {i:Int} (hn:n=l.length) (h:0<=i/\i<(n:Int)):i.toNat<l.length:=by omega
theorem I3 {g:Bool} {n:Nat} (hg:g=QX->l=[]) (hn:n=l.length) (h:g=QX):n=0:=by simp_all
theorem Df {n:Nat} (h:bq n m=QX):n*m<=35184372088832/\n<=35184372088832:=of_decide_eq_true h
theorem EvA.app1 (v:α) {g:Bool} {b ver n:Nat} (q:SlT P t e ag w zs m) (hv:Hm P u=QX) (hx:ρ x=Go.Proofs.YtabfkkjdfhbngaaGreatDoor.hS g b ver w n) (hn:n=l.length) (hk:H[b]? = QZ (bE g ver w e<|l.map c)) (hg:g=QX->l=[]) (hsrc:bh P H w (ρ y) [c v]) (hb:bq (l.length+1) m=QX) :
  EvA P ρ (.call ⟨.builtin .append,#[x,y],#[t,u]⟩) H (Go.Proofs.YtabfkkjdfhbngaaGreatDoor.hS QY b (ver+1) w (l++[v]).length) (H.set b<|bE QY (ver+1) w e<|(l++[v]).map c):=by
 subst hn;exact EvA.app q.u hv q.ty q.z q.zl q.pos hx hk (by simp) (λh=>by simp_all) hsrc q.by_ (Df hb).1 (Df hb).2 (by simp) (by simp)
theorem EvA.appM (k:List α) {g:Bool} {b ver n:Nat} (q:SlT P t e ag w zs m) (hv:Hm P u=QX) (hx:ρ x=Go.Proofs.YtabfkkjdfhbngaaGreatDoor.hS g b ver w n) (hn:n=l.length) (hk:H[b]? = QZ (bE g ver w e<|l.map c)) (hg:g=QX->l=[]) (hsrc:bh P H w (ρ y)<|k.map c) (hb:bq (l.length+k.length) m=QX) :
  EvA P ρ (.call ⟨.builtin .append,#[x,y],#[t,u]⟩) H (Go.Proofs.YtabfkkjdfhbngaaGreatDoor.hS (g&&k.isEmpty) b (ver+1) w (l++k).length) (H.set b<|bE (g&&k.isEmpty) (ver+1) w e<|(l++k).map c):=by
 subst hn;have h:=EvA.appv (P:=P) (ρ:=ρ) (news:=k.map c) q.u hv q.ty q.z q.zl q.pos hx hk (by simp) (λh=>by rw [hg h];rfl) hsrc q.by_ (by simpa using (Df hb).1) (by simpa using (Df hb).2)
 simp_all
theorem EvA.appF (k:List α) {b ver n:Nat} (q:SlT P t e ag w zs m) (hv:Hm P u=QX) (hx:ρ x=Go.Proofs.YtabfkkjdfhbngaaGreatDoor.hS QY b ver w n) (hn:n=l.length) (hk:H[b]? = QZ (bE QY ver w e<|l.map c)) (hsrc:bh P H w (ρ y)<|k.map c) (hb:bq (l.length+k.length) m=QX) :
  EvA P ρ (.call ⟨.builtin .append,#[x,y],#[t,u]⟩) H (Go.Proofs.YtabfkkjdfhbngaaGreatDoor.hS QY b (ver+1) w (l++k).length) (H.set b<|bE QY (ver+1) w e<|(l++k).map c):=
 EvA.appM (g:=false) k q hv hx hn hk nofun hsrc hb
theorem bh.fz [Inhabited α] (hx:ρ y=Go.Proofs.YtabfkkjdfhbngaaGreatDoor.eL c l) (hc:∀ x,(c x).length=w):bh P H w (ρ y) (l.map c):=by
 rw [hx];exact bh.eL hc
theorem bh.none (hx:ρ y = .nil):bh P H w (ρ y) (([]:List α).map c):=by
 rw [hx];exact bh.nil
theorem EvA.callT {cl:Call} {f:Operand} {g:FuncId} {QV:List AV} {r:AV} (hc:cl.callee = .value f) (hf:ρ f = .fn (.func g) []) (h:ax P g QV r) (hz:FzL 0 H (cl.args.toList.map ρ) QV) (hd:dry 9 r=QX):EvA P ρ (.call cl) H r H:=
 EvA.call hc hf (List.append_nil _) (h.tmp hz.spec.1 hz.spec.2 hd)
theorem EvA.mkO (k:List α) (rows:List<|List AV) {b n:Nat} {parts:Array (Nat×Operand)} (q:SlT P t e ag w zs m) (hr:kQ (parts.toList.map λp=>(ρ p.2).cells)=QZ rows) (hn:(R6 0 w&&R8 (n*w) 16777216&&(parts.toList.map (·.1)==R9 n))=QX) (hk:rows=k.map c) (hc:∀ x,(c x).length=w) (hlen:k.length=n) (hb:H.length=b) :
  EvA P ρ (.buildSlice t n parts) H (Go.Proofs.YtabfkkjdfhbngaaGreatDoor.hS QY b 0 w k.length) (H++[bE QY 0 w e (k.map c)]):=by
 have h:=EvA.bslice (P:=P) (ρ:=ρ) (H:=H) q.u q.ty q.z q.zl rows hr hn (by simp_all);rw [hlen];subst hk hb;exact h
theorem EvA.mkN (v:α) {bl:Nat} {a b:Int} (q:SlT P t e ag w zs m) (hx:ρ x = .v (.int .i64 a)) (hy:ρ y = .v (.int .i64 b)) (hq:0<=a/\a<=b/\b*(m:Int)<=140737488355328/\b<=140737488355328) (hab:a=b) (hv:zs=c v) (hbl:H.length=bl) :
  EvA P ρ (.makeSlice t x y) H (Go.Proofs.YtabfkkjdfhbngaaGreatDoor.hS QY bl 0 w (Sw a.toNat v).length) (H++[bE QY 0 w e ((Sw a.toNat v).map c)]):=by
 have h:=EvA.mslice (P:=P) (ρ:=ρ) (H:=H) q.u q.ty q.z q.zl q.pos hx hy m q.by_ hq;subst hab hbl;rw [List.length_replicate,List.map_replicate,<- hv];exact h
end
section
variable {P:Program} {ρ:Operand->AV} {H:AH} {x y:Operand} {t u e d:TypeId}
theorem FN {c:Cx} {l:LI} {vs:List Value} (h:C8 c 1 (l.map cY) vs):vs=l.map (Value.int .u8):=by
 obtain ⟨h1,h2,h3⟩:=h;apply Sn;intro i;rcases Su i l.length with hlt | hge
 ·have hr:(l.map cY)[i]? = QZ (cY l[i]):=by rw [Ss,geq hlt];rfl
  obtain ⟨u,g1,_,g3⟩:=h3 i _ 0 _ hr rfl;obtain ⟨rfl,_⟩:=iR g3;simp only [Nat.mul_one,Nat.add_zero] at g1;rw [g1,Ss,geq hlt]
  rfl
 simp_all
theorem EvA.b2s {l:LI} (hs:P.underlying t=QZ (.slice e)) (he:P.underlying e=QZ (.int .u8)) (hd:P.underlying d=QZ .string) (hsl:∀ (c:Cx) (v:Value),c.rel (ρ x) v->∃ A n cap,v = .slice A n cap) (hsrc:bh P H 1 (ρ x)<|l.map cY) :
  EvA P ρ (.convert t d x) H (St<|strOfNums l) H:=λo ho c a K Q hH hr hxs hK=>by
 have h1:=hxs x (by rw [ho];simp [Op.operands]);obtain ⟨A,n,cap,hv⟩:=hsl c _ h1;obtain ⟨vs,hvs⟩:=hsrc c _ hH hr h1;rw [hv] at hvs;have hvl:=FN hvs.is;have hlen:=hvs.len c.w;have hn:n=l.length:=by
  simp [Builtin.lenOf] at hlen;simpa using hlen
 subst hn;have hrun:(Conv.bytesToString<|.slice A l.length cap).run P c.w = .ok (.string<|strOfNums l) c.w:=by
  cases A with
  | none=>
   have hc:=hvs.cells c.w rfl;simp only [Builtin.firstCells,Sem.run_pure] at hc;injection hc with hc;have : vs=[]:=by simpa using congrArg Array.toList hc.symm
   rw [this] at hvl;have : l=[]:=by cases l with | nil=>rfl | cons b l=>grind
   subst this
   rfl
  | some ad=>
   have hc:=hvs.cells c.w rfl;simp only [Builtin.firstCells,llm,Nat.mul_one] at hc;rw [hvl] at hc;rw [run_bytesToString c.w ad l.length cap l hc,foldl_push_bytes];simp [strOfNums,ByteArray.empty,ByteArray.emptyWithCapacity]
   rfl
 unfold Oper.wp;have : (execOp a.eval o).run P c.w = .ok (.value<|.string<|strOfNums l) c.w:=by
  rw [execOp,ho];simp only [hv];exact vg _<|(run_convert_bytes_string c.w t d e A _ cap hs he hd).trans hrun
 rw [this];exact hK _ c hH hr (Ext.refl c)<|cO rfl
theorem I4 {α:Type} [Inhabited α] {f:α->List AV} {l:List α} (hx:ρ x=eL f l):∀ (c:Cx) (v:Value),c.rel (ρ x) v->∃ A n cap,v = .slice A n cap:=λc v h=>by
 rw [hx] at h;have := uB h
 cases this
 simp_all
inductive FzRows (m:Nat) (H:AH):List (List AV)->List (List AV)->Prop
 | nil:FzRows m H [] []
 | cons {a b:List AV} {l k:List (List AV)} (h:FzL m H a b) (t:FzRows m H l k):FzRows m H (a::l) (b::k)
inductive StlRows (m:Nat) (H:AH):List (List AV)->List (List AV)->Prop
 | nil:StlRows m H [] []
 | cons {a b:List AV} {l k:List (List AV)} (h:StlL m H a b) (t:StlRows m H l k):StlRows m H (a::l) (b::k)
theorem StlRows.spec {m:Nat} {l k:List (List AV)} (h:StlRows m H l k):l.length=k.length/\∀ (i:Nat) (c d:List AV),l[i]? = QZ c->k[i]? = QZ d->StlL m H c d:=by
 induction h with
 | nil=>simp_all
 | cons h t ih=>
  grind
theorem FzRows.spec {m:Nat} {l k:List (List AV)} (h:FzRows m H l k):l.length=k.length/\∀ (i:Nat) (c d:List AV),l[i]? = QZ c->k[i]? = QZ d->FzL m H c d:=by
 induction h with
 | nil=>simp_all
 | cons h t ih=>
  grind
theorem StlRows.same {α:Type} {m:Nat} {f:α->List AV} (hf:∀ x,(f x).all (isF 9)=QX):∀ l:List α,StlRows m H (l.map f) (l.map f)
 | [] => .nil
 | a::l=>by
  refine .cons ?_<|StlRows.same hf l;have key:∀ r:List AV,(∀ a∈r,isF 9 a=QX)->StlL m H r r:=by
   intro r
   induction r with
   | nil=>exact λ_ => .nil
   | cons b r ih=>exact λh => .cons (.fz<|.of_isF 9 b<|h b<|by simp) (ih λa ha=>h a<|by simp [ha])
  grind
theorem StlRows.app {m:Nat} {l k l' k':List (List AV)} (h:StlRows m H l k) (h':StlRows m H l' k'):StlRows m H (l++l') (k++k'):=by
 induction h with
 | nil=>exact h'
 | cons h t ih=>exact .cons h ih
theorem StayB.rows {m:Nat} {g:Bool} {ver s:Nat} {ty:TypeId} {rows CC:List (List AV)} (h:StlRows m H rows CC):StayB m H (bE g ver s ty rows) (bE g ver s ty CC):=by
 cases g with
 | true=>exact .dead
 | false=>exact .same h.spec.1 λi r r0 hr hr0=>(h.spec.2 i r r0 hr hr0).spec
theorem StayB.snoc {α:Type} {m:Nat} {ver s:Nat} {ty:TypeId} {f:α->List AV} {l k:List α} {r:List (List AV)} (hf:∀ x,(f x).all (isF 9)=QX) (h:StlRows m H r<|k.map f):StayB m H (bE QY ver s ty<|l.map f++r) (bE QY ver s ty<|(l++k).map f):=
 .rows (by rw [List.map_append];exact (StlRows.same hf l).app h)
theorem Fz.rows {α:Type} [Inhabited α] {m b ver s n:Nat} {ty:TypeId} {f:α->List AV} {l:List α} {rows:List (List AV)} (hm:R8 m b=QX) (hk:H[b]? = QZ (bE QY ver s ty rows)) (hn:n=rows.length) (h:FzRows m H rows<|l.map f):Fz m H (hS QY b ver s n) (eL f l):=by
 obtain ⟨h1,h2⟩:=h.spec;have hl:rows.length=l.length:=by simpa using h1
 subst hn;unfold eL;rw [<- hl];refine .hs (k:=⟨ver,s,ty,rows⟩) (nlb hm) hk rfl rfl (by simp) (λi r hi hr=>?_) λi r j c d hi hr hc hd=>?_
 ·rw [Sd] at hr;have hi':i<l.length:=by omega
  have := (h2 i r (f<|l.getD i QW) hr<|Bg hi').spec.1;omega
 rw [Sd] at hr;have hi':i<l.length:=by omega
 exact (h2 i r (f<|l.getD i QW) hr<|Bg hi').spec.2 j c d hc hd
theorem EvA.appR {ag:Bool} {w m:Nat} {zs:List AV} {g:Bool} {b ver n n':Nat} {rows rows':List (List AV)} {a:List AV} {news:List (List AV)} (q:SlT P t e ag w zs m) (hv:Hm P u=QX) (hx:ρ x=Go.Proofs.YtabfkkjdfhbngaaGreatDoor.hS g b ver w n) (hk:H[b]? = QZ (bE g ver w e rows)) (hn:n=rows.length) (hg:g=QX->rows=[])
  (hsrc:bh P H w (ρ y) (a::news)) (hb:bq (n+(a::news).length) m=QX) (hr:rows++(a::news)=rows') (hn':n+(a::news).length=n') :
  EvA P ρ (.call ⟨.builtin .append,#[x,y],#[t,u]⟩) H (Go.Proofs.YtabfkkjdfhbngaaGreatDoor.hS QY b (ver+1) w n') (H.set b<|bE QY (ver+1) w e rows'):=
 EvA.app q.u hv q.ty q.z q.zl q.pos hx hk hn hg hsrc q.by_ (Df hb).1 (Df hb).2 hr hn'
theorem bh.raw {w b ver n:Nat} {ty:TypeId} {rows:List (List AV)} (hx:ρ y=Go.Proofs.YtabfkkjdfhbngaaGreatDoor.hS QY b ver w n) (hk:H[b]? = QZ (bE QY ver w ty rows)) (hn:n=rows.length):bh P H w (ρ y) rows:=by
 rw [hx];exact bh.hS hk hn nofun
theorem EvA.mkR {ag:Bool} {w m:Nat} {zs:List AV} {b n:Nat} {parts:Array (Nat×Operand)} (rows:List<|List AV) (q:SlT P t e ag w zs m) (hr:kQ (parts.toList.map λp=>(ρ p.2).cells)=QZ rows) (hn:(R6 0 w&&R8 (n*w) 16777216&&(parts.toList.map (·.1)==R9 n))=QX)
  (hl:rows.all (λrow=>row.length==w)=QX) (hb:H.length=b):EvA P ρ (.buildSlice t n parts) H (Go.Proofs.YtabfkkjdfhbngaaGreatDoor.hS QY b 0 w n) (H++[bE QY 0 w e rows]):=by
 subst hb;exact EvA.bslice q.u q.ty q.z q.zl rows hr hn hl
def nilK {α:Type} (e:Bool) (A B:Option α):Option α:=open Classical in bif e then (if A=B then A else Q0) else B
theorem I5 {α:Type} {e:Bool} {A B:Option α} {r:α} (h:nilK e A B=QZ r):(e=QX->A=QZ r)/\B=QZ r:=by
 unfold nilK at h
 grind
end
section
variable {P:Program} {ρ:Operand->AV} {H:AH} {x y:Operand} {t u e d:TypeId}
theorem KM.settle {o:Oper} {k:ABlk} {r r0:AV} (h:KM P o ρ H k r) (hz:Fz H.length (H++[QZ k]) r r0):QC P o ρ H r0 H:=by
 intro c a K Q hH hr hx hK;obtain ⟨cs,v,h1,h2,h3⟩:=h c a hH hr hx;subst hH;let c':=c.new k cs;have hsz:c'.w.heap.size=c.w.heap.size+1:=by simp [c',Cx.new]
 have hnew:∀ g,c'.all c.H.length g↔c.fz g\/g=c.w.heap.size:=by
  intro g
  constructor
  ·rintro (hg | ⟨b,k',hb,hl,rfl⟩)
   ·exact .inl hg
   rcases Cx.new_live hl with ⟨rfl,_⟩ | ⟨hlt,_⟩
   ·exact .inr (by simp [c',Cx.new])
   omega
  rintro (hg | rfl)
  ·exact .inl hg
  exact .inr ⟨c.H.length,k,Sb _,Cx.new_live_new c k cs,by simp [c',Cx.new]⟩
 let c2:Cx:={ w:=c'.w,fz:=c'.all c.H.length,H:=c.H,φ:=c.φ };have hkeep:∀ g,g<c.w.heap.size->c2.w.heap[g]? = c.w.heap[g]? := λg hg=>Below.heap_alloc _ _ _ hg;have hx2:Ext c c2:=by
  refine ⟨rfl,rfl,rfl,by grind,λg hg _=>hkeep g hg,λg hg => .inl hg,λg hg=>?_,Sb _,λ_ _ h=>h,λb ver y hb hy=>?_,λb k' hl => .inr ⟨b,k',hl,rfl⟩⟩
  ·grind
  obtain ⟨k',hl,rfl,o',hc,hx'⟩:=Cx.hd_some hy;have hl':c.live b k':=hl;exact (Cx.hd_of hl'<|by rw [<- hkeep _ (hr.live_lt hl')];exact hc).trans hx'
 have hr2:HRel c2:=by
  refine ⟨λg hg=>Cx.all_lt h2 hg,λb k' hl=>?_,hr.inj,hr.glx hx2⟩;have hl':c.live b k':=hl;obtain ⟨cs',fr,hB⟩:=hr.blk b k' hl';refine ⟨cs',fr,⟨(hkeep _<|hr.live_lt hl').trans hB.at_,λhz=>?_,hB.pos,hB.free,hB.fits,hB.len,λi row j a' g1 g2=>?_⟩⟩
  ·rcases (hnew _).1 hz with hz | hz
   ·exact hB.nf hz
   have := hr.live_lt hl'
   grind
  obtain ⟨u,g3,g4,g5⟩:=hB.rel i row j a' g1 g2;exact ⟨u,g3,g4,g5.ext hr hx2⟩
 unfold Oper.wp;rw [h1];exact hK v c2 rfl hr2 hx2<|.fr<|Fz.sound (c:=c') h2 hz v h3
theorem QE.newF {op:Op} {r0:AV} (k:ABlk) (r:Nat->AV) (h:∀ o:Oper,o.op=op->∀ G,KM P o ρ G k<|r G.length) (hz:∀ (m:Nat) (G:AH),G.length=m->Fz m (G++[QZ k]) (r m) r0):QE P ρ op r0:=λo ho G=>(h o ho G).settle<|hz _ G rfl
theorem QE.bxF (cs:List AV) (hx:(ρ x).cells=QZ cs) (hn:(R6 0 cs.length)=QX) (hF:cs.all (isF 9)=QX):QE P ρ (.box t x) (.fp cs 0):=
 .newF ⟨0,cs.length,t,[cs]⟩ (λn => .hp n 0 cs.length 0 0) (λ_ ho _=>GD ho hx<|nlb hn) λm G hG=>by
  refine .hp (k:=⟨0,cs.length,t,[cs]⟩) (r:=cs) (Sb _) (by simp_all) rfl rfl rfl rfl λj c d hc hd=>?_;obtain ⟨rfl,hm⟩:=dY hc hd;exact .of_isF 9 _<|R7.1 hF _ hm
theorem QE.mkF {α:Type} [Inhabited α] {c:α->List AV} {ag:Bool} {w m:Nat} {zs:List AV} {n:Nat} {parts:Array (Nat×Operand)} (k:List α) (rows:List<|List AV) (q:SlT P t e ag w zs m) (hr:kQ (parts.toList.map λp=>(ρ p.2).cells)=QZ rows) (hn:(R6 0 w&&R8 (n*w) 16777216&&(parts.toList.map (·.1)==R9 n))=QX) (hk:rows=k.map c) (hc:∀ x,(c x).length=w) (hF:∀ x,(c x).all (isF 9)=QX) (hlen:k.length=n) :
  QE P ρ (.buildSlice t n parts) (eL c k):=by
 subst hk;simp only [bae,beq_iff_eq] at hn;have hz:=MG q.z (q.zl.trans q.ty.cells.symm);refine .newF ⟨0,P.cellsOf e,e,k.map c⟩ (λb => .hs b 0 (P.cellsOf e) 0 n) (λo ho G=>p9 ho q.u hr (by rw [q.ty.cells];simp_all) (by rw [q.ty.cells];simp_all) hn.2 hz q.z.one (λrow hrow=>by
  obtain ⟨x,_,rfl⟩:=Sy.1 hrow;rw [hc,q.ty.cells])) λm G hG=>?_
 exact Fz.own (g:=false) (ver:=0) (l:=k) (f:=c) (ty:=e) (SG<|Sb _) (by rw [<- hG];simp [bE]) hlen.symm nofun hF
theorem dX.mkT {f:FuncId} {fn:Func} {body:Code} {QV:List AV} {H':AH} {r:AV} (hf:P.funcs[f]? = QZ fn) (hb:fn.body=QZ body) (hcall:iH P f=QX) (hn:R8 QV.length fn.ntmps=QX)
 (hok:codeOk fn.ntmps body=QX) {e0:Env} (hw:CV (KO QV) e0) (h:T P fn.ntmps H.length body (SQ H.length<|Fin P fn λr0 G=>r0=r/\G=H') e0 H):dX P f QV H r H':=(fG.mkT hf hb hcall hn hok hw h.leaf).acall
theorem aO {S:Nat->Nat->Prop}:∀ (n:Nat) (a:AV),isF n a=QX->Ren S a a
 | 0,_,h=>by cases h
 | n+1,a,h=>by
  cases a with
  | v x=>exact .v
  | nil=>exact .nil
  | sl k row=>exact .sl
  | fp row j=>exact .fp
  | agg cs=>
   simp only [isF,R7] at h;exact .agg rfl (λi c d hc hd=>by obtain ⟨rfl,hm⟩:=dY hc hd;exact aO n _<|h _ hm)
  | tup cs=>
   simp only [isF,R7] at h;exact .tup rfl (λi c d hc hd=>by obtain ⟨rfl,hm⟩:=dY hc hd;exact aO n _<|h _ hm)
  | fn f cs=>
   simp only [isF,R7] at h;exact .fn rfl (λi c d hc hd=>by obtain ⟨rfl,hm⟩:=dY hc hd;exact aO n _<|h _ hm)
  | ifc t x=>
   simp only [isF] at h;exact .ifc<|aO n x h
  | hs b q s o l=>cases h
  | hp b q s i j=>cases h
  | mp b s=>cases h
  | top=>cases h
def wB (k:ABlk):Prop:=∀ r∈k.rows,∀ a∈r,isF 9 a=QX
theorem RenK.ofF {S:Nat->Nat->Prop} {k:ABlk} (h:wB k):RenK S k k:=⟨rfl,rfl,rfl,rfl,λi r r' hr hr'=>by
 obtain ⟨rfl,hm⟩:=dY hr hr';exact ⟨rfl,λj a a' ha ha'=>by
  obtain ⟨rfl,hm2⟩:=dY ha ha';exact aO 9 a (h r hm a hm2)⟩⟩
inductive RenL (S:Nat->Nat->Prop):List AV->List AV->Prop
 | nil:RenL S [] []
 | cons {a b:AV} {l k:List AV} (h:Ren S a b) (t:RenL S l k):RenL S (a::l) (b::k)
theorem RenL.spec {S:Nat->Nat->Prop} {l k:List AV} (h:RenL S l k):l.length=k.length/\∀ (i:Nat) (c d:AV),l[i]? = QZ c->k[i]? = QZ d->Ren S c d:=by
 induction h with
 | nil=>simp_all
 | cons h t ih=>
  grind
theorem Ren.pF {S:Nat->Nat->Prop} {a:AV} (h:isF 9 a=QX):Ren S a a:=aO 9 a h
theorem dX.one {f:FuncId} {as0 QV:List AV} {r:AV} {k k':ABlk} (h:dX P f as0 [QZ k] r [QZ k']) (b:Nat) (hb:H[b]? = QZ (QZ k)) (has:RenL (λc i=>[b][i]? = QZ c) QV as0) (hk:wB k) (hk':wB k') (hr:isF 9 r=QX) :
  dX P f QV H r (H.set b<|QZ k'):=by
 have hlt:b<H.length:=(ges hb).1;refine h.frame [b] (by simp) rfl (λi c hi=>?_) has.spec.1 has.spec.2 ⟨by simp,by simp,λi c hi hs hn=>?_,λi c k0 hs hg=>?_,λc hc hni=>?_⟩<|aO 9 r hr
 ·cases i with
  | zero=>
   simp only [Sk,sie] at hi;subst hi;exact ⟨k,k,hb,rfl,.ofF hk⟩
  | succ i=>simp at hi
 ·cases i with
  | zero=>simp at hn
  | succ i=>simp at hi
 ·cases i with
  | zero=>
   simp only [Sk,sie] at hg;subst hg;have hc:c=b:=by
    rcases hs with hs | ⟨hs,_⟩
    ·simpa using hs.symm
    simp at hs
   subst hc;exact ⟨k',by simp [hlt],.ofF hk'⟩
  | succ i=>simp at hg
 grind
theorem dX.fresh {f:FuncId} {QV:List AV} {ver s i j:Nat} {k:ABlk} (h:dX P f QV [] (.hp 0 ver s i j) [QZ k]) (has:QV.all (isF 9)=QX) (hk:wB k) (n:Nat) (hn:H.length=n):dX P f QV H (.hp n ver s i j) (H++[QZ k]):=by
 subst hn;refine h.frame [] (by simp) rfl (λi c hi=>by grind) rfl (λi c d hc hd=>?_) ⟨by simp,by simp,λi c hi hs hn=>?_,λi c k0 hs hg=>?_,λc hc hni=>gal hc⟩<|.hp<|.inr ⟨Sq _,by simp⟩
 ·obtain ⟨rfl,hm⟩:=dY hc hd;exact aO 9 c<|R7.1 has _ hm
 ·simp_all
 cases i with
 | zero=>
  simp only [Sk,sie] at hg;subst hg;have hc:c=H.length:=by
   rcases hs with hs | ⟨_,hs⟩
   ·grind
   omega
  subst hc;exact ⟨k,by simp,.ofF hk⟩
 | succ i=>grind
theorem ak {ver s:Nat} {ty:TypeId} {r:List AV} (h:r.all (isF 9)=QX):wB ⟨ver,s,ty,[r]⟩:=λq hq a ha=>by
 simp_all
theorem HQ {α:Type} {ver s:Nat} {ty:TypeId} {f:α->List AV} {l:List α} (h:∀ x,(f x).all (isF 9)=QX):wB ⟨ver,s,ty,l.map f⟩:=λq hq a ha=>by
 grind
open Classical in
def DU {α:Type} (f:Nat->Option α):Option α:=if h:∃ r,∃ N,∀ n,N<=n->f n=QZ r then QZ h.choose else Q0
theorem lG {α:Type} {f:Nat->Option α} {r:α} (h:DU f=QZ r):∃ n,f n=QZ r:=by
 unfold DU at h
 split at h
 ·rename_i hx;injection h with h;obtain ⟨N,hN⟩:=hx.choose_spec;exact ⟨N,h ▸ hN N (Sb _)⟩
 grind
theorem vp {α:Type} {f:Nat->Option α} {r:α} (N:Nat) (h:∀ n,N<=n->f n=QZ r):DU f=QZ r:=by
 have hx:∃ r,∃ N,∀ n,N<=n->f n=QZ r:=⟨r,N,h⟩;unfold DU;rw [dif_pos hx];obtain ⟨M,hM⟩:=hx.choose_spec;have h1:=hM (max M N) (by omega)
 grind
theorem Fz.fpL {m b ver s i j:Nat} {ty:TypeId} {rows:List (List AV)} {r row':List AV} (hm:R8 m b=QX) (hk:H[b]? = QZ (QZ ⟨ver,s,ty,rows⟩)) (hi:rows[i]? = QZ r) (h:FzL m H r row'):Fz m H (.hp b ver s i j) (.fp row' j):=
 .hp (nlb hm) hk rfl rfl hi h.spec.1 h.spec.2
end
def agree (F:List Nat) (G H:AH):Prop:=G.length=H.length/\∀ b∈F,G[b]? = H[b]?
def qU (P:Program) (o:Oper) (ρ:Operand->AV) (H:AH) (r:AV) (H':AH) (F:List Nat):Prop:=
 H'.length=H.length/\(∀ b,b∉F->H'[b]? = H[b]?)/\∀ G,agree F G H->∃ G',G'.length=G.length/\(∀ b∈F,G'[b]? = H'[b]?)/\(∀ b,b∉F->G'[b]? = G[b]?)/\QC P o ρ G r G'
section
variable {P:Program} {o:Oper} {ρ:Operand->AV} {H H':AH} {r:AV} {F:List Nat}
theorem qU.op (h:qU P o ρ H r H' F):QC P o ρ H r H':=by
 obtain ⟨h1,h2,h3⟩:=h;obtain ⟨G',g1,g2,g3,g4⟩:=h3 H ⟨rfl,λ_ _=>rfl⟩;have : G'=H':=by
  apply Sn;intro b
  by_cases hb:b∈F
  ·exact g2 b hb
  rw [g3 b hb,h2 b hb]
 simp_all
theorem qU.congr {ρ':Operand->AV} (h:qU P o ρ H r H' F) (he:∀ x∈o.op.operands,ρ x=ρ' x):qU P o ρ' H r H' F:=by
 obtain ⟨h1,h2,h3⟩:=h;refine ⟨h1,h2,λG hG=>?_⟩;obtain ⟨G',g1,g2,g3,g4⟩:=h3 G hG;exact ⟨G',g1,g2,g3,g4.congr he⟩
theorem qU.at_ {G:AH} (h:qU P o ρ H r H' F) (hG:agree F G H):∃ G',G'.length=G.length/\(∀ b∈F,G'[b]? = H'[b]?)/\(∀ b,b∉F->G'[b]? = G[b]?)/\qU P o ρ G r G' F:=by
 obtain ⟨h1,h2,h3⟩:=h;obtain ⟨G',g1,g2,g3,g4⟩:=h3 G hG;refine ⟨G',g1,g2,g3,g1,g3,λK hK=>?_⟩;obtain ⟨K',k1,k2,k3,k4⟩:=h3 K ⟨hK.1.trans hG.1,λb hb=>(hK.2 b hb).trans<|hG.2 b hb⟩
 grind
abbrev Fp:=List Nat×Bool
def og (a b:Fp):Bool:=a.1.all (λx => !b.1.contains x)||(!a.2 && !b.2)
def KA (P:Program) (ops:Array Oper) (fp:Nat->Fp) (Q:Env->AH->Prop):Nat->Array Bool->Env->AH->Prop
 | 0,listed,e,H=>Region.ready .any ops listed=[]/\Q e H
 | fuel+1,listed,e,H=>(Region.ready .any ops listed=[]->Q e H) /\
  ∀ i∈Region.ready .any ops listed,∃ o r H',ops[i]? = QZ o/\qU P o (rho e) H r H' (fp i).1/\((fp i).2=QY->H'=H)/\KA P ops fp Q fuel (listed.setIfInBounds i QX) (sI e o.dst r) H'
theorem HY {ops:Array Oper} {fp:Nat->Fp} {Q:Env->AH->Prop} {i:Nat} {oi:Oper} {r:AV} (hi:ops[i]? = QZ oi) :
  ∀ (fuel:Nat) (listed:Array Bool) (e:Env) (H Hi:AH),
   (∀ (j:Nat) (oj:Oper),ops[j]? = QZ oj->j≠i->listed.getD j QX=QY->(∀ ed∈oj.after,Region.binds .any ed=QX->ed.on≠i)->oi.apart ops oj=QX/\og (fp i) (fp j)=QX) ->
   i∈Region.ready .any ops listed->qU P oi (rho e) H r Hi (fp i).1->((fp i).2=QY->Hi=H)->KA P ops fp Q fuel (listed.setIfInBounds i QX) (sI e oi.dst r) Hi->KA P ops fp Q (fuel+1) listed e H:=by
 intro fuel
 induction fuel with
 | zero=>
  intro listed e H Hi _ hr hy hro hA;refine ⟨λh=>(by simp_all),λj hj=>?_⟩
  by_cases hji:j=i
  ·grind
  have := ready_mono hj hji;rw [hA.1] at this
  grind
 | succ fuel ih=>
  intro listed e H Hi hfree hr hy hro hA;refine ⟨λh=>(by simp_all),λj hj=>?_⟩
  by_cases hji:j=i
  ·grind
  obtain ⟨oj,q,Hj,hoj,hsj,hroj,hAj⟩:=hA.2 j<|ready_mono hj hji;obtain ⟨hjun,oj',Ac,hall⟩:=mem_ready.1 hj;rw [hoj] at Ac;injection Ac with Ac;subst Ac;have hnot:∀ ed∈oj.after,Region.binds .any ed=QX->ed.on≠i:=λed he hb heq=>by
   have h1:=hall ed he hb;have h0:=(mem_ready.1 hr).1;rw [heq] at h1;rcases Su i listed.size with h' | h'
   ·simp [h'] at h0 h1;rw [h0] at h1;cases h1
   simp [SD h'] at h1
  obtain ⟨hap,hcm⟩:=hfree j oj hoj hji hjun hnot;obtain ⟨h1,h2,h3⟩:=Oper.apart_spec hap;have ej:=sM (e:=e) (r:=r) h1;have ei:=sM (e:=e) (oi:=oj) (r:=q) h3;have hsj':=hsj.congr ej;have hfree':∀ (k:Nat) (ok:Oper),ops[k]? = QZ ok->k≠i->(listed.setIfInBounds j QX).getD k QX=QY->(∀ ed∈ok.after,Region.binds .any ed=QX->ed.on≠i)->oi.apart ops ok=QX/\og (fp i) (fp k)=QX:=λk ok hk hki hun hno=>by
   refine hfree k ok hk hki ?_ hno
   by_cases hjk:j=k
   ·subst hjk;exact hjun
   rw [getD_set_ne QX hjk] at hun;exact hun
  have fin:∀ Hj',qU P oj (rho e) H q Hj' (fp j).1->((fp j).2=QY->Hj'=H)->qU P oi (rho e) Hj' r Hj (fp i).1->((fp i).2=QY->Hj=Hj')->∃ o r' H',ops[j]? = QZ o/\qU P o (rho e) H r' H' (fp j).1/\((fp j).2=QY->H'=H)/\KA P ops fp Q (fuel+1) (listed.setIfInBounds j QX) (sI e o.dst r') H':=λHj' s1 s1' s2 s2'=>by
   refine ⟨oj,q,Hj',hoj,s1,s1',ih (listed.setIfInBounds j QX) (sI e oj.dst q) Hj' Hj hfree' (ready_mono hr<|Ne.symm hji) (s2.congr λx hx=>(ei x hx).symm) s2' ?_⟩;rw [Array.setIfInBounds_comm _ _ hji,yc (λd hd=>λhd'=>h2 d (by simpa using hd')<|by simpa using hd)];exact hAj
  simp only [og,Bool.or_eq_true,bae,Bool.not_eq_true',R7,List.contains_eq_mem,decide_eq_false_iff_not] at hcm;rcases hcm with hdis | ⟨w1,w2⟩
  ·have hag:agree (fp j).1 H Hi:=⟨hy.1.symm,λb hb=>(hy.2.1 b λhbi=>hdis b hbi hb).symm⟩;obtain ⟨Hj',a1,a2,a3,a4⟩:=hsj'.at_ hag;have hag2:agree (fp i).1 Hj' H:=⟨a1,λb hb=>a3 b<|hdis b hb⟩;obtain ⟨K,b1,b2,b3,b4⟩:=hy.at_ hag2;have hKH:K=Hj:=by
    apply Sn;intro b
    by_cases hbi:b∈(fp i).1
    ·rw [b2 b hbi,hsj'.2.1 b (hdis b hbi)]
    rw [b3 b hbi]
    by_cases hbj:b∈(fp j).1
    ·exact a2 b hbj
    rw [a3 b hbj,hsj'.2.1 b hbj,hy.2.1 b hbi]
   subst hKH;refine fin Hj' a4 (λhw=>?_) b4 λhw=>?_
   ·apply Sn;intro b
    by_cases hbj:b∈(fp j).1
    ·rw [a2 b hbj,hroj hw,hy.2.1 b (λhbi=>hdis b hbi hbj)]
    exact a3 b hbj
   apply Sn;intro b
   by_cases hbi:b∈(fp i).1
   ·rw [b2 b hbi,hro hw,a3 b (hdis b hbi)]
   exact b3 b hbi
  grind
def Oc (ops:Array Oper) (fp:Nat->Fp):Bool:=
 Region.lexB .any ops&&ops.all (λo=>o.guard.isNone) &&
 (R9 ops.size).all λi=>(R9 ops.size).all λj=>Q3 (j<=i)||og (fp i) (fp j)||match ops[j]? with
  | some oj=>oj.after.any λed=>Region.binds .any ed&&ed.on==i
  | none=>QX
def TF (P:Program) (fp:Nat->Fp):Nat->List Oper->(Env->AH->Prop)->Env->AH->Prop
 | _,[],K,e,H=>K e H
 | k,o::rest,K,e,H=>∃ r H',qU P o (rho e) H r H' (fp k).1/\((fp k).2=QY->H'=H)/\TF P fp (k+1) rest K (sI e o.dst r) H'
theorem I6 {ops:Array Oper} {fp:Nat->Fp} {Q:Env->AH->Prop} (hc:Oc ops fp=QX):∀ (l:List Oper) (k:Nat) (listed:Array Bool) (e:Env) (H:AH),(∀ j,l[j]? = ops[k+j]?)->listed.size=ops.size->(∀ j,j<k->listed.getD j QX=QX) ->
  Region.lexFrom .any ops l.length k listed=QX->TF P fp k l Q e H->KA P ops fp Q l.length listed e H
 | [],k,listed,e,H,_,_,_,hB,h=>⟨by simpa [Region.lexFrom] using hB,h⟩
 | o::l,k,listed,e,H,hl,hsz,hbef,hB,h=>by
  have h0:ops[k]? = QZ o:=by simpa using (hl 0).symm
  have hk:k<ops.size:=(SA.1 h0).1;simp only [llc,Region.lexFrom,bae] at hB;obtain ⟨⟨hr,hf⟩,hB'⟩:=hB;obtain ⟨r,H',hs,hro,hK⟩:=h;refine HY h0 l.length listed e H H' (λj oj hj hne hun hno=>⟨Region.free_spec h0 hf j oj hj hne hun hno,?_⟩) (by simp_all) hs hro
   (I6 hc l (k+1) _ _ _ (λj=>by have := hl<|j+1;grind) (by simp_all) (λj hj=>?_) hB' hK)
  ·have hjs:j<ops.size:=(SA.1 hj).1;have hkj : ¬ j<=k:=λhle=>by
    grind
   simp only [Oc,bae,R7,List.mem_range] at hc;have := hc.2 k hk j hjs;simp only [hj,Bool.or_eq_true,dte,hkj,false_or] at this;rcases this with h1 | h1
   ·exact h1
   rw [Array.any_eq_true'] at h1
   grind
  by_cases e:j=k
  ·simp_all
  rw [getD_set_ne QX (Ne.symm e)]
  grind
theorem yV {nt:Nat} {ops:Array Oper} {fp:Nat->Fp} {Q:Exit->Env->AH->Prop} (hd:Hy nt ops.toList=QX) (hg:ops.all (λo=>o.guard.isNone)=QX):∀ (fuel:Nat) (listed:Array Bool) (e:Env) (H:AH),KA P ops fp (Q .normal) fuel listed e H ->
  ∀ (c c0:Cx) (a:Act),c.H=H->Ext c0 c->SRel c nt e a->wpAny P .any ops (NF nt c0 Q) fuel listed a c.w
 | 0,listed,e,H,h,c,c0,a,hH,hx,hs=>⟨h.1,trivial,c,e,rfl,hx,hs,hH ▸ h.2⟩
 | fuel+1,listed,e,H,h,c,c0,a,hH,hx,hs=>by
  refine ⟨λhr=>⟨trivial,c,e,rfl,hx,hs,hH ▸ h.1 hr⟩,λi hi=>?_⟩;obtain ⟨o,r,H',ho,hst,_,hA⟩:=h.2 i hi;have hm:o∈ops.toList:=by rw [Si];exact Sj ho
  have hgn:o.guard=Q0:=by
   rw [Array.all_eq_true] at hg;obtain ⟨hlt,rfl⟩:=SA.1 ho;simpa using hg i hlt
  have hw:Region.wanted o (yielded ops a.tmps)=QX:=by simp [Region.wanted,hgn]
  unfold wpOp;simp only [ho];rw [if_pos hw];refine .inl<|hst.op c a _ _ hH hs.heap (λx _=>hs.rho x) λv c' hH' hr' hx' hv=>?_;exact yV hd hg fuel _ _ H' hA c' c0 _ hH' (hx.trans hx')<|hs.put o.dst (nR hd hm) hx' hr' hv
end
section
variable {P:Program} {nt b0:Nat} {Q:Exit->Env->AH->Prop} {e:Env} {H H':AH} {r:AV}
theorem T.drawF {i:Nat} {ops:Array Oper} (fp:Nat->Fp) (hm:P.follows .mixedOrders=QX) (hc:Oc ops fp=QX) (h:TF P fp 0 ops.toList (Q .normal) e H):T P nt b0 (.region i ops QX) Q e H:=by
 intro hok c c0 a hH hb hx hs;simp only [codeOk] at hok;have hc':=hc;simp only [Oc,bae,Region.lexB] at hc';refine wp_region_any hm ?_;have hlex:=I6 hc ops.toList 0 (Sz ops.size QY) e H (λj=>by simp) (by simp) (λj hj=>absurd hj<|by omega) (by simp_all) h;have := yV hok hc'.1.2 ops.toList.length _ e H hlex c.drew c0 a hH (hx.trans c.drew_ext) ⟨hs.size,hs.defers,λt=>(hs.rel t).ext hs.heap c.drew_ext,Cx.drew_rel hs.heap⟩;rw [SI] at this;exact this
variable {d:Tmp} {op:Op} {ty:TypeId} {pos:String} {af:Array Edge} {en:List (Nat×AV)} {fp:Nat->Fp} {i:Nat} {K:Env->AH->Prop} {l:List Oper}
theorem TF.nil {k:Nat} (h:K e H):TF P fp k [] K e H:=h
theorem FO {o:Oper} {ρ:Operand->AV} (hv:QE P ρ o.op r):qU P o ρ H r H []:=⟨rfl,λ_ _=>rfl,λG _=>⟨G,rfl,λ_ h=>(by cases h),λ_ _=>rfl,hv o rfl G⟩⟩
theorem FP {o:Oper} {ρ:Operand->AV} {F:List Nat} (hv:∀ G,agree F G H->EvA P ρ o.op G r G):qU P o ρ H r H F:=⟨rfl,λ_ _=>rfl,λG hG=>⟨G,rfl,hG.2,λ_ _=>rfl,hv G hG o rfl⟩⟩
theorem I7 {o:Oper} {ρ:Operand->AV} {F:List Nat} (b:Nat) (X:Option ABlk) (hb:b<H.length) (hv:∀ G,agree (b::F) G H->EvA P ρ o.op G r (G.set b X)):qU P o ρ H r (H.set b X) (b::F):=by
 refine ⟨by simp,λc hc=>Sf λh=>hc (by simp [h]),λG hG=>⟨G.set b X,by simp,λc hc=>?_,λc hc=>Sf λh=>hc (by simp [h]),hv G hG o rfl⟩⟩
 by_cases e:c=b
 ·subst e;rw [SB (by rw [hG.1];exact hb),SB hb]
 rw [Sf (Ne.symm e),Sf (Ne.symm e)];exact hG.2 c hc
theorem fN (hc:fp i=([],QY)) (hv:QE P (rho<|ai en) op r) (h:TF P fp (i+1) l K (ai ((d,r)::en)) H):TF P fp i (⟨QZ d,op,ty,pos,af,Q0⟩::l) K (ai en) H:=
 ⟨r,H,by rw [hc];exact FO hv,λ_=>rfl,h⟩
theorem fR (F:List Nat) (hc:fp i=(F,QY)) (hv:∀ G,agree F G H->EvA P (rho<|ai en) op G r G) (h:TF P fp (i+1) l K (ai ((d,r)::en)) H):TF P fp i (⟨QZ d,op,ty,pos,af,Q0⟩::l) K (ai en) H:=
 ⟨r,H,by rw [hc];exact FP hv,λ_=>rfl,h⟩
theorem fW (b:Nat) (F:List Nat) {X:Option ABlk} (hc:fp i=(b::F,QX)) (hb:R6 b H.length=QX) (hv:∀ G,agree (b::F) G H->EvA P (rho<|ai en) op G r (G.set b X)) (h:TF P fp (i+1) l K (ai ((d,r)::en))<|H.set b X):TF P fp i (⟨QZ d,op,ty,pos,af,Q0⟩::l) K (ai en) H:=
 ⟨r,H.set b X,by rw [hc];exact I7 b X (nlb hb) hv,λh=>(by simp_all),h⟩
theorem fV (b:Nat) (F:List Nat) {X:Option ABlk} (hc:fp i=(b::F,QX)) (hb:R6 b H.length=QX) (hv:∀ G,agree (b::F) G H->EvA P (rho<|ai en) op G r (G.set b X)) (h:TF P fp (i+1) l K (ai en)<|H.set b X):TF P fp i (⟨Q0,op,ty,pos,af,Q0⟩::l) K (ai en) H:=
 ⟨r,H.set b X,by rw [hc];exact I7 b X (nlb hb) hv,λh=>(by simp_all),h⟩
theorem agree.a0 {b:Nat} {F:List Nat} {G:AH} (h:agree (b::F) G H) {x:Option ABlk} (hx:H[b]? = QZ x):G[b]? = QZ x:=(h.2 b<|by simp).trans hx
theorem agree.a1 {b c:Nat} {F:List Nat} {G:AH} (h:agree (c::b::F) G H) {x:Option ABlk} (hx:H[b]? = QZ x):G[b]? = QZ x:=(h.2 b<|by simp).trans hx
theorem agree.a2 {a b c:Nat} {F:List Nat} {G:AH} (h:agree (a::c::b::F) G H) {x:Option ABlk} (hx:H[b]? = QZ x):G[b]? = QZ x:=(h.2 b<|by simp).trans hx
end
section
variable {P:Program} {ρ:Operand->AV} {H:AH} {x y:Operand} {t e:TypeId}
theorem FRel.move {w w':World} {fz fz':Nat->Prop} {a:AV} {v:Value} (h:FRel w fz a v) (hf:∀ g,fz g->w'.heap[g]? = w.heap[g]? /\ fz' g/\g<w'.heap.size):FRel w' fz' a v:=by
 induction h with
 | v h=>exact .v h
 | agg hl h1 _ ih=>exact .agg hl h1 ih
 | tup hl _ ih=>exact .tup hl ih
 | nil=>exact .nil
 | @sl n cap s g o row a us hc hm ha hr hu h1 _ ih=>
  refine .sl (g:=g) (o:=o) us hc hm (λhn=>?_) hr (λi j c hi hj=>?_) h1 ih
  ·simp_all
  obtain ⟨_,hg,hlt⟩:=ha (by omega);rw [World.cell?_of_block (w:=w) (hf g hg).1]
  simp_all
 | @fp row j g o us hg hlt hu h1 _ ih=>
  refine .fp us (hf g hg).2.1 (hf g hg).2.2 (λj c hj=>?_) h1 ih;rw [World.cell?_of_block (w:=w) (hf g hg).1]
  simp_all
 | ifc _ ih=>exact .ifc ih
 | fn hl _ ih=>exact .fn hl ih
theorem KM.at_ {o:Oper} {k:ABlk} {r r0:AV} {b:Nat} (h:KM P o ρ H k r) (hb:H[b]? = QZ Q0) (hF:wB k) (hr0:(∃ n,r = .hs H.length k.ver k.s 0 n/\r0 = .hs b k.ver k.s 0 n)\/∃ i j,r = .hp H.length k.ver k.s i j/\r0 = .hp b k.ver k.s i j):QC P o ρ H r0 (H.set b<|QZ k):=by
 intro c a K Q hH hr hx hK;obtain ⟨cs,v,h1,h2,h3⟩:=h c a hH hr hx;subst hH;have hN:=Cx.new_live_new c k cs;obtain ⟨cs',fr,hB⟩:=h2.blk _ _ hN;have hφ:(c.new k cs).φ c.H.length=(c.w.heap.size,0):=if_pos rfl;have hcs:cs'=cs:=by
  have hat:=hB.at_;rw [hφ] at hat;have h4:(c.new k cs).w.heap[c.w.heap.size]? = QZ (.cells cs k.ty (0,0)):=heap_alloc_new _ _;simp only at hat;rw [h4] at hat
  cases fr with
  | none=>
   injection hat with hat
   cases hat
  | some fr=>
   injection hat with hat;injection hat with hat
   simp_all
 subst hcs;have hfit:=hB.fits;rw [hφ] at hfit;simp only [Sd] at hfit;have hrel:=Cx.newAt_rel (c:=c) (b:=b) (k:=k) (cs:=cs') hr hb hB.pos hfit hB.len (λi row j a' g1 g2=>by
  obtain ⟨u,g3,g4,g5⟩:=hB.rel i row j a' g1 g2;rw [hφ] at g3;simp only [Sd] at g3;refine ⟨u,g3,g4,.fr ?_⟩;have hf:=yR 9 a' u (hF row (SJ g1) a' (SJ g2)) g5;exact hf.move λg hg=>⟨(Below.heap_alloc _ _ _ (hr.lt g hg)).symm,hg,hr.lt g hg⟩)
 have hl2:=Cx.newAt_self (c:=c) (k:=k) (cs:=cs') hb;have hφ2:(c.newAt b k cs').φ b=(c.w.heap.size,0):=if_pos rfl;have hh2:(c.newAt b k cs').hd b k.ver=QZ ⟨c.w.heap.size,0,k.s,k.rows.length,cs'.size⟩:=by
  have := Cx.hd_of hl2 (o:=.cells cs' k.ty (0,0)) (by rw [hφ2];exact heap_alloc_new _ _);rw [hφ2] at this;exact this
 have hborn:(c.newAt b k cs').born b k.ver:=by
  unfold Cx.born;rw [show (c.newAt b k cs').H[b]? = QZ (QZ k) from hl2];exact Sb _
 unfold Oper.wp;rw [h1];refine hK v (c.newAt b k cs') rfl hrel (Cx.newAt_ext hr hb) ?_;rcases hr0 with ⟨n,rfl,rfl⟩ | ⟨i,j,rfl,rfl⟩
 ·cases h3 with
  | fr h=>cases h
  | hs hb' hc hm h0 hx'=>
   have h5:=hx' _<|Cx.new_hd c k cs';refine .hs hborn hc hm h0 λx hx=>?_
   simp_all
 cases h3 with
 | fr h=>cases h
 | hp hb' hx'=>
  have h5:=hx' _<|Cx.new_hd c k cs';refine .hp hborn λx hx=>?_
  simp_all
theorem EvA.alR {zs:List AV} (b:Nat) (z:TyZ P t zs) (hn:(R6 0 zs.length)=QX) (hF:zs.all (isF 9)=QX) (hb:H[b]? = QZ Q0):EvA P ρ (.alloc t) H (.hp b 0 zs.length 0 0) (H.set b<|QZ ⟨0,zs.length,t,[zs]⟩):=λo ho=>by
 have hz:=z.z;have ho':=z.one
 cases hi:P.info? t with
 | none=>simp_all
 | some i=>
  rw [hi] at hz ho'
  cases hzz:i.zero with
  | none=>simp_all
  | some zv=>
   simp only [Sg,hzz,Sa,sie] at hz ho';have h:=C0 (P:=P) (ρ:=ρ) (H:=H) ho hi hzz (by simp_all) ho';rw [hz] at h;exact h.at_ hb (ak hF)<|.inr ⟨0,0,rfl,rfl⟩
theorem EvA.mkOR {α:Type} {c:α->List AV} {ag:Bool} {w m:Nat} {zs:List AV} {n:Nat} {parts:Array (Nat×Operand)} (b:Nat) (k:List α) (rows:List<|List AV) (q:SlT P t e ag w zs m) (hr:kQ (parts.toList.map λp=>(ρ p.2).cells)=QZ rows) (hn:(R6 0 w&&R8 (n*w) 16777216&&(parts.toList.map (·.1)==R9 n))=QX) (hk:rows=k.map c) (hc:∀ x,(c x).length=w) (hF:∀ x,(c x).all (isF 9)=QX) (hlen:k.length=n) (hb:H[b]? = QZ Q0) :
  EvA P ρ (.buildSlice t n parts) H (hS QY b 0 w k.length) (H.set b<|bE QY 0 w e<|k.map c):=λo ho=>by
 subst hk;subst hlen;simp only [bae,beq_iff_eq] at hn;have hz:=MG q.z (q.zl.trans q.ty.cells.symm);have h:=p9 (P:=P) (ρ:=ρ) (H:=H) ho q.u hr (by rw [q.ty.cells];simp_all) (by rw [q.ty.cells];simp_all) hn.2 hz q.z.one (λrow hrow=>by
  obtain ⟨x,_,rfl⟩:=Sy.1 hrow;rw [hc,q.ty.cells])
 rw [q.ty.cells] at h;exact h.at_ hb (HQ hF)<|.inl ⟨_,rfl,rfl⟩
end
section
variable {P:Program} {nt b0:Nat} {Q:Exit->Env->AH->Prop} {H:AH} {ops:Array Oper} {l:List Oper} {d:Tmp} {x y:Operand} {t u e:TypeId} {ty:TypeId} {pos:String} {af:Array Edge} {en:List (Nat×AV)} {α:Type} [Inhabited α] {c:α->List AV} {xs:List α}
theorem I8 (w:World) (dd:Nat) (A:Option Addr) (n cap:Nat) (hu:P.underlying t=QZ (.slice e)):(Op.equalIn (dd+1) t (.slice A n cap)<|.slice Q0 0 0).run P w = .ok A.isNone w:=by
 cases A <;> simp [Op.equalIn,ay hu]
theorem wm (w:World) (A:Option Addr) (n cap:Nat) (hu:P.underlying t=QZ (.slice e)):(Op.equal t (.slice A n cap)<|.slice Q0 0 0).run P w = .ok A.isNone w:=I8 w 9999 A n cap hu
theorem I9 {C:Cx} {v:Value} (h:C.rel (eL c xs) v):∃ A n cap,v = .slice A n cap/\(A=Q0->xs=[]):=by
 have h:=uB h;unfold eL at h;generalize hn:xs.length=n at h
 cases h with
 | @sl _ cap s g o row a us hc hm ha hs hu2 h1 h3=>
  grind
theorem Qm (neq:Bool) (hu:P.underlying t=QZ (.slice e)) (hx:rho (ai en) x=eL c xs) (hy:rho (ai en) y = .nil) (h1:xs=[]->TO P nt b0 ops l Q (ai ((d,Bo<|!neq)::en)) H) (h2:TO P nt b0 ops l Q (ai ((d,Bo neq)::en)) H) :
  TO P nt b0 ops (⟨QZ d,.binOp (bif neq then .neq else .eql) t x y u,ty,pos,af,Q0⟩::l) Q (ai en) H:=by
 intro hd k hl hn C c0 a hH hb hex hr;have ox:=hr.rho x;have oy:=hr.rho y;rw [hx] at ox;rw [hy] at oy;obtain ⟨A,n,cap,hv,hA⟩:=I9 ox;have hv2:=eX oy;have hrun:(execOp a.eval (⟨QZ d,.binOp (bif neq then .neq else .eql) t x y u,ty,pos,af,Q0⟩:Oper)).run P C.w = .ok (.value<|.bool<|A.isNone != neq) C.w:=by
  have e1:∀ op,execOp a.eval (⟨QZ d,.binOp op t x y u,ty,pos,af,Q0⟩:Oper)=(do pure (Next.value<|<- (do eqGuard op t x y (a.eval x) (a.eval y);binOp op t (a.eval x)<|a.eval y)):Sem Next):=λop=>by rw [execOp]
  rw [e1];refine vg _ ?_;rw [hv,hv2]
  cases neq
  ·simp only [cond_false,Bool.bne_false];have : (eqGuard .eql t x y (.slice A n cap)<|.slice Q0 0 0).run P C.w = .ok () C.w:=by simp [eqGuard]
   simp only [Sem.run_bind,this,Result.andThen_ok,binOp,wm C.w A n cap hu,Sem.run_pure]
  simp only [cond_true,Bool.bne_true];have : (eqGuard .neq t x y (.slice A n cap)<|.slice Q0 0 0).run P C.w = .ok () C.w:=by simp [eqGuard]
  simp only [Sem.run_bind,this,Result.andThen_ok,binOp,wm C.w A n cap hu,Sem.run_pure]
 have h0:ops[k]? = QZ (⟨QZ d,.binOp (bif neq then .neq else .eql) t x y u,ty,pos,af,Q0⟩:Oper):=by simpa using (hl 0).symm
 have ho:(⟨QZ d,.binOp (bif neq then .neq else .eql) t x y u,ty,pos,af,Q0⟩:Oper)∈ops.toList:=by rw [Si];exact Sj h0
 have hl':∀ j,l[j]? = ops[k+1+j]? := λj=>by have := hl<|j+1;grind
 simp only [llc] at hn;simp only [llc,Sr,wpOps,h0];rw [if_pos (yS.free (ops:=ops) (e:=ai en) rfl nt C a hr)];refine .inl ?_;unfold Oper.wp;rw [hrun];have fin:TO P nt b0 ops l Q (ai ((d,Bo<|A.isNone != neq)::en)) H:=by
  cases A with
  | none=>simp_all
  | some ad=>simp_all
 exact fin hd (k+1) hl' (by omega) C c0 _ hH hb hex<|hr.put (QZ d) (nR hd ho) (Ext.refl C) hr.heap<|cO rfl
omit [Inhabited α] in
end
set_option maxRecDepth 100000
section
variable {P:Program}
def OpG (P:Program) (o:Oper) (ρ:Operand->AV) (H:AH) (R:AV->AH->Prop):Prop:=
 ∀ (c:Cx) (a:Act) (K:Act->World->Prop) (Q:Exit->Act->World->Prop),c.H=H->HRel c->(∀ x∈o.op.operands,c.rel (ρ x)<|a.eval x) ->
  (∀ v c' r,R r c'.H->HRel c'->Ext c c'->c'.rel r v->K (a.put o.dst v) c'.w)->o.wp P a c.w K Q
theorem DV {o:Oper} {ρ:Operand->AV} {cl:Call} {f:Operand} {g:FuncId} {p6:List AV} {H:AH} {R:AV->AH->Prop} (ho:o.op = .call cl) (hc:cl.callee = .value f) (hf:ρ f = .fn (.func g) p6) (h:fG P g (cl.args.toList.map ρ++p6) H R):OpG P o ρ H R:=by
 intro c a K Q hH hr hxs hK;have hf1:=hf ▸ hxs f (by rw [ho];simp [Op.operands,Call.operands,hc]);obtain ⟨vs,he,hl,hrel⟩:=Bx hf1;have hargs:EF c (cl.args.toList.map ρ++p6) (cl.args.map a.eval++vs):=by
  refine ⟨by simp [hl],λi q v hq hv=>?_⟩;rcases Su i cl.args.size with hlt | hge
  ·rw [gal (by simpa using hlt),Ss,Sv,Se hlt] at hq;rw [SF (by simpa using hlt),Array.getElem?_map,Se hlt] at hv;simp only [Sa,sie] at hq hv;subst hq hv;refine hxs _ ?_;rw [ho];simp [Op.operands,Call.operands]
  rw [gar (by simpa using hge)] at hq;rw [Array.getElem?_append_right (by simpa using hge)] at hv;simp only [llm,SI,Array.size_map] at hq hv;exact hrel _ q v hq hv
 have hrun:(execOp a.eval o).run P c.w = .ok (.enter g<|cl.args.map a.eval++vs) c.w:=by
  rw [execOp,ho];simp only [resolve,hc,he,Deferred.ofValue,Sem.run_bind,Sem.run_pure,Result.andThen_ok,invoke];have := vk h.1 (cl.args.map a.eval++vs) c.w;simpa using this
 unfold Oper.wp;rw [hrun,Oper.upon_enter];refine (h.2 c _ hH hr hargs).mono λe w' ⟨v,c',r,he,hw,hR,hr',hx,hv⟩ => ?_
 grind
theorem TO.runG {nt b0:Nat} {Q:Exit->Env->AH->Prop} {e:Env} {H:AH} {ops:Array Oper} {o:Oper} {l:List Oper} {R:AV->AH->Prop} (hw:yS ops e o QX) (hv:OpG P o (rho e) H R) (h:∀ r H',R r H'->TO P nt b0 ops l Q (sI e o.dst r) H'):TO P nt b0 ops (o::l) Q e H:=by
 intro hd k hl hn c c0 a hH hb hx hr;have h0:ops[k]? = QZ o:=by simpa using (hl 0).symm
 have ho:o∈ops.toList:=by rw [Si];exact Sj h0
 have hl':∀ j,l[j]? = ops[k+1+j]? := λj=>by have := hl<|j+1;grind
 simp only [llc] at hn;simp only [llc,Sr,wpOps,h0];rw [if_pos (hw nt c a hr)];refine .inl<|hv c a _ _ hH hr.heap (λx _=>hr.rho x) λv c' r hR hr' hx' hv=>?_;exact h r c'.H hR hd (k+1) hl' (by omega) c' c0 _ rfl hb (hx.trans hx')<|hr.put o.dst (nR hd ho) hx' hr' hv
def Od (w:Nat) (ty:TypeId) (mk:AV->AV) (n:Nat) (rows:List<|List AV) (m:Nat) (H:AH):AV->AH->Prop:=λr G=>∃ g ver,(g=QX->n=0)/\r=mk (hS g m ver w n)/\G=H++[bE g ver w ty rows]
theorem fG.own {f:FuncId} {QV:List AV} {H:AH} {w:Nat} {ty:TypeId} {mk:AV->AV} {n:Nat} {rows:List (List AV)} (h:fG P f QV []<|Od w ty mk n rows 0 []) (has:QV.all (isF 9)=QX) (hk:∀ r∈rows,∀ a∈r,isF 9 a=QX)
  (hmk:∀ (S:Nat->Nat->Prop) (a b:AV),Ren S a b->Ren S (mk a) (mk b)) (m:Nat) (hm:H.length=m):fG P f QV H (Od w ty mk n rows m H):=by
 subst hm;refine h.frame [] (by simp) rfl (λi c hi=>by grind) rfl (λi c d hc hd=>?_) λr0 G0 ⟨g,ver,hg,hr0,hG0⟩ => ?_
 ·obtain ⟨rfl,hm⟩:=dY hc hd;exact aO 9 c<|R7.1 has _ hm
 subst hr0 hG0;have key:∀ i b,sg [] H.length i b->i<1->b=H.length:=λi b hs hi=>by
  rcases hs with hs | ⟨_,hs⟩
  ·simp at hs
  omega
 refine ⟨_,_,⟨by simp,by simp,λi b hi hs hn=>?_,λi b k0 hs hk0=>?_,λb hb _=>gal hb⟩,hmk _ _ _ ?_,⟨g,ver,hg,rfl,rfl⟩⟩
 ·grind
 ·have hi:i<1:=by
   have := (ges hk0).1;simpa using this
  obtain rfl:=key i b hs hi;obtain rfl:i=0:=by omega
  simp only [List.nil_append,Sk,sie] at hk0;refine ⟨k0,by grind,.ofF λr hr a ha=>?_⟩
  cases g with
  | true=>cases hk0
  | false=>
   obtain rfl:=osl hk0
   grind
 cases g with
 | true=>exact .nil
 | false=>exact .hs (.inr ⟨Sq _,by simp⟩)
def Qn (w:Nat) (ty:TypeId) (mk:AV->AV) (n:Nat) (rows:List<|List AV):AV->AH->Prop:=λr G=>∃ b g ver,(g=QX->n=0)/\r=mk (hS g b ver w n)/\(g=QY->G[b]? = QZ (QZ ⟨ver,w,ty,rows⟩))
theorem fG.mkO {f:FuncId} {fn:Func} {body:Code} {QV:List AV} {w:Nat} {ty:TypeId} {mk:AV->AV} {n:Nat} {rows:List (List AV)} (hf:P.funcs[f]? = QZ fn) (hb:fn.body=QZ body) (hcall:iH P f=QX) (hn:R8 QV.length fn.ntmps=QX)
  (hok:codeOk fn.ntmps body=QX) {e0:Env} (hw:CV (KO QV) e0) (hmk:∀ (S:Nat->Nat->Prop) (a b:AV),Ren S a b->Ren S (mk a) (mk b)) (hk:∀ r∈rows,∀ a∈r,isF 9 a=QX)
  (h:T P fn.ntmps 0 body (Fin P fn<|Qn w ty mk n rows) e0 []):fG P f QV [] (Od w ty mk n rows 0 []):=by
 have hB:=fG.mkT (H:=[]) hf hb hcall hn hok hw h;refine ⟨hB.1,λc vs hH hr hall=>(hB.2 c vs hH hr hall).mono λe w' ⟨v,c1,r,he,hw',⟨b,g,ver,hg,hr0,hG⟩,hr1,hx,hv⟩ => ?_⟩;subst hr0 hw';have hni:∀ b k,¬ c.live b k:=λb k hl=>by
  have hl':c.H[b]? = QZ (QZ k):=hl
  simp_all
 have hnb:∀ b ver,¬ c.born b ver:=λb ver hb=>by
  have hlt:=iz hb
  simp_all
 cases g with
 | true=>
  let c2:Cx:={ w:=c1.w,fz:=c1.fz,H:=[Q0],φ:=c1.φ };refine ⟨v,c2,mk .nil,he,rfl,⟨QX,ver,hg,rfl,rfl⟩,⟨hr1.lt,λb k hl=>?_,λb b' k k' hl _ _=>?_,hr1.gl⟩,⟨hx.os,hx.tape,hx.output,hx.size,λg hg _=>hx.keep g hg λb k hl=>absurd hl<|hni b k,hx.fz,hx.wN,?_,λb ver hb=>absurd hb<|hnb b ver,λb ver x hb=>absurd hb<|hnb b ver,λb k hl=>?_⟩,?_⟩
  ·exact absurd (show ([Q0]:AH)[b]? = QZ (QZ k) from hl) (by grind)
  ·exact absurd (show ([Q0]:AH)[b]? = QZ (QZ k) from hl) (by grind)
  ·simp_all
  ·exact absurd (show ([Q0]:AH)[b]? = QZ (QZ k) from hl) (by grind)
  exact Ren.rel (c1:=c1) (c2:=c2) (S:=λ_ _=>False) (Sb _) (λg hg _=>⟨rfl,hg⟩) (λ_ _ _ hS=>hS.elim) (λ_ _ _ _ hS=>hS.elim) (hmk _ _ _ .nil) v hv
 | false=>
  have hG:=hG rfl;let c2:Cx:={ w:=c1.w,fz:=c1.fz,H:=[QZ ⟨ver,w,ty,rows⟩],φ:=λ_=>c1.φ b };have l2:∀ {i k},c2.live i k->i=0/\k=⟨ver,w,ty,rows⟩:=λ{i k} hl=>by
   have hl':([QZ ⟨ver,w,ty,rows⟩]:AH)[i]? = QZ (QZ k):=hl
   grind
  have hl1:c1.live b ⟨ver,w,ty,rows⟩:=hG;obtain ⟨cs,fr,hB⟩:=hr1.blk b _ hl1;have hrel:∀ a a',Ren (λx y=>x=b/\y=0) a a'->∀ v,c1.rel a v->c2.rel a' v:=λa a' hra=>by
   refine Ren.rel (c1:=c1) (c2:=c2) (Sb _) (λg hg _=>⟨rfl,hg⟩) (λx y q hS hb=>?_) (λx y q z hS hb hz=>?_) hra
   ·obtain ⟨rfl,rfl⟩:=hS;exact vo hb (λhd=>by simp_all) λk hk=>⟨_,rfl,by simp_all⟩
   obtain ⟨rfl,rfl⟩:=hS;refine xa hz rfl rfl λk hk=>⟨_,hG,?_⟩
   grind
  refine ⟨v,c2,mk<|hS QY 0 ver w n,he,rfl,⟨QY,ver,hg,rfl,rfl⟩,⟨hr1.lt,λi k hl=>?_,λi j k k' hi hj hne=>?_,hr1.gl⟩,⟨hx.os,hx.tape,hx.output,hx.size,λg hg _=>hx.keep g hg λb k hl=>absurd hl<|hni b k,hx.fz,hx.wN,?_,λb ver hb=>absurd hb<|hnb b ver,λb ver x hb=>absurd hb<|hnb b ver,λi k hl=>?_⟩,?_⟩
  ·obtain ⟨rfl,rfl⟩:=l2 hl;exact ⟨cs,fr,(RenK.ofF (S:=λx y=>x=b/\y=0) (k:=⟨ver,w,ty,rows⟩) hk).blk hB rfl rfl hB.nf hrel⟩
  ·grind
  ·simp_all
  ·obtain ⟨rfl,rfl⟩:=l2 hl;exact hx.iG b _ hl1
  exact hrel _ _ (hmk _ _ _<|.hs ⟨rfl,rfl⟩) v hv
end
section
variable {P:Program} {nt b0:Nat} {Q:Exit->Env->AH->Prop} {en:List (Nat×AV)} {H:AH} {ops:Array Oper} {l:List Oper} {d:Tmp} {t:TypeId} {pos:String} {af:Array Edge}
theorem oG {cl:Call} {f:Operand} {g:FuncId} {p6 QV:List AV} {w m:Nat} {ty:TypeId} {mk:AV->AV} {n:Nat} {rows:List (List AV)} (hc:cl.callee = .value f) (hf:rho (ai en) f = .fn (.func g) p6) (ha:cl.args.toList.map (rho<|ai en)++p6=QV)
  (h:fG P g QV H<|Od w ty mk n rows m H) (k:∀ g ver,(g=QX->n=0)->TO P nt b0 ops l Q (ai ((d,mk<|hS g m ver w n)::en)) (H++[bE g ver w ty rows])):TO P nt b0 ops (⟨QZ d,.call cl,t,pos,af,Q0⟩::l) Q (ai en) H:=by
 subst ha;exact TO.runG (.free rfl) (DV rfl hc hf h) λr H' ⟨g,ver,hg,hr,hH⟩=>by
  subst hr hH;exact k g ver hg
theorem ownB {G:AH} {b:Nat} {g:Bool} {ver w:Nat} {ty:TypeId} {rows:List (List AV)} (h:G[b]? = QZ (bE g ver w ty rows)):g=QY->G[b]? = QZ (QZ ⟨ver,w,ty,rows⟩):=by
 rintro rfl;exact h
theorem CJ {α:Type} {f:α->List AV} {l:List α} (hf:∀ x,(f x).all (isF 9)=QX):∀ r∈l.map f,∀ a∈r,isF 9 a=QX:=by grind
theorem GN (S:Nat->Nat->Prop) (a b:AV) (h:Ren S a b):Ren S a b:=h
end
structure Reid (b0:Nat) (S:Nat->Nat->Prop) (H H0:AH):Prop where
 fwd:∀ i j j',S i j->S i j'->j=j'
 inj:∀ i i' j,S i j->S i' j->i=i'
 low:∀ i,i<b0->S i i
 len:b0<=H0.length
 back:∀ j k0,H0[j]? = QZ (QZ k0)->∃ i k,S i j/\H[i]? = QZ (QZ k)/\RenK S k k0
 keep:∀ i j k,S i j->H[i]? = QZ (QZ k)->∃ k0,H0[j]? = QZ (QZ k0)
open Classical in
theorem Reid.state {nt b0:Nat} {S:Nat->Nat->Prop} {H0:AH} {c c0:Cx} {e e0:Env} {a:Act} (h:Reid b0 S c.H H0) (hx:Ext c0 c) (hs:SRel c nt e a) (hb:c0.H.length<=b0) (he:∀ t,Ren S (e t)<|e0 t) :
  ∃ c',c'.w=c.w/\Ext c0 c'/\SRel c' nt e0 a/\c'.H=H0:=by
 let φ':Nat->Nat×Nat:=λj=>if hj:∃ i,S i j then c.φ (Classical.choose hj) else (0,0);have φe:∀ {i j},S i j->φ' j=c.φ i:=λ{i j} hS=>by
  have hj:∃ i,S i j:=⟨i,hS⟩;show (if hj:∃ i,S i j then c.φ (Classical.choose hj) else (0,0))=_;rw [dif_pos hj,h.inj _ _ _ (Classical.choose_spec hj) hS]
 let c':Cx:={ w:=c.w,fz:=c.fz,H:=H0,φ:=φ' };have ver:∀ {i j k k0},S i j->c.H[i]? = QZ (QZ k)->H0[j]? = QZ (QZ k0)->RenK S k k0:=λ{i j k k0} hS hk hk0=>by
  obtain ⟨i',k',h1,h2,h3⟩:=h.back j k0 hk0;obtain rfl:=h.inj _ _ _ h1 hS
  simp_all
 have hb1:∀ i j uA,S i j->c.born i uA->c'.born j uA:=λi j uA hS hbn=>by
  have hlt:=iz hbn;refine vo hbn (λhd=>?_) λk hk=>?_
  ·unfold Cx.born at hbn
   simp_all
  obtain ⟨k0,hk0⟩:=h.keep i j k hS hk;exact ⟨k0,hk0,(ver hS hk hk0).ver⟩
 have hh1:∀ i j uA x,S i j->c.born i uA->c'.hd j uA=QZ x->c.hd i uA=QZ x:=λi j uA x hS _ hhd=>by
  refine xa hhd (φe hS) rfl λk0 hk0=>?_;obtain ⟨i',k,h1,h2,h3⟩:=h.back j k0 hk0;obtain rfl:=h.inj _ _ _ h1 hS;exact ⟨k,h2,h3.ver.symm,h3.s.symm,h3.len⟩
 have hrel:∀ x y,Ren S x y->∀ v,c.rel x v->c'.rel y v:=λx y hra=>Ren.rel (c1:=c) (c2:=c') (Sb _) (λg hg _=>⟨rfl,hg⟩) hb1 hh1 hra;have hr':HRel c':=by
  refine ⟨hs.heap.lt,λj k0 hl=>?_,λj j' k0 k0' hl hl' hne=>?_,hs.heap.gl⟩
  ·obtain ⟨i,k,h1,h2,h3⟩:=h.back j k0 hl;obtain ⟨cs,fr,hB⟩:=hs.heap.blk i k h2;exact ⟨cs,fr,h3.blk hB (φe h1) rfl hB.nf hrel⟩
  obtain ⟨i,k,h1,h2,_⟩:=h.back j k0 hl;obtain ⟨i',k',h1',h2',_⟩:=h.back j' k0' hl';show (φ' j).1≠(φ' j').1;rw [φe h1,φe h1'];refine hs.heap.inj i i' k k' h2 h2' λe=>hne ?_;subst e;exact h.fwd _ _ _ h1 h1'
 refine ⟨c',rfl,⟨hx.os,hx.tape,hx.output,hx.size,hx.keep,hx.fz,hx.wN,Nat.le_trans hb h.len,λb v hbn=>hb1 b b v (h.low b<|Nat.lt_of_lt_of_le (iz hbn) hb)<|hx.born b v hbn,λb v x hbn hhd=>?_,λj k0 hl=>?_⟩,⟨hs.size,hs.defers,λt=>hrel _ _ (he t) _<|hs.rel t,hr'⟩,rfl⟩
 ·exact hx.hd b v x hbn<|hh1 b b v x (h.low b<|Nat.lt_of_lt_of_le (iz hbn) hb) (hx.born b v hbn) hhd
 obtain ⟨i,k,h1,h2,_⟩:=h.back j k0 hl;show _<=(φ' j).1\/∃ b0 k0,c0.live b0 k0/\(c0.φ b0).1=(φ' j).1;rw [φe h1];exact hx.iG i k h2
abbrev NG:=Nat->Bool×Nat×Nat
def NG.put (gh:NG) (i:Nat) (x:Bool×Nat×Nat):NG:=λj=>bif Nat.beq j i then x else gh j
section
variable {α:Type}
def Pm (gh:NG) (w i n:Nat):List AV:=[hS (gh i).1 (gh i).2.1 (gh i).2.2 w n]
def Af (gh:NG) (w:Nat) (l:List<|List α):List (List AV):=(R9 l.length).map λi=>Pm gh w i (l.getD i []).length
theorem BP (gh:NG) (w:Nat) (l:List<|List α):(Af gh w l).length=l.length:=by simp [Af]
theorem BQ {gh:NG} {w:Nat} {l:List (List α)} {i:Nat} (h:i<l.length):(Af gh w l)[i]? = QZ (Pm gh w i (l.getD i []).length):=by simp [Af,h]
theorem DW (gh:NG) (i:Nat) (x:Bool×Nat×Nat):gh.put i x i=x:=by simp [NG.put]
theorem BR {gh:NG} {i j:Nat} (x:Bool×Nat×Nat) (h:j≠i):gh.put i x j=gh j:=by
 unfold NG.put;rw [show Nat.beq j i=QY from Bool.eq_false_iff.2 λe=>h (SC e)]
 rfl
structure NK (m:Nat) (H:AH) (gh:NG) (w:Nat) (ty:TypeId) (f:α->List AV) (l:List (List α)):Prop where
 at_:∀ i,i<l.length->m<=(gh i).2.1/\H[(gh i).2.1]? = QZ (bE (gh i).1 (gh i).2.2 w ty<|(l.getD i []).map f)
 nil_:∀ i,i<l.length->(gh i).1=QX->l.getD i []=[]
 sep:∀ i j,i<l.length->j<l.length->i≠j->(gh i).2.1≠(gh j).2.1
variable {m:Nat} {H H':AH} {gh:NG} {w:Nat} {ty:TypeId} {f:α->List AV} {l:List (List α)}
theorem NK.low (h:NK m H gh w ty f l) (he:∀ b,m<=b->b<H.length->H'[b]? = H[b]?):NK m H' gh w ty f l:=
 ⟨λi hi=>⟨(h.at_ i hi).1,by
  rw [he _ (h.at_ i hi).1 (ges (h.at_ i hi).2).1];exact (h.at_ i hi).2⟩,h.nil_,h.sep⟩
theorem NK.set (h:NK m H gh w ty f l) {i:Nat} (hi:i<l.length) {g:Bool} {ver:Nat} {r:List α} (hg:g=QX->r=[]):NK m (H.set (gh i).2.1<|bE g ver w ty<|r.map f) (gh.put i (g,(gh i).2.1,ver)) w ty f (l.set i r):=by
 refine ⟨λj hj=>?_,λj hj hn=>?_,λj k hj hk hne=>?_⟩
 ·have hj':j<l.length:=by simpa using hj
  by_cases e:i=j
  ·subst e;rw [DW];refine ⟨(h.at_ i hi).1,?_⟩;rw [SB (ges (h.at_ i hi).2).1]
   grind
  rw [BR _ (λh=>e h.symm)];refine ⟨(h.at_ j hj').1,?_⟩;rw [Sf (h.sep i j hi hj' e),(h.at_ j hj').2]
  simp_all
 ·have hj':j<l.length:=by simpa using hj
  by_cases e:i=j
  ·subst e;rw [DW] at hn
   simp_all
  rw [BR _ (λh=>e h.symm)] at hn;have := h.nil_ j hj' hn
  simp_all
 have hj':j<l.length:=by simpa using hj
 have hk':k<l.length:=by simpa using hk
 have key:∀ q,(gh.put i (g,(gh i).2.1,ver) q).2.1=(gh q).2.1:=λq=>by
  by_cases e:q=i
  ·subst e;rw [DW]
  rw [BR _ e]
 rw [key,key];exact h.sep j k hj' hk' hne
theorem NK.fz [Inhabited α] (h:NK m H gh w ty f l) {b ver n:Nat} {to:TypeId} (hb:H[b]? = QZ (bE QY ver 1 to<|Af gh w l)) (hn:n=l.length) (hf:∀ x,(f x).all (isF 9)=QX):Fz 0 H (hS QY b ver 1 n) (eL (cL f) l):=by
 subst hn;have e0:∀ i,i<l.length->l.getD i QW=l.getD i []:=λi hi=>by grind
 refine .hs (k:=⟨ver,1,to,Af gh w l⟩) (Sq _) hb rfl rfl (by simp [BP]) (λi r hi hr=>?_) λi r j c d hi hr hc hd=>?_
 ·rw [Sd,BQ hi] at hr;obtain rfl:=osl hr
  rfl
 rw [Sd,BQ hi] at hr;obtain rfl:=osl hr
 match j with
 | 0=>
  obtain rfl:=osl hc;obtain rfl:=osl hd;rw [e0 i hi];exact Fz.own (SG<|Sq _) (h.at_ i hi).2 rfl (h.nil_ i hi) hf
 | j+1=>simp [Pm] at hc
end

section
variable {P:Program} {α:Type}
def Pw (w:Nat) (ty to:TypeId) (f:α->List AV) (mk:AV->AV) (l:List<|List α) (m:Nat) (H:AH):AV->AH->Prop:=λr G=>
 ∃ ver gh,r=mk (hS QY m ver 1 l.length)/\G=H++[QZ ⟨ver,1,to,Af gh w l⟩]++(R9 l.length).map (λi=>bE (gh i).1 (gh i).2.2 w ty<|(l.getD i []).map f) /\
  ∀ i,i<l.length->(gh i).2.1=m+1+i/\((gh i).1=QX->l.getD i []=[])
theorem Pw.nk {w:Nat} {ty to:TypeId} {f:α->List AV} {l:List (List α)} {m ver:Nat} {H:AH} {gh:NG} (hm:H.length=m) (h:∀ i,i<l.length->(gh i).2.1=m+1+i/\((gh i).1=QX->l.getD i []=[])) :
  NK (m+1) (H++[QZ ⟨ver,1,to,Af gh w l⟩]++(R9 l.length).map (λi=>bE (gh i).1 (gh i).2.2 w ty<|(l.getD i []).map f)) gh w ty f l:=by
 refine ⟨λi hi=>⟨by rw [(h i hi).1];omega,?_⟩,λi hi=>(h i hi).2,λi j hi hj hne=>by rw [(h i hi).1,(h j hj).1];omega⟩;rw [(h i hi).1,gar (by simp [hm])]
 simp_all
def SxN (b:Nat) (gh:NG) (n:Nat) (i j:Nat):Prop:=(i=b/\j=0)\/∃ q,q<n/\i=(gh q).2.1/\j=q+1
def ghN (gh:NG):NG:=λq=>((gh q).1,q+1,(gh q).2.2)
theorem Reid.own {w:Nat} {ty to:TypeId} {f:α->List AV} {l:List (List α)} {b ver:Nat} {gh:NG} {G:AH} (hb:G[b]? = QZ (QZ ⟨ver,1,to,Af gh w l⟩)) (hN:NK 0 G gh w ty f l) (hne:∀ i,i<l.length->(gh i).2.1≠b) (hf:∀ x,(f x).all (isF 9)=QX) :
  Reid 0 (SxN b gh l.length) G ([]++[QZ ⟨ver,1,to,Af (ghN gh) w l⟩]++(R9 l.length).map (λi=>bE ((ghN gh) i).1 ((ghN gh) i).2.2 w ty<|(l.getD i []).map f)):=by
 have g0:∀ (x:Option ABlk) (K:AH),([]++[x]++K)[0]? = QZ x:=λx K=>rfl;have g1:∀ q,q<l.length->([]++[QZ ⟨ver,1,to,Af (ghN gh) w l⟩]++(R9 l.length).map (λi=>bE ((ghN gh) i).1 ((ghN gh) i).2.2 w ty<|(l.getD i []).map f):AH)[q+1]? = QZ (bE (gh q).1 (gh q).2.2 w ty<|(l.getD q []).map f):=λq hq=>by simp [hq,ghN]
 refine ⟨λi j j' h1 h2=>?_,λi i' j h1 h2=>?_,λi hi=>by omega,Sq _,λj k0 hk=>?_,λi j k hS hk=>?_⟩
 ·rcases h1 with ⟨rfl,rfl⟩ | ⟨q,hq,rfl,rfl⟩ <;> rcases h2 with ⟨c1,rfl⟩ | ⟨q',hq',c1,rfl⟩
  ·rfl
  ·grind
  ·simp_all
  by_cases e:q=q'
  ·rw [e]
  exact absurd c1<|hN.sep q q' hq hq' e
 ·rcases h1 with ⟨rfl,rfl⟩ | ⟨q,hq,rfl,rfl⟩ <;> rcases h2 with ⟨rfl,c2⟩ | ⟨q',hq',rfl,c2⟩
  ·rfl
  ·omega
  ·omega
  simp_all
 ·match j with
  | 0=>
   rw [g0] at hk;obtain rfl:=osl<|osl hk;refine ⟨b,_,.inl ⟨rfl,rfl⟩,hb,rfl,rfl,rfl,by simp [BP],λi r r' hr hr' => ?_⟩;have hi:i<l.length:=by
    have := (ges hr).1
    rwa [BP] at this
   rw [BQ hi] at hr hr';obtain rfl:=osl hr;obtain rfl:=osl hr';refine ⟨rfl,λj a a' ha ha' => ?_⟩
   match j with
   | 0=>
    obtain rfl:=osl ha;obtain rfl:=osl ha';show Ren _ (hS (gh i).1 (gh i).2.1 (gh i).2.2 w _) (hS (gh i).1 (i+1) (gh i).2.2 w _)
    cases hg:(gh i).1 with
    | true=>exact .nil
    | false=>exact .hs (.inr ⟨i,hi,rfl,rfl⟩)
   | j+1=>simp [Pm] at ha
  | q+1=>
   have hq:q<l.length:=by
    have := (ges hk).1;simp at this;omega
   rw [g1 q hq] at hk;refine ⟨(gh q).2.1,k0,.inr ⟨q,hq,rfl,rfl⟩,(hN.at_ q hq).2.trans hk,.ofF λr hr a ha=>?_⟩
   cases hg:(gh q).1 with
   | true=>rw [hg] at hk;cases hk
   | false=>
    rw [hg] at hk;obtain rfl:=osl<|osl hk
    grind
 rcases hS with ⟨rfl,rfl⟩ | ⟨q,hq,rfl,rfl⟩
 ·simp_all
 rw [g1 q hq,<- (hN.at_ q hq).2]
 simp_all
end
def KF (K:AH):Prop:=∀ (i:Nat) (k:ABlk),K[i]? = QZ (QZ k)->wB k
def Dp (b N:Nat) (i j:Nat):Prop:=i≠b/\i<N/\j=i
theorem Reid.drop {b0 b N:Nat} {H:AH} (hN:H.length=N) (h0:b0<=b) (hlt:b<N) (hR:∀ i k,i≠b->H[i]? = QZ (QZ k)->RenK (Dp b N) k k):Reid b0 (Dp b N) H (H.set b Q0):=by
 refine ⟨λi j j' h1 h2=>by rw [h1.2.2,h2.2.2],λi i' j h1 h2=>by rw [<- h1.2.2,h2.2.2],λi hi=>⟨by omega,by omega,rfl⟩,by grind,λj k0 hk=>?_,λi j k hS hk=>?_⟩
 ·have hj:j<N:=by
   have := (ges hk).1;simpa [hN] using this
  by_cases e:j=b
  ·simp_all
  rw [Sf (λh=>e h.symm)] at hk;exact ⟨j,k0,⟨e,hj,rfl⟩,hk,hR j k0 e hk⟩
 obtain ⟨h1,h2,rfl⟩:=hS
 grind
section
variable {α:Type} {m:Nat} {H:AH} {gh:NG} {w:Nat} {ty:TypeId} {f:α->List AV} {l:List (List α)}
theorem NK.nil {m:Nat} {H:AH} {gh:NG}:NK m H gh w ty f ([]:List<|List α):=⟨λi hi=>absurd hi (by simp),λi hi=>absurd hi (by simp),λi j hi=>absurd hi<|by simp⟩
theorem NK.lt (h:NK m H gh w ty f l) {i:Nat} (hi:i<l.length):(gh i).2.1<H.length:=(ges (h.at_ i hi).2).1
end
end
end Go.Proofs.YtabfkkjdfhbngaaGreatDoor
