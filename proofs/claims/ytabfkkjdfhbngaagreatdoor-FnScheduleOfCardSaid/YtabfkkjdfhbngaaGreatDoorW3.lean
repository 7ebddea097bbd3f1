/- Texts joined. No conditions. -/
import Derived.Laws.BytesArg
import Derived.ChangeKeysEq
import Derived.Test.YtabfkkjdfhbngaaGreatDoorW2
namespace Go.Proofs.YtabfkkjdfhbngaaGreatDoor
noncomputable section
open _root_.Inhabited renaming default -> Rh
open _root_.Bool renaming true -> Ri
open _root_.Bool renaming false -> Rj
open _root_.Option renaming some -> Rk
open _root_.Option renaming none -> Rl
open _root_.Decidable renaming decide -> Rm
open _root_.Nat renaming blt -> SB, ble -> SC, zero_add -> SF, le_refl -> SI, zero_le -> SJ, beq -> SR, lt_or_ge -> S5, ble_eq_true_of_le -> Te, eq_of_beq_eq_true -> Tg
open _root_.List renaming all_eq_true -> SD, range -> SE, ext_getElem? -> SL, getElem?_set_ne -> SN, getElem?_cons_zero -> SX, range'_succ -> SY, replicate -> SZ, getElem?_map -> S0, getElem?_set_self -> S9, mem_map -> Tc, mem_of_getElem? -> Tn
open _root_.Option renaming map_some -> SG, bind_some -> SU, isSome_iff_exists -> Tj
open _root_.BitVec renaming ofInt -> SK
open _root_.Array renaming getElem?_eq_getElem -> SS, mem_toList_iff -> SV, mem_of_getElem? -> SW, getElem?_toList -> Ta, replicate -> Td, getElem?_eq_some_iff -> Tf, getElem?_eq_none -> Ti, getElem?_append_left -> Tk, length_toList -> Tm
theorem osi {α:Type} {a b:α} (h:Rk a=Rk b):a=b:=osl h
open Go.RowKit
def GR (k:Env->AH->Prop) (Q:Exit->Env->AH->Prop):Exit->Env->AH->Prop:=λx e H=>match x with
 | .normal=>k e H
 | x=>Q x e H
def I9 (i:Nat) (Q:Exit->Env->AH->Prop):Exit->Env->AH->Prop:=λx e H=>match x with
 | .exit j=>bif SR j i then Q .normal e H else Q (.exit j) e H
 | x=>Q x e H
def T (P:Program) (nt b0:Nat) (code:Code) (Q:Exit->Env->AH->Prop) (e:Env) (H:AH):Prop:=
 codeOk nt code=Ri->∀ (c c0:Cx) (a:Act),c.H=H->c0.H.length<=b0->Ext c0 c->SRel c nt e a->code.wp P (Oz nt c0 Q) a c.w
def TO (P:Program) (nt b0:Nat) (ops:Array Oper) (l:List Oper) (Q:Exit->Env->AH->Prop) (e:Env) (H:AH):Prop:=
 H5 nt ops.toList=Ri->∀ (k:Nat),(∀ j,l[j]? = ops[k+j]?)->k+l.length=ops.size->∀ (c c0:Cx) (a:Act),c.H=H->c0.H.length<=b0->Ext c0 c->SRel c nt e a->wpOps P ops (Oz nt c0 Q) (List.range' k l.length) a c.w
section
variable {P:Program} {nt b0:Nat} {Q:Exit->Env->AH->Prop} {e e0:Env} {H H0:AH}
theorem T.skip (h:Q .normal e H):T P nt b0 .skip Q e H:=λ_ c c0 a hH _ hx hs=>wp_skip ⟨trivial,c,e,rfl,hx,hs,hH ▸ h⟩
theorem T.ret (h:Q .ret e H):T P nt b0 .ret Q e H:=λ_ c c0 a hH _ hx hs=>wp_ret ⟨trivial,c,e,rfl,hx,hs,hH ▸ h⟩
theorem T.exit {i:Nat} (h:Q (.exit i) e H):T P nt b0 (.exit i) Q e H:=λ_ c c0 a hH _ hx hs=>wp_exit ⟨trivial,c,e,rfl,hx,hs,hH ▸ h⟩
theorem T.cut {code:Code} (hs:eZ b0 e H e0 H0) (h:T P nt b0 code Q e0 H0):T P nt b0 code Q e H:=by
 intro hok c c0 a hH hb hx hr;subst hH;obtain ⟨c',h4,h5,h6,h7⟩:=hs.state hx hr hb;rw [<- h4];exact h hok c' c0 a h7 hb h5 h6
theorem T.weak {code:Code} (hw:CF e e0) (h:T P nt b0 code Q e0 H):T P nt b0 code Q e H:=h.cut<|.inl ⟨rfl,hw⟩
theorem T.seq {x y:Code} (h:T P nt b0 x (GR (T P nt b0 y Q) Q) e H):T P nt b0 (.seq x y) Q e H:=by
 intro hok c c0 a hH hb hx hr;simp only [codeOk,bae] at hok;refine wp_seq<|wp_mono (h hok.1 c c0 a hH hb hx hr) λex a' w' hl=>?_;obtain ⟨hg,c',e',rfl,hx',hs',hq⟩:=hl
 cases ex with
 | normal=>exact hq hok.2 c' c0 a' rfl hb hx' hs'
 | exit i=>exact ⟨hg,c',e',rfl,hx',hs',hq⟩
 | ret=>exact ⟨hg,c',e',rfl,hx',hs',hq⟩
 | _=>exact hg.elim
theorem T.reserve {code:Code} (h:T P nt b0 code Q e<|H++[Rl]):T P nt b0 code Q e H:=by
 intro hok c c0 a hH hb hx hr;subst hH;exact h hok c.res c0 a rfl hb (hx.trans c.res_ext) ⟨hr.size,hr.defers,λt=>(hr.rel t).ext hr.heap c.res_ext,Cx.res_heap hr.heap⟩
def Cut (b0:Nat) {S G:Type} (ok:S->Prop) (inv:S->G->Prop) (slots:S->G->List (Nat×AV)) (heap:S->G->AH) (e:Env) (H:AH):Prop:=
 ∃ s g,ok s/\inv s g/\eZ b0 e H (ai<|slots s g) (heap s g)
theorem T.join {S G:Type} {x y:Code} (ok:S->Prop) (inv:S->G->Prop) (slots:S->G->List (Nat×AV)) (heap:S->G->AH)
  (J:∀ s g,ok s->inv s g->T P nt b0 y Q (ai<|slots s g) (heap s g)) (h:T P nt b0 x (GR (Cut b0 ok inv slots heap) Q) e H):T P nt b0 (.seq x y) Q e H:=by
 intro hok c c0 a hH hb hx hr;simp only [codeOk,bae] at hok;refine wp_seq<|wp_mono (h hok.1 c c0 a hH hb hx hr) λex a' w' hl=>?_;obtain ⟨hg,c',e',rfl,hx',hs',hq⟩:=hl
 cases ex with
 | normal=>
  obtain ⟨s,g,h1,h2,h3⟩:=hq;obtain ⟨c2,h4,h5,h6,h7⟩:=h3.state hx' hs' hb;rw [<- h4];exact J s g h1 h2 hok.2 c2 c0 a' h7 hb h5 h6
 | exit i=>exact ⟨hg,c',e',rfl,hx',hs',hq⟩
 | ret=>exact ⟨hg,c',e',rfl,hx',hs',hq⟩
 | _=>exact hg.elim
theorem T.block {i:Nat} {x:Code} (h:T P nt b0 x (I9 i Q) e H):T P nt b0 (.block i x) Q e H:=by
 intro hok c c0 a hH hb hx hr;simp only [codeOk] at hok;refine wp_block<|wp_mono (h hok c c0 a hH hb hx hr) λex a' w' hl=>?_;obtain ⟨hg,c',e',rfl,hx',hs',hq⟩:=hl
 cases ex with
 | exit j=>
  simp only [I9] at hq;simp only [Exit.inBlock]
  cases hb:SR j i with
  | true=>
   rw [hb] at hq;rw [if_pos (Tg hb)];exact ⟨trivial,c',e',rfl,hx',hs',hq⟩
  | false=>
   rw [hb] at hq;rw [if_neg (λhe=>by simp_all)];exact ⟨trivial,c',e',rfl,hx',hs',hq⟩
 | normal=>exact ⟨hg,c',e',rfl,hx',hs',hq⟩
 | ret=>exact ⟨hg,c',e',rfl,hx',hs',hq⟩
 | _=>exact hg.elim
theorem T.cond {q:Bool} {x:Operand} {t f:Code} (hc:rho e x = .v (.bool q)) (h1:q=Ri->T P nt b0 t Q e H) (h2:q=Rj->T P nt b0 f Q e H):T P nt b0 (.cond x t f) Q e H:=by
 intro hok c c0 a hH hb hx hr;simp only [codeOk,bae] at hok;have hrel:=hr.rho x;rw [hc] at hrel;have he:=(ik hrel).1
 cases q with
 | true=>exact wp_cond_true he (h1 rfl hok.1 c c0 a hH hb hx hr)
 | false=>exact wp_cond_false he (h2 rfl hok.2 c c0 a hH hb hx hr)
theorem T.region {i:Nat} {ops:Array Oper} (h:TO P nt b0 ops ops.toList Q e H):T P nt b0 (.region i ops Rj) Q e H:=by
 intro hok c c0 a hH hb hx hr;simp only [codeOk] at hok;refine wp_region ?_;have := h hok 0 (λj=>by simp) (by simp) c c0 a hH hb hx hr;rw [List.range_eq_range'];omega
theorem TO.nil {ops:Array Oper} (h:Q .normal e H):TO P nt b0 ops [] Q e H:=by
 intro hd k hl hn c c0 a hH hb hx hr;simp only [List.length_nil,List.range'_zero,wpOps];exact ⟨trivial,c,e,rfl,hx,hr,hH ▸ h⟩
theorem TO.cut {ops:Array Oper} {l:List Oper} (hs:eZ b0 e H e0 H0) (h:TO P nt b0 ops l Q e0 H0):TO P nt b0 ops l Q e H:=by
 intro hd k hl hn c c0 a hH hb hx hr;subst hH;obtain ⟨c',h4,h5,h6,h7⟩:=hs.state hx hr hb;rw [<- h4];exact h hd k hl hn c' c0 a h7 hb h5 h6
def EvA (P:Program) (ρ:Operand->AV) (op:Op) (H:AH) (r:AV) (H':AH):Prop:=∀ o:Oper,o.op=op->QO P o ρ H r H'
def QR (P:Program) (ρ:Operand->AV) (op:Op) (r:AV):Prop:=∀ o:Oper,o.op=op->∀ G,QO P o ρ G r G
theorem EvA.mk {ρ:Operand->AV} {op:Op} {r:AV} {H H':AH} (h:∀ K:AV->AH->Prop,K r H'->aop P ρ op H K):EvA P ρ op H r H':=λo ho=>by
 obtain ⟨r',H2,hop,hr',hH'⟩:=Ou (o:=o) (K:=λr' H2=>r'=r/\H2=H') (by rw [ho];exact h _ ⟨rfl,rfl⟩)
 simp_all
theorem QR.mk {ρ:Operand->AV} {op:Op} {r:AV} (h:∀ K:AV->Prop,K r->Og P ρ op K):QR P ρ op r:=λo ho=>by
 obtain ⟨r',hop,hr'⟩:=MV (o:=o) (K:=λr'=>r'=r) (by rw [ho];exact h _ rfl)
 simp_all
theorem QR.toA {ρ:Operand->AV} {op:Op} {r:AV} {H:AH} (h:QR P ρ op r):EvA P ρ op H r H:=λo ho=>h o ho H
theorem EH {ops:Array Oper} {c:Cx} {a:Act} {j:Nat} {q:Bool} (hs:SRel c nt e a) (hq:eu ops.toList e j = .v (.bool q)):yielded ops a.tmps j=Rk q:=by
 unfold eu at hq
 split at hq
 ·rename_i d hd';rw [Ta] at hd';have hrel:=hs.rel d;rw [hq] at hrel;have := (ik hrel).1;unfold yielded;rw [hd'];simp only [SU]
  by_cases hlt:d<a.tmps.size
  ·rw [SS hlt];have e2:a.tmps.getD d undef=a.tmps[d]:=by simp [hlt]
   rw [e2] at this;rw [this]
  have e2:a.tmps.getD d undef=undef:=by simp [hlt]
  rw [e2] at this
  cases this
 simp_all
theorem Ja {ops:Array Oper} {c:Cx} {a:Act} {j:Nat} (hs:SRel c nt e a) (hq:eu ops.toList e j = .tup []):yielded ops a.tmps j=Rl:=by
 unfold eu at hq
 split at hq
 ·rename_i d hd';rw [Ta] at hd';have hrel:=hs.rel d;rw [hq] at hrel;obtain ⟨us,h1,_⟩:=yR hrel;unfold yielded;rw [hd'];simp only [SU]
  by_cases hlt:d<a.tmps.size
  ·rw [SS hlt];have e2:a.tmps.getD d undef=a.tmps[d]:=by simp [hlt]
   rw [e2] at h1;rw [h1]
  rw [Ti (Nat.le_of_not_lt hlt)]
 simp_all
def yY (ops:Array Oper) (e:Env) (o:Oper) (w:Bool):Prop:=∀ (nt:Nat) (c:Cx) (a:Act),SRel c nt e a->Region.wanted o (yielded ops a.tmps)=w
theorem yY.free {ops:Array Oper} {o:Oper} (h:o.guard=Rl):yY ops e o Ri:=λ_ _ _ _=>by simp [Region.wanted,h]
theorem yY.yes {ops:Array Oper} {o:Oper} {j:Nat} {b q:Bool} (h:o.guard=Rk (j,b)) (hy:eu ops.toList e j = .v (.bool q)) (hq:q=b):yY ops e o Ri:=λ_ _ _ hs=>by
 subst hq;simp [Region.wanted,h,EH hs hy]
theorem yY.no {ops:Array Oper} {o:Oper} {j:Nat} {b q:Bool} (h:o.guard=Rk (j,b)) (hy:eu ops.toList e j = .v (.bool q)) (hq:q = !b):yY ops e o Rj:=λ_ _ _ hs=>by
 subst hq;simp only [Region.wanted,h,EH hs hy]
 simp_all
theorem yY.un {ops:Array Oper} {o:Oper} {j:Nat} {b:Bool} (h:o.guard=Rk (j,b)) (hy:eu ops.toList e j = .tup []):yY ops e o Rj:=λ_ _ _ hs=>by
 simp [Region.wanted,h,Ja hs hy]
theorem TO.run {ops:Array Oper} {o:Oper} {l:List Oper} {r:AV} {H':AH} (hw:yY ops e o Ri) (hv:EvA P (rho e) o.op H r H') (h:TO P nt b0 ops l Q (p7 e o.dst r) H'):TO P nt b0 ops (o::l) Q e H:=by
 intro hd k hl hn c c0 a hH hb hx hr;have h0:ops[k]? = Rk o:=by simpa using (hl 0).symm
 have ho:o∈ops.toList:=by rw [SV];exact SW h0
 have hl':∀ j,l[j]? = ops[k+1+j]? := λj=>by have := hl<|j+1;grind
 simp only [llc] at hn;simp only [llc,SY,wpOps,h0];rw [if_pos (hw nt c a hr)];refine .inl<|hv o rfl c a _ _ hH hr.heap (λx _=>hr.rho x) λv c' hH' hr' hx' hv=>?_;exact h hd (k+1) hl' (by omega) c' c0 _ hH' hb (hx.trans hx')<|hr.put o.dst (n8 hd ho) hx' hr' hv
theorem TO.pass {ops:Array Oper} {o:Oper} {l:List Oper} (hw:yY ops e o Rj) (h:TO P nt b0 ops l Q (p7 e o.dst<|.tup []) H):TO P nt b0 ops (o::l) Q e H:=by
 intro hd k hl hn c c0 a hH hb hx hr;have h0:ops[k]? = Rk o:=by simpa using (hl 0).symm
 have ho:o∈ops.toList:=by rw [SV];exact SW h0
 have hl':∀ j,l[j]? = ops[k+1+j]? := λj=>by have := hl<|j+1;grind
 simp only [llc] at hn;simp only [llc,SY,wpOps,h0];rw [hw nt c a hr];exact h hd (k+1) hl' (by omega) c c0 _ hH hb hx<|hr.put o.dst (n8 hd ho) (Ext.refl c) hr.heap<|.tup (vs:=#[]) rfl (λi q u hq=>by grind)
def TL (P:Program) (cls:Nat->Nat):Nat->List Oper->(Env->AH->Prop)->Env->AH->Prop
 | _,[],K,e,H=>K e H
 | k,o::rest,K,e,H=>∃ r H',MW P (cls k) o (rho e) H r H'/\TL P cls (k+1) rest K (p7 e o.dst r) H'
theorem TL.nil {cls:Nat->Nat} {k:Nat} {K:Env->AH->Prop} (h:K e H):TL P cls k [] K e H:=h
theorem TL.op1 {cls:Nat->Nat} {k:Nat} {K:Env->AH->Prop} {o:Oper} {l:List Oper} {r:AV} (hc:cls k=1) (hv:EvA P (rho e) o.op H r H) (h:TL P cls (k+1) l K (p7 e o.dst r) H):TL P cls k (o::l) K e H:=
 ⟨r,H,.inr<|.inl ⟨hc,rfl,hv o rfl⟩,h⟩
def yZ {S E:Type} (step:S->Option (S ⊕ E)):Nat->S->Option E
 | 0,_=>Rl
 | n+1,s=>match step s with
  | none=>Rl
  | some (.inl s')=>yZ step n s'
  | some (.inr x)=>Rk x
theorem za {S E:Type} {step:S->Option (S ⊕ E)} {x:E}:∀ (n m:Nat) (s:S),n<=m->yZ step n s=Rk x->yZ step m s=Rk x
 | 0,_,_,_,h=>by cases h
 | n+1,0,_,hle,_=>by omega
 | n+1,m+1,s,hle,h=>by
  simp only [yZ] at h ⊢
  split at h
  ·cases h
  ·exact za n m _ (by omega) h
  omega
open Classical in
def loopO {S E:Type} (step:S->Option (S ⊕ E)) (s:S):Option E:=if h:∃ x,∃ n,yZ step n s=Rk x then Rk h.choose else Rl
theorem sU {S E:Type} {step:S->Option (S ⊕ E)} {s:S} {x:E}:loopO step s=Rk x↔∃ n,yZ step n s=Rk x:=by
 unfold loopO
 constructor
 ·intro h
  split at h
  ·rename_i hx;injection h with h;rw [<- h];exact hx.choose_spec
  grind
 rintro ⟨n,h⟩;have hx:∃ x,∃ n,yZ step n s=Rk x:=⟨x,n,h⟩;rw [dif_pos hx];obtain ⟨m,hm⟩:=hx.choose_spec;have h1:=za n (max n m) s (by omega) h;have h2:=za m (max n m) s (by omega) hm
 simp_all
theorem uf {S E:Type} (step:S->Option (S ⊕ E)) (s:S):loopO step s=(step s).bind λz=>match z with
  | .inl s'=>loopO step s'
  | .inr x=>Rk x:=by
 apply Option.ext;intro x;rw [sU]
 constructor
 ·rintro ⟨n,h⟩
  cases n with
  | zero=>cases h
  | succ n=>
   simp only [yZ] at h
   split at h
   ·cases h
   ·rename_i s' hs;rw [hs];exact sU.2 ⟨n,h⟩
   simp_all
 intro h
 cases hs:step s with
 | none=>simp_all
 | some z=>
  rw [hs] at h
  cases z with
  | inl s'=>
   obtain ⟨n,hn⟩:=sU.1 h;exact ⟨n+1,by simp only [yZ,hs];exact hn⟩
  | inr y=>exact ⟨1,by simp only [yZ,hs];exact h⟩
theorem yc {S E:Type} {step:S->Option (S ⊕ E)} (st:Nat->S) (n:Nat) {x:E} (h:∀ i,i<n->step (st i)=Rk (.inl<|st<|i+1)) (hx:step (st n)=Rk (.inr x)):loopO step (st 0)=Rk x:=by
 have key:∀ k i,i+k=n->loopO step (st i)=Rk x:=by
  intro k
  induction k with
  | zero=>intro i hi;rw [uf,show i=n by omega,hx];rfl
  | succ k ih=>intro i hi;rw [uf,h i (by omega)];exact ih (i+1) (by omega)
 simp_all
def FK (b0:Nat) {S E G:Type} (inv:S->G->Prop) (slots:S->G->List (Nat×AV)) (heap:S->G->AH) (z:S ⊕ E) (e:Env) (H:AH):Prop:=∃ s g,z = .inl s/\inv s g/\eZ b0 e H (ai<|slots s g) (heap s g)
def Leave {S E:Type} (Q:Exit->Env->AH->Prop) (x:E) (z:S ⊕ E):Exit->Env->AH->Prop:=λex e H=>∃ y,z = .inr y/\(y=x->Q ex e H)
theorem T.loop {S E G:Type} {body:Code} {x:E} (step:S->Option (S ⊕ E)) (inv:S->G->Prop) (slots:S->G->List (Nat×AV)) (heap:S->G->AH) {s0:S} (g0:G) (hx0:loopO step s0=Rk x) (hi:inv s0 g0)
  (hs:eZ b0 e H (ai<|slots s0 g0)<|heap s0 g0)
  (round:∀ s g z,step s=Rk z->inv s g->T P nt b0 body (GR (FK b0 inv slots heap z)<|Leave Q x z) (ai<|slots s g) (heap s g)):T P nt b0 (.loop body) Q e H:=by
 refine T.cut hs ?_;intro hok c c0 a hH hb hx hr;simp only [codeOk] at hok;obtain ⟨n,hn⟩:=sU.1 hx0;refine H7 (λn a w=>∃ c' s g,c'.w=w/\c'.H=heap s g/\Ext c0 c'/\SRel c' nt (ai<|slots s g) a/\inv s g/\yZ step n s=Rk x) (n:=n) ⟨c,s0,g0,rfl,hH,hx,hr,hi,hn⟩ λm a' w' ⟨c',s',g',hw',hH',hx',hs',hi',hm⟩ => ?_;subst hw'
 cases m with
 | zero=>cases hm
 | succ m=>
  simp only [yZ] at hm
  cases hst:step s' with
  | none=>simp_all
  | some z=>
   rw [hst] at hm;refine wp_mono (round s' g' z hst hi' hok c' c0 a' hH' hb hx' hs') λex a2 w2 hl=>?_;obtain ⟨hg,c2,e2,rfl,hx2,hs2,hq⟩:=hl;have other:∀ ex,Oy ex->ex ≠ .normal->GR (FK b0 inv slots heap z) (Leave Q x z) ex e2 c2.H->Q ex e2 c2.H:=λex hg hne hq=>by
    have hq:Leave Q x z ex e2 c2.H:=by
     cases ex with
     | normal=>exact absurd rfl hne
     | _=>exact hq
    obtain ⟨y,rfl,hy⟩:=hq
    simp_all
   cases ex with
   | normal=>
    obtain ⟨s3,g3,rfl,hi3,hst3⟩:=hq;obtain ⟨c3,h4,h5,h6,h7⟩:=hst3.state hx2 hs2 hb;exact ⟨m,by omega,c3,s3,g3,h4,h7,h5,h6,hi3,hm⟩
   | exit i=>exact ⟨hg,c2,e2,rfl,hx2,hs2,other _ hg (by simp) hq⟩
   | ret=>exact ⟨hg,c2,e2,rfl,hx2,hs2,other _ hg (by simp) hq⟩
   | _=>exact hg.elim
end
open Go.RowKit
abbrev I (n:Int):AV := .v<|.int .i64 n
abbrev Bo (b:Bool):AV := .v<|.bool b
abbrev St (s:BA):AV := .v<|.string s
abbrev Y (n:Int):AV := .v<|.int .u8 n
def eL {α:Type} [Inhabited α] (f:α->List AV) (l:List α):AV := .sl l.length λi=>f<|l.getD i Rh
structure TyF (P:Program) (t:TypeId) (ag:Bool) (n:Nat):Prop where
 ag:xI P t=ag
 und:(P.underlying t).isSome=Ri
 cells:P.cellsOf t=n
 info:(P.info? t).isSome=Ri
structure TyZ (P:Program) (t:TypeId) (zs:List AV):Prop where
 z:((P.info? t).bind (·.zero)).map fD=Rk zs
 one:((P.info? t).bind (·.zero)).map (λz=>pR z.cells)=Rk Ri
structure TyS (P:Program) (t:TypeId) (pl:List (Nat×Nat)):Prop where
 s:(match P.underlying t with
  | some (.struct fs)=>fs.toList.mapM (λf=>(P.info? f.type).map λi=>(f.offset,i.size))
  | _=>Rl)=Rk pl
def m9 (ag:Bool) (n:Nat) (row:List AV) (j:Nat):Option AV:=match ag with
 | true=>if j+n<=row.length then Rk (.agg<|(row.drop j).take n) else Rl
 | false=>row[j]?
section
variable {P:Program} {ρ:Operand->AV} {H H':AH} {x y z:Operand} {a b c:AV} {t u:TypeId}
theorem QR.mv (a:AV) (h:ρ x=a):QR P ρ (.move x) a := .mk λK hK=>by
 show (ρ x).force K;rw [AV.force_iff,h];exact hK
theorem QR.asg (a:AV) (h:ρ x=a):QR P ρ (.assign x) a := .mk λK hK=>by
 show (ρ x).force K;rw [AV.force_iff,h];exact hK
theorem QR.pickT {q:Bool} (hc:ρ x = .v (.bool q)) (hq:q=Ri) (a:AV) (h:ρ y=a):QR P ρ (.pick x y z) a := .mk λK hK=>by
 show xG P ρ (.pick x y z) K;subst hq;simp only [xG,hc];refine Br.yes rfl ?_;rw [AV.force_iff,h];exact hK
theorem QR.pickF {q:Bool} (hc:ρ x = .v (.bool q)) (hq:q=Rj) (a:AV) (h:ρ z=a):QR P ρ (.pick x y z) a := .mk λK hK=>by
 show xG P ρ (.pick x y z) K;subst hq;simp only [xG,hc];refine Br.no rfl ?_;rw [AV.force_iff,h];exact hK
theorem QR.nilfp {row:List AV} {j:Nat} (h:ρ x = .fp row j):QR P ρ (.nilCheck x) (.fp row j) := .mk λK hK=>by
 show xG P ρ (.nilCheck x) K;simp only [xG,h];exact hK
theorem QR.nilhp {b q s i j:Nat} (h:ρ x = .hp b q s i j):QR P ρ (.nilCheck x) (.hp b q s i j) := .mk λK hK=>by
 show xG P ρ (.nilCheck x) K;simp only [xG,h];exact hK
theorem yd {ag:Bool} {n:Nat} (ty:TyF P t ag n) {row:List AV} {j:Nat} {K:AV->Prop} (hp:m9 ag n row j=Rk a) (hK:K a):apart P t row j K:=by
 unfold apart;rw [ty.ag]
 cases ag with
 | true=>
  simp only [m9] at hp
  split at hp
  ·rename_i hle;injection hp with hp;rw [ty.cells];refine Ck.intro (decide_eq_true hle) ?_;rw [sO,hp];exact hK
  simp_all
 | false=>
  simp only [m9] at hp;simp only;have hd:row.drop j=a::row.drop (j+1):=by
   obtain ⟨hlt,h1⟩:=ges hp;rw [List.drop_eq_getElem_cons hlt,h1]
  rw [hd];simp only;have := ty.und
  split
  ·rw [AV.force_iff];exact hK
  simp_all
theorem QR.loadfp (a:AV) {ag:Bool} {n:Nat} (ty:TyF P t ag n) {row:List AV} {j:Nat} (h:ρ x = .fp row j) (hp:m9 ag n row j=Rk a):QR P ρ (.load t x) a := .mk λK hK=>by
 show xG P ρ (.load t x) K;simp only [xG,h];exact yd ty hp hK
section
variable {k:IntKind} {m n:Int}
theorem QR.add (hx:ρ x = .v (.int k m)) (hy:ρ y = .v (.int k n)) (hw:k.wrap (m+n)=m+n):QR P ρ (.binOp .add t x y u) (.v<|.int k<|m+n) := .mk λK hK=>by
 show qB P .add t (ρ x) (ρ y) K;simp only [qB,hx,hy];exact Ck.intro (by simp) ⟨hw,hK⟩
theorem QR.sub (hx:ρ x = .v (.int k m)) (hy:ρ y = .v (.int k n)) (hw:k.wrap (m-n)=m-n):QR P ρ (.binOp .sub t x y u) (.v<|.int k<|m-n) := .mk λK hK=>by
 show qB P .sub t (ρ x) (ρ y) K;simp only [qB,hx,hy];exact Ck.intro (by simp) ⟨hw,hK⟩
theorem QR.mul (hx:ρ x = .v (.int k m)) (hy:ρ y = .v (.int k n)) (hw:k.wrap (m*n)=m*n):QR P ρ (.binOp .mul t x y u) (.v<|.int k<|m*n) := .mk λK hK=>by
 show qB P .mul t (ρ x) (ρ y) K;simp only [qB,hx,hy];exact Ck.intro (by simp) ⟨hw,hK⟩
theorem QR.quo (hx:ρ x = .v (.int k m)) (hy:ρ y = .v (.int k n)) (h0:n≠0) (hw:k.wrap (m.tdiv n)=m.tdiv n):QR P ρ (.binOp .quo t x y u) (.v<|.int k<|m.tdiv n) := .mk λK hK=>by
 show qB P .quo t (ρ x) (ρ y) K;simp only [qB,hx,hy];exact Ck.intro (by simp) ⟨h0,hw,hK⟩
theorem QR.rem (hx:ρ x = .v (.int k m)) (hy:ρ y = .v (.int k n)) (h0:n≠0):QR P ρ (.binOp .rem t x y u) (.v<|.int k<|m.tmod n) := .mk λK hK=>by
 show qB P .rem t (ρ x) (ρ y) K;simp only [qB,hx,hy];exact Ck.intro (by simp) ⟨h0,hK⟩
def dJ (k:IntKind) (m n:Int):Int:=k.wrap ((SK k.bits m&&&SK k.bits n).toNat:Int)
def bOr (k:IntKind) (m n:Int):Int:=k.wrap ((SK k.bits m|||SK k.bits n).toNat:Int)
def OB (k:IntKind) (m n:Int):Int:=k.wrap ((SK k.bits m ^^^ SK k.bits n).toNat:Int)
def DN (k:IntKind) (m n:Int):Int:=k.wrap ((SK k.bits m &&& ~~~SK k.bits n).toNat:Int)
def EI (k:IntKind) (m n:Int):Int:=k.wrap<|m*2 ^ (min n.toNat k.bits)
def gu (k:IntKind) (m n:Int):Int:=m.fdiv<|2 ^ (min n.toNat k.bits)
theorem QR.band (hx:ρ x = .v (.int k m)) (hy:ρ y = .v (.int k n)):QR P ρ (.binOp .and t x y u) (.v<|.int k<|dJ k m n) := .mk λK hK=>by
 show qB P .and t (ρ x) (ρ y) K;simp only [qB,hx,hy];exact Ck.intro (by simp) hK
theorem QR.bor (hx:ρ x = .v (.int k m)) (hy:ρ y = .v (.int k n)):QR P ρ (.binOp .or t x y u) (.v<|.int k<|bOr k m n) := .mk λK hK=>by
 show qB P .or t (ρ x) (ρ y) K;simp only [qB,hx,hy];exact Ck.intro (by simp) hK
theorem QR.bxor (hx:ρ x = .v (.int k m)) (hy:ρ y = .v (.int k n)):QR P ρ (.binOp .xor t x y u) (.v<|.int k<|OB k m n) := .mk λK hK=>by
 show qB P .xor t (ρ x) (ρ y) K;simp only [qB,hx,hy];exact Ck.intro (by simp) hK
theorem QR.bandNot (hx:ρ x = .v (.int k m)) (hy:ρ y = .v (.int k n)):QR P ρ (.binOp .andNot t x y u) (.v<|.int k<|DN k m n) := .mk λK hK=>by
 show qB P .andNot t (ρ x) (ρ y) K;simp only [qB,hx,hy];exact Ck.intro (by simp) hK
theorem QR.shl {k':IntKind} (hx:ρ x = .v (.int k m)) (hy:ρ y = .v (.int k' n)) (h0:0<=n):QR P ρ (.binOp .shl t x y u) (.v<|.int k<|EI k m n) := .mk λK hK=>by
 show qB P .shl t (ρ x) (ρ y) K;simp only [qB,hx,hy];exact ⟨h0,hK⟩
theorem QR.shr {k':IntKind} (hx:ρ x = .v (.int k m)) (hy:ρ y = .v (.int k' n)) (h0:0<=n):QR P ρ (.binOp .shr t x y u) (.v<|.int k<|gu k m n) := .mk λK hK=>by
 show qB P .shr t (ρ x) (ρ y) K;simp only [qB,hx,hy];exact ⟨h0,hK⟩
theorem QR.ieq (hx:ρ x = .v (.int k m)) (hy:ρ y = .v (.int k n)):QR P ρ (.binOp .eql t x y u) (.v<|.bool<|m==n) := .mk λK hK=>by
 show qB P .eql t (ρ x) (ρ y) K;simp only [qB,hx,hy];exact Ck.intro (by simp) hK
theorem QR.ine (hx:ρ x = .v (.int k m)) (hy:ρ y = .v (.int k n)):QR P ρ (.binOp .neq t x y u) (.v<|.bool<|m != n) := .mk λK hK=>by
 show qB P .neq t (ρ x) (ρ y) K;simp only [qB,hx,hy];exact Ck.intro (by simp) hK
theorem QR.ilt (hx:ρ x = .v (.int k m)) (hy:ρ y = .v (.int k n)):QR P ρ (.binOp .lss t x y u) (.v<|.bool<|Rm<|m<n) := .mk λK hK=>by
 show qB P .lss t (ρ x) (ρ y) K;simp only [qB,hx,hy];exact Ck.intro (by simp) hK
theorem QR.ile (hx:ρ x = .v (.int k m)) (hy:ρ y = .v (.int k n)):QR P ρ (.binOp .leq t x y u) (.v<|.bool<|Rm<|m<=n) := .mk λK hK=>by
 show qB P .leq t (ρ x) (ρ y) K;simp only [qB,hx,hy];exact Ck.intro (by simp) hK
theorem QR.igt (hx:ρ x = .v (.int k m)) (hy:ρ y = .v (.int k n)):QR P ρ (.binOp .gtr t x y u) (.v<|.bool<|Rm<|n<m) := .mk λK hK=>by
 show qB P .gtr t (ρ x) (ρ y) K;simp only [qB,hx,hy];exact Ck.intro (by simp) hK
theorem QR.ige (hx:ρ x = .v (.int k m)) (hy:ρ y = .v (.int k n)):QR P ρ (.binOp .geq t x y u) (.v<|.bool<|Rm<|n<=m) := .mk λK hK=>by
 show qB P .geq t (ρ x) (ρ y) K;simp only [qB,hx,hy];exact Ck.intro (by simp) hK
theorem QR.neg (hx:ρ x = .v (.int k m)) (hw:k.wrap (0-m)=0-m):QR P ρ (.unOp .neg t x) (.v<|.int k<|0-m) := .mk λK hK=>by
 show aun .neg (ρ x) K;simp only [aun,hx]
 simp_all
theorem QR.iconv {k':IntKind} {d:TypeId} (hs:(P.underlying t).isSome=Ri) (hd:P.underlying d=Rk (.int k')) (hx:ρ x = .v (.int k m)) (hw:k'.wrap m=m):QR P ρ (.convert t d x) (.v<|.int k' m) := .mk λK hK=>by
 show Hy P t d (ρ x) K;obtain ⟨q,hq⟩:=Tj.1 hs;simp only [Hy,hx,hd,hq]
 simp_all
end
theorem QR.sconv {d:TypeId} {s:BA} (hs:(P.underlying t).isSome=Ri) (hd:P.underlying d=Rk .string) (hx:ρ x = .v (.string s)):QR P ρ (.convert t d x) (.v<|.string s) := .mk λK hK=>by
 show Hy P t d (ρ x) K;obtain ⟨q,hq⟩:=Tj.1 hs;simp only [Hy,hx,hd,hq];exact hK
theorem QR.cat {s r:BA} (hx:ρ x = .v (.string s)) (hy:ρ y = .v (.string r)) (hn:s.size+r.size<=9223372036854775807):QR P ρ (.binOp .add t x y u) (.v<|.string<|s++r) := .mk λK hK=>by
 show qB P .add t (ρ x) (ρ y) K;simp only [qB,hx,hy]
 simp_all
theorem QR.seq {s r:BA} (hx:ρ x = .v (.string s)) (hy:ρ y = .v (.string r)):QR P ρ (.binOp .eql t x y u) (.v<|.bool<|Rm<|s=r) := .mk λK hK=>by
 show qB P .eql t (ρ x) (ρ y) K;simp only [qB,hx,hy];exact hK
theorem QR.sne {s r:BA} (hx:ρ x = .v (.string s)) (hy:ρ y = .v (.string r)):QR P ρ (.binOp .neq t x y u) (.v<|.bool<|!decide (s=r)) := .mk λK hK=>by
 show qB P .neq t (ρ x) (ρ y) K;simp only [qB,hx,hy];exact hK
theorem QR.beq {p q:Bool} (ht:wN P t=Ri) (hx:ρ x = .v (.bool p)) (hy:ρ y = .v (.bool q)):QR P ρ (.binOp .eql t x y u) (.v<|.bool<|p==q) := .mk λK hK=>by
 show qB P .eql t (ρ x) (ρ y) K;simp only [qB,hx,hy];exact Ck.intro ht hK
theorem QR.bne {p q:Bool} (ht:wN P t=Ri) (hx:ρ x = .v (.bool p)) (hy:ρ y = .v (.bool q)):QR P ρ (.binOp .neq t x y u) (.v<|.bool<|!(p==q)) := .mk λK hK=>by
 show qB P .neq t (ρ x) (ρ y) K;simp only [qB,hx,hy];exact Ck.intro ht hK
theorem QR.not {p:Bool} (hx:ρ x = .v (.bool p)):QR P ρ (.unOp .not t x) (.v<|.bool !p) := .mk λK hK=>by
 show aun .not (ρ x) K;simp only [aun,hx];exact hK
theorem QR.fafp {fs:Array Field} {f:Nat} {fl:Field} {row:List AV} {j:Nat} (hu:P.underlying t=Rk (.struct fs)) (hf:fs[f]? = Rk fl) (hc:(P.cellsOf fl.type != 0)=Ri) (hx:ρ x = .fp row j):QR P ρ (.fieldAddr t x f) (.fp row<|j+fl.offset) := .mk λK hK=>by
 show xG P ρ (.fieldAddr t x f) K;simp only [xG,hu,hf,hx];exact Ck.intro hc hK
theorem QR.fahp {fs:Array Field} {f:Nat} {fl:Field} {b v s i j:Nat} (hu:P.underlying t=Rk (.struct fs)) (hf:fs[f]? = Rk fl) (hc:(P.cellsOf fl.type != 0)=Ri) (hx:ρ x = .hp b v s i j):QR P ρ (.fieldAddr t x f) (.hp b v s i<|j+fl.offset) := .mk λK hK=>by
 show xG P ρ (.fieldAddr t x f) K;simp only [xG,hu,hf,hx];exact Ck.intro hc hK
theorem QR.field (a:AV) {fs:Array Field} {f:Nat} {fl:Field} {cs:List AV} {ag:Bool} {n:Nat} (hu:P.underlying t=Rk (.struct fs)) (hf:fs[f]? = Rk fl) (ty:TyF P fl.type ag n) (hx:ρ x = .agg cs) (hp:m9 ag n cs fl.offset=Rk a):QR P ρ (.field t x f) a := .mk λK hK=>by
 show xG P ρ (.field t x f) K;simp only [xG,hu,hf,hx];exact yd ty hp hK
theorem QR.ixsl {e:TypeId} {ag:Bool} {w n:Nat} {row:Nat->List AV} {k:IntKind} {q:Int} (hu:P.underlying t=Rk (.slice e)) (ty:TyF P e ag w) (hx:ρ x = .sl n row) (hy:ρ y = .v (.int k q)) (hq:0<=q/\q<n) (hl:(row q.toNat).length=w) :
  QR P ρ (.indexAddr t x y) (.fp (row q.toNat) 0) := .mk λK hK=>by
 show gF P t (ρ x) (ρ y) K;simp only [gF,hu,hx,hy];refine ⟨hq,Ck.intro ?_ hK⟩;rw [hl,ty.cells,ty.info];simp
theorem QR.ixhs {e:TypeId} {ag:Bool} {w b ver off len:Nat} {k:IntKind} {q:Int} (hu:P.underlying t=Rk (.slice e)) (ty:TyF P e ag w) (hx:ρ x = .hs b ver w off len) (hy:ρ y = .v (.int k q)) (hq:0<=q/\q<len) :
  QR P ρ (.indexAddr t x y) (.hp b ver w (off+q.toNat) 0) := .mk λK hK=>by
 show gF P t (ρ x) (ρ y) K;simp only [gF,hu,hx,hy];refine ⟨hq,Ck.intro ?_ hK⟩;rw [ty.cells,ty.info];simp
theorem QR.ixst {s:BA} {k:IntKind} {q:Int} (hu:P.underlying t=Rk .string) (hx:ρ x = .v (.string s)) (hy:ρ y = .v (.int k q)) (hq:0<=q/\q<s.size):QR P ρ (.index t x y) (.v<|.int .u8 ((s.data.getD q.toNat 0).toNat:Int)) := .mk λK hK=>by
 show Bj P t (ρ x) (ρ y) K;simp only [Bj,hu,hx,hy]
 simp_all
def bnd (ρ:Operand->AV) (x:Option Operand) (d m:Int):Prop:=match x with
 | none=>d=m
 | some y=>∃ k,ρ y = .v (.int k m)
theorem bnd.no {d:Int}:bnd ρ Rl d d:=rfl
theorem bnd.yes {d m:Int} {k:IntKind} (h:ρ y = .v (.int k m)):bnd ρ (Rk y) d m:=⟨k,h⟩
theorem vW {w:Option Operand} {d m:Int} {K:Int->Prop} (h:bnd ρ w d m) (hK:K m):bound (w.map ρ) d K:=by
 cases w with
 | none=>obtain rfl:=h;exact hK
 | some y=>
  obtain ⟨k,h⟩:=h;simp only [SG,bound,h];exact hK
theorem QR.slst {s:BA} {lo hi:Option Operand} {l h:Int} (hu:P.underlying t=Rk .string) (hx:ρ x = .v (.string s)) (hl:bnd ρ lo 0 l) (hh:bnd ρ hi s.size h) (hq:0<=l/\l<=h/\h<=s.size):QR P ρ (.slice t x lo hi Rl) (.v<|.string<|s.extract l.toNat h.toNat) := .mk λK hK=>by
 show wD P t (ρ x) (lo.map ρ) (hi.map ρ) Rl K;simp only [wD,hu,hx];exact vW hl<|vW hh ⟨hq,hK⟩
theorem QR.slsl {e:TypeId} {ag:Bool} {w n:Nat} {row:Nat->List AV} {lo hi:Option Operand} {l h:Int} (hu:P.underlying t=Rk (.slice e)) (ty:TyF P e ag w) (hx:ρ x = .sl n row) (hl:bnd ρ lo 0 l) (hh:bnd ρ hi n h) (hq:0<=l/\l<=h/\h<=n) (hr:∀ i,i<n->(row i).length=w) :
  QR P ρ (.slice t x lo hi Rl) (.sl (h.toNat-l.toNat) λi=>row<|i+l.toNat) := .mk λK hK=>by
 show wD P t (ρ x) (lo.map ρ) (hi.map ρ) Rl K;simp only [wD,hu,hx];exact vW hl<|vW hh ⟨⟨hq.1,hq.2.1,hq.2.2,λi hi=>(hr i hi).trans ty.cells.symm,ty.info⟩,hK⟩
theorem QR.slhs {e:TypeId} {ag:Bool} {w b ver off n:Nat} {lo hi:Option Operand} {l h:Int} (hu:P.underlying t=Rk (.slice e)) (ty:TyF P e ag w) (hx:ρ x = .hs b ver w off n) (hl:bnd ρ lo 0 l) (hh:bnd ρ hi n h) (hq:0<=l/\l<=h/\h<=n) :
  QR P ρ (.slice t x lo hi Rl) (.hs b ver w (off+l.toNat)<|h.toNat-l.toNat) := .mk λK hK=>by
 show wD P t (ρ x) (lo.map ρ) (hi.map ρ) Rl K;simp only [wD,hu,hx];exact vW hl<|vW hh ⟨⟨hq.1,hq.2.1,hq.2.2,ty.cells.symm,ty.info⟩,hK⟩
theorem QR.ext (a:AV) {xs:List AV} {i:Nat} (hx:ρ x = .tup xs) (hi:xs[i]? = Rk a):QR P ρ (.extract x i) a := .mk λK hK=>by
 show xG P ρ (.extract x i) K;obtain ⟨hlt,h1⟩:=ges hi;simp only [xG,hx];refine Ck.intro (decide_eq_true hlt) ?_;rw [AV.force_iff]
 simp_all
theorem QR.build (cs:List AV) {parts:Array (Nat×Operand)} {fs:Array Field} {zs:List AV} {pl:List (Nat×Nat)} {ps:List (Nat×AV)} (hu:P.underlying t=Rk (.struct fs)) (z:TyZ P t zs) (s:TyS P t pl) (hp:(parts.toList.map λp=>(p.1,ρ p.2))=ps) (hf:Al (pl.toArray[·]?) zs ps=Rk cs) :
  QR P ρ (.build t parts) (.agg cs) := .mk λK hK=>by
 show Bl P t (parts.toList.map λp=>(p.1,ρ p.2)) K;rw [hp];have hz:=z.z;have ho:=z.one;have hs:=s.s
 cases hi:P.info? t with
 | none=>simp_all
 | some i=>
  rw [hi] at hz ho
  cases hzz:i.zero with
  | none=>simp_all
  | some zv=>
   simp only [SU,hzz,SG,sie] at hz ho;rw [hu] at hs;simp only at hs;simp only [Bl,hi,hu,hzz,hs,hz,hf];exact Ck.intro ho hK
theorem QR.mkfn {f:Fn} {first oO:Array Operand} (cs:List AV) (h0:(first.size==0)=Ri) (hc:oO.toList.map ρ=cs):QR P ρ (.makeFunc f first oO) (.fn f cs) := .mk λK hK=>by
 show xG P ρ (.makeFunc f first oO) K;simp only [xG,hc];exact Ck.intro h0 hK
theorem QR.of_acallN {cl:Call} {r:AV} (hv:∀ f,cl.callee ≠ .value f) (h:∀ K:AV->Prop,K r->sP P ρ cl.callee cl.args.toList cl.argTypes.toList K):QR P ρ (.call cl) r := .mk λK hK=>by
 unfold Og;have h:=h K hK
 cases hc:cl.callee with
 | value f=>simp_all
 | invoke x m=>rw [hc] at h;simp only [hc];show sP P ρ cl.callee cl.args.toList cl.argTypes.toList K;simp_all
 | builtin f=>rw [hc] at h;simp only [hc];show sP P ρ cl.callee cl.args.toList cl.argTypes.toList K;simp_all
theorem QR.lensl {e:TypeId} {n:Nat} {row:Nat->List AV} (hu:P.underlying t=Rk (.slice e)) (hx:ρ x = .sl n row):QR P ρ (.call ⟨.builtin .len,#[x],#[t]⟩) (.v<|.int .i64 n) := .of_acallN (by simp) λK hK=>by
 simp only [sP,hu,hx];exact hK
theorem QR.lenhs {e:TypeId} {b v s o n:Nat} (hu:P.underlying t=Rk (.slice e)) (hx:ρ x = .hs b v s o n):QR P ρ (.call ⟨.builtin .len,#[x],#[t]⟩) (.v<|.int .i64 n) := .of_acallN (by simp) λK hK=>by
 simp only [sP,hu,hx];exact hK
theorem QR.lennil {e:TypeId} (hu:P.underlying t=Rk (.slice e)) (hx:ρ x = .nil):QR P ρ (.call ⟨.builtin .len,#[x],#[t]⟩) (.v<|.int .i64 0) := .of_acallN (by simp) λK hK=>by
 simp only [sP,hu,hx];exact hK
theorem QR.lenst {s:BA} (hu:P.underlying t=Rk .string) (hx:ρ x = .v (.string s)):QR P ρ (.call ⟨.builtin .len,#[x],#[t]⟩) (.v<|.int .i64 s.size) := .of_acallN (by simp) λK hK=>by
 simp only [sP,hu,hx];exact hK
theorem QR.min {k k':IntKind} {m n:Int} {ts:Array TypeId} (hx:ρ x = .v (.int k m)) (hy:ρ y = .v (.int k' n)):QR P ρ (.call ⟨.builtin .min,#[x,y],ts⟩) (.v<|.int k<|if n<m then n else m) := .of_acallN (by simp) λK hK=>by
 simp only [sP,hx,hy];exact hK
theorem QR.max {k k':IntKind} {m n:Int} {ts:Array TypeId} (hx:ρ x = .v (.int k m)) (hy:ρ y = .v (.int k' n)):QR P ρ (.call ⟨.builtin .max,#[x,y],ts⟩) (.v<|.int k<|if n>m then n else m) := .of_acallN (by simp) λK hK=>by
 simp only [sP,hx,hy];exact hK
theorem EvA.call {cl:Call} {f:Operand} {g:FuncId} {oO Rf:List AV} {r:AV} (hc:cl.callee = .value f) (hf:ρ f = .fn (.func g) oO) (ha:cl.args.toList.map ρ++oO=Rf) (h:dS P g Rf H r H'):EvA P ρ (.call cl) H r H' := .mk λK hK=>by
 unfold aop;simp only [hc,hf,ha];exact .intro h hK
theorem QR.call {cl:Call} {f:Operand} {g:FuncId} {oO Rf:List AV} {r:AV} (hc:cl.callee = .value f) (hf:ρ f = .fn (.func g) oO) (ha:cl.args.toList.map ρ++oO=Rf) (h:ax P g Rf r) (hF:Rf.all (isF 9)=Ri):QR P ρ (.call cl) r := .mk λK hK=>by
 unfold Og;simp only [hc,hf,ha];exact .intro (λH=>h.acall hF H) hK
theorem EvA.alloc {zs:List AV} (z:TyZ P t zs) (hn:(SB 0 zs.length)=Ri):EvA P ρ (.alloc t) H (.hp H.length 0 zs.length 0 0) (H++[Rk ⟨0,zs.length,t,[zs]⟩]) := .mk λK hK=>by
 show Fu P ρ (.alloc t) H K;have hz:=z.z;have ho:=z.one
 cases hi:P.info? t with
 | none=>simp_all
 | some i=>
  rw [hi] at hz ho
  cases hzz:i.zero with
  | none=>simp_all
  | some zv=>
   simp only [SU,hzz,SG,sie] at hz ho;simp only [Fu,hi,hzz,hz];refine Ck.intro ?_ hK
   simp_all
theorem EvA.box {cs:List AV} (hx:(ρ x).cells=Rk cs) (hn:(SB 0 cs.length)=Ri):EvA P ρ (.box t x) H (.hp H.length 0 cs.length 0 0) (H++[Rk ⟨0,cs.length,t,[cs]⟩]) := .mk λK hK=>by
 show Fu P ρ (.box t x) H K;simp only [Fu,hx];exact Ck.intro (decide_eq_true<|nlb hn) hK
theorem EvA.bslice {e:TypeId} {w n:Nat} {ag:Bool} {zs:List AV} {parts:Array (Nat×Operand)} (hu:P.underlying t=Rk (.slice e)) (ty:TyF P e ag w) (z:TyZ P e zs) (hzl:zs.length=w) (rows:List<|List AV) (hr:lG (parts.toList.map λp=>(ρ p.2).cells)=Rk rows)
  (hn:(SB 0 w&&SC (n*w) 16777216&&(parts.toList.map (·.1)==SE n))=Ri) (hl:rows.all (λrow=>row.length==w)=Ri) :
  EvA P ρ (.buildSlice t n parts) H (.hs H.length 0 w 0 n) (H++[Rk ⟨0,w,e,rows⟩]) := .mk λK hK=>by
 show Fu P ρ (.buildSlice t n parts) H K;have hz:=z.z;have ho:=z.one;simp only [bae] at hn;simp only [Fu,hu,hr];have hz1:((P.info? e).bind (·.zero)).map (λz=>z.cells.size)=Rk w:=by
  cases hb:(P.info? e).bind (·.zero) with
  | none=>rw [hb] at hz;cases hz
  | some zv=>
   rw [hb] at hz;simp only [SG,sie] at hz ⊢;rw [<- hzl,<- hz];simp [fD]
 rw [ty.cells,hz1,ho];refine Ck.intro ?_ hK
 simp_all
theorem EvA.mslice {e:TypeId} {w:Nat} {ag:Bool} {zs:List AV} {l c:Int} (hu:P.underlying t=Rk (.slice e)) (ty:TyF P e ag w) (z:TyZ P e zs) (hzl:zs.length=w) (hw:(SB 0 w)=Ri) (hx:ρ x = .v (.int .i64 l)) (hy:ρ y = .v (.int .i64 c)) (n:Nat) (hb:P.bytesOf e=n)
  (hq:0<=l/\l<=c/\c*(n:Int)<=140737488355328/\c<=140737488355328):EvA P ρ (.makeSlice t x y) H (.hs H.length 0 w 0 l.toNat) (H++[Rk ⟨0,w,e,SZ c.toNat zs⟩]) := .mk λK hK=>by
 show Fu P ρ (.makeSlice t x y) H K;have hz:=z.z;have ho:=z.one
 cases hi:(P.info? e).bind (·.zero) with
 | none=>simp_all
 | some zv=>
  rw [hi] at hz ho;simp only [SG,sie] at hz ho;simp only [Fu,hu,hx,hy,hi,hb];refine ⟨hq,?_⟩;rw [ty.cells,hz,hzl,ho];refine Ck.intro ?_ hK
  simp_all
theorem EvA.loadhp (a:AV) {ag:Bool} {n:Nat} (ty:TyF P t ag n) {b ver s i j:Nat} (h:ρ x = .hp b ver s i j) {k:ABlk} (hk:H[b]? = Rk (Rk k)) (hv:k.ver=ver) (hs:k.s=s) {row:List AV} (hr:k.rows[i]? = Rk row) (hp:m9 ag n row j=Rk a):EvA P ρ (.load t x) H a H := .mk λK hK=>by
 show Fu P ρ (.load t x) H K;simp only [Fu,h,hk];obtain ⟨hlt,h1⟩:=ges hr;refine ⟨⟨hv,hs,hlt⟩,?_⟩;have : k.rows.getD i []=row:=by rw [<- h1];simp [hlt]
 rw [this];exact yd ty hp hK
theorem EvA.store {ag:Bool} {n:Nat} (ty:TyF P t ag n) {b ver s i j:Nat} (hx:ρ x = .hp b ver s i j) {cs:List AV} (hy:(ρ y).cells=Rk cs) {k:ABlk} (hk:H[b]? = Rk (Rk k)) (hv:k.ver=ver) (hs:k.s=s) {row:List AV} (hr:k.rows[i]? = Rk row)
  (hl:cs.length=n) (hj:j+n<=s) (k':ABlk) (hk':{ k with rows:=k.rows.set i (splice row j cs) }=k'):EvA P ρ (.store t x y) H .top (H.set b<|Rk k') := .mk λK hK=>by
 show Fu P ρ (.store t x y) H K;simp only [Fu,hx,hy,hk];obtain ⟨hlt,h1⟩:=ges hr;refine ⟨⟨hv,hs,hlt,by omega⟩,?_⟩;rw [ty.cells,ty.info,hl];refine Ck.intro (by simp) ?_;have : k.rows.getD i []=row:=by rw [<- h1];simp [hlt]
 rw [sO,this,hk'];exact hK
end
def gd {α:Type} (b:Bool) (x:Option α):Option α:=bif b then x else Rl
theorem oP {α:Type} {b:Bool} {x:Option α} (h:b=Ri):gd b x=x:=by subst h;rfl
theorem gdL {α:Type} {b:Bool} {x:Option α} {r:α} (h:gd b x=Rk r):b=Ri/\x=Rk r:=by
 cases b
 ·cases h
 exact ⟨rfl,h⟩
theorem gdD {α:Type} {A:Prop} [Decidable A] {x:Option α} {r:α} (h:gd (decide A) x=Rk r):A/\x=Rk r:=by
 obtain ⟨h1,h2⟩:=gdL h
 simp_all
def QS (k:IntKind) (n:Int):Bool:=Rm<|k.wrap n=n
theorem gdW {α:Type} {k:IntKind} {n:Int} {x:Option α} {r:α} (h:gd (QS k n) x=Rk r):k.wrap n=n/\x=Rk r:=gdD h
theorem Mq {n:Int} (h : -9223372036854775808<=n/\n<=9223372036854775807):QS .i64 n=Ri:=decide_eq_true<|IntWalk.i64_in n h
theorem OC {n:Int} (h:0<=n/\n<=255):QS .u8 n=Ri:=decide_eq_true<|IntWalk.u8_in n h
theorem Mr {n:Int} (h:0<=n/\n<=18446744073709551615):QS .u64 n=Ri:=decide_eq_true<|IntWalk.u64_in n h
theorem Ao {α β:Type} {o:Option α} {k:α->Option β} {r:β} (h:o.bind k=Rk r):∃ x,o=Rk x/\k x=Rk r:=Option.bind_eq_some_iff.1 h
theorem FL {α:Type} {b:Bool} {x y r:α} (hb:b=Ri) (h:(bif b then x else y)=r):x=r:=by simp_all
theorem FM {α:Type} {b:Bool} {x y r:α} (hb:b=Rj) (h:(bif b then x else y)=r):y=r:=by simp_all
def hS (g:Bool) (b ver s n:Nat):AV:=bif g then .nil else .hs b ver s 0 n
def bE (g:Bool) (ver s:Nat) (ty:TypeId) (rows:List<|List AV):Option ABlk:=bif g then Rl else Rk ⟨ver,s,ty,rows⟩
def bL (P:Program) (H:AH) (s:Nat) (a:AV) (news:List<|List AV):Prop:=∀ (c:Cx) (u:Value),c.H=H->HRel c->c.rel a u->∃ vs,SrcIs P c s u news vs
section
variable {P:Program} {ρ:Operand->AV} {H:AH} {x y:Operand} {t u e:TypeId} {s:Nat}
theorem bL.mk {a:AV} {news:List (List AV)} (h:∀ K:List (List AV)->Prop,K news->Oo H P t s a K):bL P H s a news:=by
 obtain ⟨n2,hn,h2⟩:=IX<|h (λq=>q=news) rfl;subst hn;exact h2
theorem bL.nil:bL P H s .nil [] := .mk (t:=0) λ_ hK=>hK
theorem wG {α:Type} [Inhabited α] (f:α->List AV) (l:List α):(SE l.length).map (λi=>f<|l.getD i Rh)=l.map f:=by
 apply List.ext_getElem
 ·simp
 simp_all
theorem bL.eL {α:Type} [Inhabited α] {f:α->List AV} {l:List α} (hf:∀ x,(f x).length=s):bL P H s (eL f l) (l.map f) := .mk (t:=0) λK hK=>by
 show (∀ i,i<l.length->(f<|l.getD i Rh).length=s)/\K ((SE l.length).map λi=>f<|l.getD i Rh);exact ⟨λi _=>hf _,by rw [wG];exact hK⟩
theorem bL.sl {n:Nat} {row:Nat->List AV} (hf:∀ i,i<n->(row i).length=s):bL P H s (.sl n row) ((SE n).map row) := .mk (t:=0) λK hK=>⟨hf,hK⟩
theorem bL.own {b ver off n:Nat} {k:ABlk} (hk:H[b]? = Rk (Rk k)) (hv:k.ver=ver) (hs:k.s=s) (hn:off+n<=k.rows.length) {news:List (List AV)} (he:(k.rows.drop off).take n=news):bL P H s (.hs b ver s off n) news := .mk (t:=0) λK hK=>by
 simp only [Oo,hk]
 simp_all
theorem bL.hS {g:Bool} {b ver n:Nat} {ty:TypeId} {rows:List (List AV)} (hk:H[b]? = Rk (bE g ver s ty rows)) (hn:n=rows.length) (hg:g=Ri->rows=[]):bL P H s (hS g b ver s n) rows:=by
 cases g with
 | true=>rw [hg rfl];exact .nil
 | false=>subst hn;exact .own (k:=⟨ver,s,ty,rows⟩) hk rfl rfl (by simp) (by simp)
theorem M5 {zs:List AV} (z:TyZ P e zs) (hl:zs.length=s):((P.info? e).bind (·.zero)).map (λz=>z.cells.size)=Rk s:=by
 have hz:=z.z
 cases hb:(P.info? e).bind (·.zero) with
 | none=>simp_all
 | some zv=>
  rw [hb] at hz;simp only [SG,sie] at hz ⊢;rw [<- hl,<- hz];simp [fD]
theorem FN (h:Hz P u=Ri):(∃ e2,P.underlying u=Rk (.slice e2))\/P.underlying u=Rk .string:=by
 unfold Hz at h
 grind
theorem DR {α:Type}:∀ (l:List α) (i:Nat) (x:α),l[i]? = Rk x->l.set i x=l
 | [],_,_,_=>rfl
 | a::l,0,x,h=>by
  simp_all
 | a::l,i+1,x,h=>by
  simp only [List.getElem?_cons_succ] at h;simp [DR l i x h]
theorem EvA.appv {g:Bool} {b ver n m:Nat} {ag:Bool} {zs:List AV} {rows news:List (List AV)} (hu:P.underlying t=Rk (.slice e)) (hv:Hz P u=Ri) (ty:TyF P e ag s) (z:TyZ P e zs) (hzl:zs.length=s) (hs:(SB 0 s)=Ri)
  (hx:ρ x=Go.Proofs.YtabfkkjdfhbngaaGreatDoor.hS g b ver s n) (hk:H[b]? = Rk (bE g ver s e rows)) (hn:n=rows.length) (hg:g=Ri->rows=[]) (hsrc:bL P H s (ρ y) news) (hm:P.bytesOf e=m) (hb1:(n+news.length)*m<=35184372088832) (hb2:n+news.length<=35184372088832) :
  EvA P ρ (.call ⟨.builtin .append,#[x,y],#[t,u]⟩) H (Go.Proofs.YtabfkkjdfhbngaaGreatDoor.hS (g&&news.isEmpty) b (ver+1) s<|n+news.length) (H.set b<|bE (g&&news.isEmpty) (ver+1) s e<|rows++news):=λo ho=>by
 have hpos:0<P.cellsOf e:=by rw [ty.cells];exact nlb hs
 have hz:=M5 z<|hzl.trans ty.cells.symm;rw [<- ty.cells] at hsrc hx hk ⊢
 cases g with
 | false=>
  have h:=BB (o:=o) (P:=P) (ρ:=ρ) (H:=H) (k:=⟨ver,P.cellsOf e,e,rows⟩) (off:=0) (len:=n) (news:=news) ho rfl rfl rfl hu (FN hv) hx hk rfl rfl rfl (by grind) rfl hz (by simp_all) hb2 hsrc;have e1:(List.drop 0 rows).take n=rows:=by subst hn;simp
  simp only [e1] at h;exact h
 | true=>
  have hr:=hg rfl;subst hr;subst hn;simp only [List.length_nil,SF] at hb1 hb2 ⊢
  cases news with
  | nil=>
   have h:=Ab (o:=o) (P:=P) (ρ:=ρ) (H:=H) ho rfl rfl rfl hu (FN hv) hx hz rfl hsrc;have e2:H.set b (bE (Ri&&([]:List<|List AV).isEmpty) (ver+1) (P.cellsOf e) e<|[]++[])=H:=DR _ _ _ hk;rw [e2];exact h
  | cons a l=>
   exact FH (o:=o) (P:=P) (ρ:=ρ) (H:=H) (ver:=ver+1) hk ho rfl rfl rfl hu (FN hv) hx hpos hz (by simp_all) hb2 (by simp) hsrc
theorem EvA.app {g:Bool} {b ver n m:Nat} {ag:Bool} {zs:List AV} {rows rows':List (List AV)} {a:List AV} {news:List (List AV)} (hu:P.underlying t=Rk (.slice e)) (hv:Hz P u=Ri) (ty:TyF P e ag s) (z:TyZ P e zs) (hzl:zs.length=s) (hs:(SB 0 s)=Ri)
  (hx:ρ x=Go.Proofs.YtabfkkjdfhbngaaGreatDoor.hS g b ver s n) (hk:H[b]? = Rk (bE g ver s e rows)) (hn:n=rows.length) (hg:g=Ri->rows=[]) (hsrc:bL P H s (ρ y) (a::news)) (hm:P.bytesOf e=m) (hb1:(n+(a::news).length)*m<=35184372088832) (hb2:n+(a::news).length<=35184372088832)
  (hr:rows++(a::news)=rows') {n':Nat} (hn':n+(a::news).length=n') :
  EvA P ρ (.call ⟨.builtin .append,#[x,y],#[t,u]⟩) H (Go.Proofs.YtabfkkjdfhbngaaGreatDoor.hS Rj b (ver+1) s n') (H.set b<|bE Rj (ver+1) s e rows'):=by
 have h:=EvA.appv (P:=P) (ρ:=ρ) (x:=x) (y:=y) hu hv ty z hzl hs hx hk hn hg hsrc hm hb1 hb2
 simp_all
theorem QR.lenhS {g:Bool} {b v s n:Nat} (hu:P.underlying t=Rk (.slice e)) (hx:ρ x=Go.Proofs.YtabfkkjdfhbngaaGreatDoor.hS g b v s n) (hg:g=Ri->n=0):QR P ρ (.call ⟨.builtin .len,#[x],#[t]⟩) (.v<|.int .i64 n):=by
 cases g with
 | true=>rw [hg rfl];exact QR.lennil hu hx
 | false=>exact QR.lenhs hu hx
theorem QR.ixhS {g:Bool} {ag:Bool} {w b ver len:Nat} {k:IntKind} {q:Int} (hu:P.underlying t=Rk (.slice e)) (ty:TyF P e ag w) (hx:ρ x=Go.Proofs.YtabfkkjdfhbngaaGreatDoor.hS g b ver w len) (hy:ρ y = .v (.int k q)) (hg:g=Ri->len=0) (hq:0<=q/\q<len) :
  QR P ρ (.indexAddr t x y) (.hp b ver w q.toNat 0):=by
 cases g with
 | true=>grind
 | false=>have h:=QR.ixhs (P:=P) (ρ:=ρ) hu ty hx hy hq;simp_all
end
section
variable {m:Nat} {H:AH} {e:Env}
theorem zb:∀ (n:Nat) (m:Nat) (a:AV),isF n a=Ri->FG n m a=Ri
 | 0,_,_,h=>by cases h
 | n+1,m,a,h=>by
  cases a with
  | agg cs=>simp only [isF,FG,SD] at h ⊢;exact λc hc=>zb n m c<|h c hc
  | tup cs=>simp only [isF,FG,SD] at h ⊢;exact λc hc=>zb n m c<|h c hc
  | fn f cs=>simp only [isF,FG,SD] at h ⊢;exact λc hc=>zb n m c<|h c hc
  | ifc t x=>simp only [isF,FG] at h ⊢;exact zb n m x h
  | hs=>cases h
  | hp=>cases h
  | mp=>cases h
  | top=>cases h
  | _=>rfl
theorem Fz.of_isF:∀ (n:Nat) (a:AV),isF n a=Ri->Fz m H a a
 | 0,_,h=>by cases h
 | n+1,a,h=>by
  cases a with
  | v x=>exact .v
  | nil=>exact .nil
  | sl k row=>exact .sl λ_ _=>rfl
  | fp row j=>exact .fp
  | agg cs=>
   simp only [isF,SD] at h;exact .agg rfl (λi c d hc hd=>by obtain ⟨rfl,hm⟩:=eX hc hd;exact Fz.of_isF n _<|h _ hm)
  | tup cs=>
   simp only [isF,SD] at h;exact .tup rfl (λi c d hc hd=>by obtain ⟨rfl,hm⟩:=eX hc hd;exact Fz.of_isF n _<|h _ hm)
  | fn f cs=>
   simp only [isF,SD] at h;exact .fn rfl (λi c d hc hd=>by obtain ⟨rfl,hm⟩:=eX hc hd;exact Fz.of_isF n _<|h _ hm)
  | ifc t x=>
   simp only [isF] at h;exact .ifc<|Fz.of_isF n x h
  | hs b q s o l=>cases h
  | hp b q s i j=>cases h
  | mp b s=>cases h
  | top=>cases h
theorem Fz.own {α:Type} [Inhabited α] {g:Bool} {b ver s n:Nat} {ty:TypeId} {f:α->List AV} {l:List α} (hm:SC m b=Ri) (hk:H[b]? = Rk (bE g ver s ty<|l.map f)) (hn:n=l.length) (hg:g=Ri->l=[]) (hf:∀ x,(f x).all (isF 9)=Ri):Fz m H (hS g b ver s n) (eL f l):=by
 subst hn
 cases g with
 | true=>rw [hg rfl];exact .nil0
 | false=>
  refine .hs (k:=⟨ver,s,ty,l.map f⟩) (nlb hm) hk rfl rfl (by simp) (λi r hi hr=>?_) λi r j c d hi hr hc hd=>?_
  ·simp_all
  simp only [SF,S0,geq hi,SG,sie] at hr;subst hr;have e1:l.getD i Rh=l[i]:=by simp [hi]
  rw [e1] at hd;obtain ⟨rfl,hm⟩:=eX hc hd;exact Fz.of_isF 9 _<|SD.1 (hf _) _ hm
inductive FzL (m:Nat) (H:AH):List AV->List AV->Prop
 | nil:FzL m H [] []
 | cons {a b:AV} {l k:List AV} (h:Fz m H a b) (t:FzL m H l k):FzL m H (a::l) (b::k)
theorem FzL.spec {l k:List AV} (h:FzL m H l k):l.length=k.length/\∀ (i:Nat) (c d:AV),l[i]? = Rk c->k[i]? = Rk d->Fz m H c d:=by
 induction h with
 | nil=>simp_all
 | cons h t ih=>
  grind
theorem Fz.tupL {l k:List AV} (h:FzL m H l k):Fz m H (.tup l) (.tup k) := .tup h.spec.1 h.spec.2
theorem Fz.aggL {l k:List AV} (h:FzL m H l k):Fz m H (.agg l) (.agg k) := .agg h.spec.1 h.spec.2
theorem Stl.hS {g:Bool} {b ver s n:Nat} (hb:SB b m=Ri):Stl m H (hS g b ver s n) (hS g b ver s n):=by
 cases g with
 | true=>exact .fz .nil
 | false=>exact .hs (nlb hb)
theorem Stl.eqv {a a' b:AV} (h:a=a') (k:Stl m H a' b):Stl m H a b:=h ▸ k
inductive StlL (m:Nat) (H:AH):List AV->List AV->Prop
 | nil:StlL m H [] []
 | cons {a b:AV} {l k:List AV} (h:Stl m H a b) (t:StlL m H l k):StlL m H (a::l) (b::k)
theorem StlL.spec {l k:List AV} (h:StlL m H l k):l.length=k.length/\∀ (i:Nat) (c d:AV),l[i]? = Rk c->k[i]? = Rk d->Stl m H c d:=by
 induction h with
 | nil=>simp_all
 | cons h t ih=>
  grind
theorem StayB.list {α:Type} {g:Bool} {ver s:Nat} {ty:TypeId} {f:α->List AV} {l:List α} (hf:∀ x,(f x).all (isF 9)=Ri):StayB m H (bE g ver s ty<|l.map f) (bE g ver s ty<|l.map f):=by
 cases g with
 | true=>exact .dead
 | false=>
  refine .keep λr hr a ha=>?_;obtain ⟨x,_,rfl⟩:=Tc.1 hr;exact zb 9 m a<|SD.1 (hf x) a ha
theorem StayB.row {ver s:Nat} {ty:TypeId} {r r0:List AV} (h:StlL m H r r0):StayB m H (Rk ⟨ver,s,ty,[r]⟩) (Rk ⟨ver,s,ty,[r0]⟩) := .same rfl λi q q0 hq hq0=>by
 cases i with
 | zero=>
  simp only [SX,sie] at hq hq0;subst hq hq0;exact h.spec
 | succ i=>grind
theorem uY {b0:Nat} {e0:Env} {H0:AH} (hb:SC b0 H0.length=Ri) (hH:StayL H0.length H H H0) (hs:∀ t,Stl H0.length H (e t)<|e0 t):eZ b0 e H e0 H0 := .inr ⟨_,nlb hb,Stay.of hH,hs⟩
theorem Ap {b0:Nat} {e0:Env} {H0:AH} (hH:H0=H) (hw:CF e e0):eZ b0 e H e0 H0 := .inl ⟨hH,hw⟩
end
section
variable {P:Program}
inductive ResOk (P:Program) (e:Env) (H:AH):ResultVar->AV->Prop
 | tmp {t:Tmp} {a:AV} (h:e t=a):ResOk P e H (.tmp t) a
 | cell {ad:Tmp} {t:TypeId} {ag:Bool} {n b ver s i j:Nat} {k:ABlk} {row:List AV} (a:AV) (ty:TyF P t ag n) (h:e ad = .hp b ver s i j) (hk:H[b]? = Rk (Rk k)) (hv:k.ver=ver) (hs:k.s=s) (hr:k.rows[i]? = Rk row) (hp:m9 ag n row j=Rk a):ResOk P e H (.cell ad t) a
 | cellF {ad:Tmp} {t:TypeId} {ag:Bool} {n j:Nat} {row:List AV} (a:AV) (ty:TyF P t ag n) (h:e ad = .fp row j) (hp:m9 ag n row j=Rk a):ResOk P e H (.cell ad t) a
inductive ResL (P:Program) (e:Env) (H:AH):List ResultVar->List AV->Prop
 | nil:ResL P e H [] []
 | cons {r:ResultVar} {a:AV} {l:List ResultVar} {k:List AV} (h:ResOk P e H r a) (t:ResL P e H l k):ResL P e H (r::l) (a::k)
def Oh:List AV->AV
 | [a]=>a
 | Rf => .tup Rf
theorem GU {t:TypeId} {ag:Bool} {n:Nat} (ty:TyF P t ag n) {row:List AV} {j:Nat} {a:AV} (hp:m9 ag n row j=Rk a):Bq P t row j a:=by
 obtain ⟨r,h1,h2⟩:=xP<|yd (K:=λq=>q=a) ty hp rfl
 simp_all
theorem Jb {c:Cx} {nt:Nat} {e:Env} {a:Act} (hs:SRel c nt e a) {r:ResultVar} {x:AV} (h:ResOk P e c.H r x):∃ v,(CZ a.tmps r).run P c.w = .ok v c.w/\c.rel x v:=by
 cases h with
 | tmp h=>exact ⟨_,by simp [CZ],h ▸ hs.rel _⟩
 | @cell ad t ag n b ver s i j k row x ty h hk hv hsz hr hp=>
  have h1:=h ▸ hs.rel ad;generalize hu:a.tmps.getD ad undef=u at h1
  cases h1 with
  | fr h=>cases h
  | @hp _ _ _ _ _ adr hbn hh=>
   have hl:c.live b k:=hk;obtain ⟨cs,fr,hB⟩:=hs.heap.blk b k hl;obtain ⟨fr,rfl,hat,hd⟩:=hB.cells hl λx hx=>(hh x<|hv ▸ hx).1.trans hsz.symm;rw [hv] at hd;obtain ⟨_,rfl⟩:=hh _ hd;have hrow:HE c (c.φ b).1 ((c.φ b).2+i*s) row:=by
    intro q a' hq;obtain ⟨u,h1,h2,h3⟩:=hB.rel i _ q a' hr hq;refine ⟨u,?_,h2,h3⟩;rw [<- hsz,cell_of_row c.w _ _ cs k.ty fr hat];exact h1
   obtain ⟨v,hrun,hrel⟩:=vS hrow<|GU ty hp;refine ⟨v,?_,hrel⟩;simp only [CZ,hu];simpa [Instr.loadAt,Instr.sureAddr,asAddr] using hrun
 | @cellF ad t ag n j row x ty h hp=>
  have h1:=h ▸ hs.rel ad;obtain ⟨g,o,he,hrow⟩:=(uH h1).rowAt;obtain ⟨v,hrun,hrel⟩:=vS hrow<|GU ty hp;refine ⟨v,?_,hrel⟩;simp only [CZ,he];simpa [Instr.loadAt,Instr.sureAddr,asAddr] using hrun
theorem GV {c:Cx} {nt:Nat} {e:Env} {a:Act} (hs:SRel c nt e a):∀ {rs:List ResultVar} {Rf:List AV},ResL P e c.H rs Rf->∃ vs:List Value,(rs.mapM<|CZ a.tmps).run P c.w = .ok vs c.w/\vs.length=Rf.length/\∀ (i:Nat) (x:AV) (v:Value),Rf[i]? = Rk x->vs[i]? = Rk v->c.rel x v
 | [],[],_=>⟨[],by simp,rfl,λi x v h=>by grind⟩
 | r::rs,x::Rf,.cons h t=>by
  obtain ⟨v,h1,h2⟩:=Jb hs h;obtain ⟨vs,h3,h4,h5⟩:=GV hs t;refine ⟨v::vs,by simp [List.mapM_cons,Sem.run_bind,h1,h3],by simp [h4],λi y u hy hu=>?_⟩
  grind
theorem EJ {fn:Func} {c:Cx} {nt:Nat} {e:Env} {a:Act} {Rf:List AV} (hs:SRel c nt e a) (h:ResL P e c.H fn.results.toList Rf):∃ v,(results fn a.tmps).run P c.w = .ok v c.w/\c.rel (Oh Rf) v:=by
 obtain ⟨vs,h1,h2,h3⟩:=GV hs h;have e1:results fn a.tmps=(do let vs <- fn.results.mapM (CZ a.tmps);pure (if h:vs.size=1 then vs[0] else .tuple vs)):=by
  unfold results
  congr 2
 refine ⟨if h:vs.toArray.size=1 then vs.toArray[0] else .tuple vs.toArray,?_,?_⟩
 ·rw [e1,Array.mapM_eq_mapM_toList];simp only [Sem.run_bind,Sem.run_map,h1,Result.andThen_ok,Sem.run_pure]
 match Rf,vs,h2,h3 with
 | [x],[v],_,h3=>exact h3 0 x v rfl rfl
 | [],[],_,_=>exact .tup (by simp) (λi q u hq=>by simp at hq)
 | x::y::Rf,v::w::vs,h2,h3=>
  rw [dif_neg (by simp)];exact .tup (by simpa using h2) λi q u hq hu=>h3 i q u hq (by simpa using hu)
def Fin (P:Program) (fn:Func) (R:AV->AH->Prop):Exit->Env->AH->Prop:=λx e G=>(x = .normal\/x = .ret)/\∃ Rf,ResL P e G fn.results.toList Rf/\R (Oh Rf) G
theorem dN.mkT {f:FuncId} {fn:Func} {body:Code} {Rf:List AV} {H:AH} {R:AV->AH->Prop} (hf:P.funcs[f]? = Rk fn) (hb:fn.body=Rk body) (hcall:iq P f=Ri) (hn:SC Rf.length fn.ntmps=Ri)
  (hok:codeOk fn.ntmps body=Ri) {e0:Env} (hw:CF (KV Rf) e0) (h:T P fn.ntmps H.length body (Fin P fn R) e0 H):dN P f Rf H R:=by
 refine ⟨hcall,λc vs hH hr hall=>?_⟩;obtain ⟨hl,hrel⟩:=hall;have hn:=nlb hn;have hs:SRel c fn.ntmps (KV Rf) { tmps:=vs++Td (fn.ntmps-vs.size) undef,defers:=[] }:=by
  refine ⟨by simp_all,rfl,λt=>?_,hr⟩;unfold KV;rcases S5 t Rf.length with hlt | hge
  ·have e1:Rf.getD t .top=Rf[t]:=by simp [hlt]
   have hlt2:t<vs.size:=by omega
   have e2:(vs++Td (fn.ntmps-vs.size) undef).getD t undef=vs[t]:=by
    rw [Array.getD_eq_getD_getElem?,Tk hlt2,SS hlt2]
    rfl
   rw [e1];simp only [e2];exact hrel t _ _ (geq hlt)<|SS hlt2
  have e1:Rf.getD t .top = .top:=by simp [hge]
  rw [e1];exact .top
 refine calls_of_wp hf hb<|wp_mono (h hok c c _ hH (by simp_all) (Ext.refl c)<|hs.weak hw) λx a w hl=>?_;obtain ⟨hg,c',e',rfl,hx,hs',hq,as',hR1,hR⟩:=hl;obtain ⟨v,hv,hrel'⟩:=EJ (P:=P) hs' hR1;rcases hq with rfl | rfl
 ·exact ⟨hs'.defers,v,hv,v,c',_,rfl,rfl,hR,hs'.heap,hx,hrel'⟩
 exact ⟨hs'.defers,v,hv,v,c',_,rfl,rfl,hR,hs'.heap,hx,hrel'⟩
theorem ax.mkT {f:FuncId} {fn:Func} {body:Code} {Rf:List AV} {r:AV} (hf:P.funcs[f]? = Rk fn) (hb:fn.body=Rk body) (hcall:iq P f=Ri) (hn:SC Rf.length fn.ntmps=Ri)
 (hok:codeOk fn.ntmps body=Ri) {e0:Env} (hw:CF (KV Rf) e0) (h:T P fn.ntmps 0 body (Fin P fn λr0 G=>Fz 0 G r0 r) e0 []):ax P f Rf r:=ax.of<|dN.mkT hf hb hcall hn hok hw h
theorem Fin.ret {fn:Func} {R:AV->AH->Prop} {e:Env} {G:AH} {vs:List AV} (h:ResL P e G fn.results.toList vs) (k:R (Oh vs) G):Fin P fn R .ret e G:=⟨.inr rfl,vs,h,k⟩
theorem Fin.normal {fn:Func} {R:AV->AH->Prop} {e:Env} {G:AH} {vs:List AV} (h:ResL P e G fn.results.toList vs) (k:R (Oh vs) G):Fin P fn R .normal e G:=⟨.inl rfl,vs,h,k⟩
end
def cI:Int->List AV:=λn=>[I n]
def cY:Int->List AV:=λn=>[Y n]
def cB:Bool->List AV:=λb=>[Bo b]
def cS:BA->List AV:=λs=>[St s]
def cL {α:Type} [Inhabited α] (f:α->List AV):List α->List AV:=λl=>[eL f l]
structure SlT (P:Program) (t e:TypeId) (ag:Bool) (w:Nat) (zs:List AV) (m:Nat):Prop where
 u:P.underlying t=Rk (.slice e)
 ty:TyF P e ag w
 z:TyZ P e zs
 zl:zs.length=w
 pos:(SB 0 w)=Ri
 by_:P.bytesOf e=m
def bT (n m:Nat):Bool:=Rm<|n*m<=35184372088832/\n<=35184372088832
def SQ (b0:Nat) (Q:Exit->Env->AH->Prop):Exit->Env->AH->Prop:=λx e H=>∃ e0 H0,eZ b0 e H e0 H0/\Q x e0 H0
def Px (b0:Nat) {G:Type} (inv:G->Prop) (slots:G->List (Nat×AV)) (heap:G->AH) (e:Env) (H:AH):Prop:=∃ g,inv g/\eZ b0 e H (ai<|slots g) (heap g)
def sumK {S W:Type} (a:Option<|S ⊕ W) (k:S->Option W):Option W:=match a with
 | none=>Rl
 | some (.inl s)=>k s
 | some (.inr w)=>Rk w
def PM {S W:Type} (K:S->Option W) (r:W) (z:S ⊕ W):Prop:=match z with
 | .inl s=>K s=Rk r
 | .inr w=>w=r
theorem sumL {S W:Type} {a:Option (S ⊕ W)} {k:S->Option W} {r:W} (h:sumK a k=Rk r):∃ K,K=k/\∃ z,a=Rk z/\PM K r z:=by
 refine ⟨k,rfl,?_⟩
 cases a with
 | none=>cases h
 | some z=>
  cases z with
  | inl s=>exact ⟨.inl s,rfl,h⟩
  | inr w=>exact ⟨.inr w,rfl,osl h⟩
section
variable {P:Program} {nt b0:Nat} {Q:Exit->Env->AH->Prop} {e e0:Env} {H H' H0:AH} {ops:Array Oper} {o:Oper} {l:List Oper} {r:AV}
theorem T.leaf {x:Code} (h:T P nt b0 x (SQ b0 Q) e H):T P nt b0 x Q e H:=by
 intro hok c c0 a hH hb hx hr;refine wp_mono (h hok c c0 a hH hb hx hr) λex a' w' hl=>?_;obtain ⟨hg,c',e',rfl,hx',hs',e1,H1,hs,hq⟩:=hl;obtain ⟨c2,h4,h5,h6,h7⟩:=hs.state hx' hs' hb;exact ⟨hg,c2,e1,h4,h5,h6,h7 ▸ hq⟩
theorem n9 {k:Env->AH->Prop} (h:Q .ret e H):GR k Q .ret e H:=h
theorem og {i:Nat} (h:Q .ret e H):I9 i Q .ret e H:=h
theorem T.joinF {G:Type} {x y:Code} (inv:G->Prop) (slots:G->List (Nat×AV)) (heap:G->AH)
  (J:∀ g,inv g->T P nt b0 y Q (ai<|slots g) (heap g)) (h:T P nt b0 x (GR (Px b0 inv slots heap) Q) e H):T P nt b0 (.seq x y) Q e H:=by
 refine T.join (S:=Unit) (λ_=>True) (λ_ g=>inv g) (λ_ g=>slots g) (λ_ g=>heap g) (λ_ g _ hi=>J g hi) ?_;intro hok c c0 a hH hb hx hr;refine wp_mono (h hok c c0 a hH hb hx hr) λex a' w' ⟨hg,c',e',hw,hx',hs',hq⟩=>⟨hg,c',e',hw,hx',hs',?_⟩
 cases ex with
 | normal=>obtain ⟨g,h1,h2⟩:=hq;exact ⟨(),g,trivial,h1,h2⟩
 | _=>exact hq
theorem T.clean {x:Code} (hH:H0=H) (hw:CF e e0) (h:T P nt b0 x Q e0 H0):T P nt b0 x Q e H:=h.cut<|Ap hH hw
theorem TO.clean (hH:H0=H) (hw:CF e e0) (h:TO P nt b0 ops l Q e0 H0):TO P nt b0 ops l Q e H:=h.cut<|Ap hH hw
theorem CE {α:Type} {q:Bool} {x y:Option α} {r:α} (h:(bif q then x else y)=Rk r):(q=Ri/\x=Rk r)\/(q=Rj/\y=Rk r):=by
 grind
section
variable {d:Tmp} {op:Op} {ty:TypeId} {pos:String} {af:Array Edge} {en:List (Nat×AV)} {cls:Nat->Nat} {i:Nat} {K:Env->AH->Prop}
theorem oN (h:QR P (rho<|ai en) op r) (k:TO P nt b0 ops l Q (ai ((d,r)::en)) H):TO P nt b0 ops (⟨Rk d,op,ty,pos,af,Rl⟩::l) Q (ai en) H := .run (.free rfl) h.toA k
theorem oA (h:EvA P (rho<|ai en) op H r H') (k:TO P nt b0 ops l Q (ai ((d,r)::en)) H'):TO P nt b0 ops (⟨Rk d,op,ty,pos,af,Rl⟩::l) Q (ai en) H := .run (.free rfl) h k
theorem oV (h:EvA P (rho<|ai en) op H r H') (k:TO P nt b0 ops l Q (ai en) H'):TO P nt b0 ops (⟨Rl,op,ty,pos,af,Rl⟩::l) Q (ai en) H := .run (.free rfl) h k
theorem gN {j:Nat} {b q:Bool} (hy:eu ops.toList (ai en) j = .v (.bool q)) (hq:q=b) (h:QR P (rho<|ai en) op r) (k:TO P nt b0 ops l Q (ai ((d,r)::en)) H):TO P nt b0 ops (⟨Rk d,op,ty,pos,af,Rk (j,b)⟩::l) Q (ai en) H := .run (.yes rfl hy hq) h.toA k
theorem gA {j:Nat} {b q:Bool} (hy:eu ops.toList (ai en) j = .v (.bool q)) (hq:q=b) (h:EvA P (rho<|ai en) op H r H') (k:TO P nt b0 ops l Q (ai ((d,r)::en)) H'):TO P nt b0 ops (⟨Rk d,op,ty,pos,af,Rk (j,b)⟩::l) Q (ai en) H := .run (.yes rfl hy hq) h k
theorem gS {j:Nat} {b q:Bool} (hy:eu ops.toList (ai en) j = .v (.bool q)) (hq:q = !b) (k:TO P nt b0 ops l Q (ai ((d,.tup [])::en)) H):TO P nt b0 ops (⟨Rk d,op,ty,pos,af,Rk (j,b)⟩::l) Q (ai en) H := .pass (.no rfl hy hq) k
theorem gU {j:Nat} {b:Bool} (hy:eu ops.toList (ai en) j = .tup []) (k:TO P nt b0 ops l Q (ai ((d,.tup [])::en)) H):TO P nt b0 ops (⟨Rk d,op,ty,pos,af,Rk (j,b)⟩::l) Q (ai en) H := .pass (.un rfl hy) k
theorem d1 (hc:cls i=1) (hv:EvA P (rho<|ai en) op H r H) (h:TL P cls (i+1) l K (ai ((d,r)::en)) H):TL P cls i (⟨Rk d,op,ty,pos,af,Rl⟩::l) K (ai en) H:=TL.op1 hc hv h
end
end
section
variable {P:Program} {ρ:Operand->AV} {H:AH} {x y:Operand} {t u e:TypeId} {ag:Bool} {w m:Nat} {zs:List AV}
theorem QO.res {o:Oper} {H':AH} {r r':AV} (h:QO P o ρ H r H') (hr:∀ (c:Cx) (v:Value),c.rel r v->c.rel r' v):QO P o ρ H r' H':=
 λc a K Q hH hc hxs hK=>h c a K Q hH hc hxs λv c' h1 h2 h3 h4=>hK v c' h1 h2 h3 (hr c' v h4)
theorem QR.res {op:Op} {r r':AV} (h:QR P ρ op r) (hr:∀ (c:Cx) (v:Value),c.rel r v->c.rel r' v):QR P ρ op r':=λo ho G=>(h o ho G).res hr
theorem EK {c:Cx} {n:Nat} {row row':Nat->List AV} {v:Value} (he:∀ i,i<n->row i=row' i) (h:c.rel (.sl n row) v):c.rel (.sl n row') v:=by
 have hf:=uG h;refine .fr ?_
 cases hf with
 | @sl _ cap s g o _ a us hc hm ha hs hu2 h1 h3=>
  refine .sl (s:=s) (g:=g) (o:=o) us hc hm ha (λi hi=>?_) (λi j a hi hj=>?_) (λi j a hi hj=>?_) λi j a hi hj=>?_
  ·rw [<- he i hi];exact hs i hi
  ·rw [<- he i hi] at hj;exact hu2 i j a hi hj
  ·rw [<- he i hi] at hj;exact h1 i j a hi hj
  simp_all
variable {α:Type} {c:α->List AV} {l:List α}
theorem QR.lenL [Inhabited α] (q:SlT P t e ag w zs m) (hx:ρ x=eL c l):QR P ρ (.call ⟨.builtin .len,#[x],#[t]⟩) (I l.length):=QR.lensl q.u hx
theorem QR.lenO {g:Bool} {b v s n:Nat} (q:SlT P t e ag w zs m) (hx:ρ x=Go.Proofs.YtabfkkjdfhbngaaGreatDoor.hS g b v s n) (hg:g=Ri->n=0):QR P ρ (.call ⟨.builtin .len,#[x],#[t]⟩) (I n):=QR.lenhS q.u hx hg
theorem QR.ixL [Inhabited α] {k:IntKind} {i:Int} (q:SlT P t e ag w zs m) (hx:ρ x=eL c l) (hy:ρ y = .v (.int k i)) (hi:0<=i/\i<l.length) (hl:∀ x,(c x).length=w):QR P ρ (.indexAddr t x y) (.fp (c<|l.getD i.toNat Rh) 0):=
 QR.ixsl (row:=λi=>c<|l.getD i Rh) q.u q.ty hx hy hi<|hl _
theorem QR.ixO {g:Bool} {b ver n:Nat} {k:IntKind} {i:Int} (q:SlT P t e ag w zs m) (hx:ρ x=Go.Proofs.YtabfkkjdfhbngaaGreatDoor.hS g b ver w n) (hy:ρ y = .v (.int k i)) (hg:g=Ri->n=0) (hi:0<=i/\i<n):QR P ρ (.indexAddr t x y) (.hp b ver w i.toNat 0):=
 QR.ixhS q.u q.ty hx hy hg hi
theorem QR.slL [Inhabited α] {lo hi:Option Operand} {a b:Int} (q:SlT P t e ag w zs m) (hx:ρ x=eL c l) (hl:bnd ρ lo 0 a) (hh:bnd ρ hi l.length b) (hq:0<=a/\a<=b/\b<=l.length) (hc:∀ x,(c x).length=w) :
  QR P ρ (.slice t x lo hi Rl) (eL c<|(l.drop a.toNat).take<|b.toNat-a.toNat):=by
 refine (QR.slsl (row:=λi=>c<|l.getD i Rh) q.u q.ty hx hl hh hq λi _=>hc _).res λC v hv=>?_;have hn:((l.drop a.toNat).take<|b.toNat-a.toNat).length=b.toNat-a.toNat:=by simp;omega
 unfold Go.Proofs.YtabfkkjdfhbngaaGreatDoor.eL;rw [hn];exact EK (λi hi=>by grind) hv
theorem A9 [Inhabited α] {f:α->List AV} {l:List α} {i:Nat} (h:i<l.length):(l.map f)[i]? = Rk (f<|l.getD i Rh):=by
 simp_all
theorem EvA.ldO (a:AV) [Inhabited α] {g:Bool} {b ver i j n:Nat} {e':TypeId} {w':Nat} (tt:TyF P t ag n) (h:ρ x = .hp b ver w' i j) (hk:H[b]? = Rk (bE g ver w' e'<|l.map c)) (hg:g=Ri->l=[]) (hi:i<l.length) (hp:m9 ag n (c<|l.getD i Rh) j=Rk a):EvA P ρ (.load t x) H a H:=by
 cases g with
 | true=>simp_all
 | false=>exact EvA.loadhp (k:=⟨ver,w',e',l.map c⟩) a tt h hk rfl rfl (A9 hi) hp
theorem EvA.stO (v:α) [Inhabited α] {g:Bool} {b ver i j n:Nat} {e':TypeId} {w':Nat} (tt:TyF P t ag n) (hx:ρ x = .hp b ver w' i j) {cs:List AV} (hy:(ρ y).cells=Rk cs) (hk:H[b]? = Rk (bE g ver w' e'<|l.map c)) (hg:g=Ri->l=[]) (hi:i<l.length)
  (hl:cs.length=n) (hj:SC (j+n) w'=Ri) (hv:splice (c<|l.getD i Rh) j cs=c v):EvA P ρ (.store t x y) H .top (H.set b<|bE Rj ver w' e'<|(l.set i v).map c):=by
 cases g with
 | true=>simp_all
 | false=>exact EvA.store (k:=⟨ver,w',e',l.map c⟩) tt hx hy hk rfl rfl (A9 hi) hl (nlb hj) _ (by simp_all)
theorem EvA.al {b:Nat} (z:TyZ P t zs) (hn:(SB 0 zs.length)=Ri) (hb:H.length=b):EvA P ρ (.alloc t) H (.hp b 0 zs.length 0 0) (H++[Rk ⟨0,zs.length,t,[zs]⟩]):=by
 subst hb;exact EvA.alloc z hn
theorem EvA.bx {b:Nat} {cs:List AV} (hx:(ρ x).cells=Rk cs) (hn:(SB 0 cs.length)=Ri) (hb:H.length=b):EvA P ρ (.box t x) H (.hp b 0 cs.length 0 0) (H++[Rk ⟨0,cs.length,t,[cs]⟩]):=by
 subst hb;exact EvA.box hx hn
theorem EvA.st (k':ABlk) {n:Nat} (ty:TyF P t ag n) {b ver s i j:Nat} (hx:ρ x = .hp b ver s i j) {cs:List AV} (hy:(ρ y).cells=Rk cs) {k:ABlk} (hk:H[b]? = Rk (Rk k)) (hv:k.ver=ver) (hs:k.s=s) {row:List AV} (hr:k.rows[i]? = Rk row)
 (hl:cs.length=n) (hj:SC (j+n) s=Ri) (hk':{ k with rows:=k.rows.set i (splice row j cs) }=k'):EvA P ρ (.store t x y) H .top (H.set b<|Rk k'):=EvA.store ty hx hy hk hv hs hr hl (nlb hj) k' hk'
theorem Jc {g:Bool} {n:Nat} {i:Int} (hg:g=Ri->l=[]) (hn:n=l.length) (h:0<=i/\i<(n:Int)):g=Rj:=by
 grind
theorem aQ {n:Nat} {i:Int} (hn:n=l.length) (h:0<=i/\i<(n:Int)):i.toNat<l.length:=by omega
theorem FO {g:Bool} {n:Nat} (hg:g=Ri->l=[]) (hn:n=l.length) (h:g=Ri):n=0:=by simp_all
theorem C8 {n:Nat} (h:bT n m=Ri):n*m<=35184372088832/\n<=35184372088832:=of_decide_eq_true h
theorem EvA.app1 (v:α) {g:Bool} {b ver n:Nat} (q:SlT P t e ag w zs m) (hv:Hz P u=Ri) (hx:ρ x=Go.Proofs.YtabfkkjdfhbngaaGreatDoor.hS g b ver w n) (hn:n=l.length) (hk:H[b]? = Rk (bE g ver w e<|l.map c)) (hg:g=Ri->l=[]) (hsrc:bL P H w (ρ y) [c v]) (hb:bT (l.length+1) m=Ri) :
  EvA P ρ (.call ⟨.builtin .append,#[x,y],#[t,u]⟩) H (Go.Proofs.YtabfkkjdfhbngaaGreatDoor.hS Rj b (ver+1) w (l++[v]).length) (H.set b<|bE Rj (ver+1) w e<|(l++[v]).map c):=by
 subst hn;exact EvA.app q.u hv q.ty q.z q.zl q.pos hx hk (by simp) (λh=>by simp_all) hsrc q.by_ (C8 hb).1 (C8 hb).2 (by simp) (by simp)
theorem EvA.appM (k:List α) {g:Bool} {b ver n:Nat} (q:SlT P t e ag w zs m) (hv:Hz P u=Ri) (hx:ρ x=Go.Proofs.YtabfkkjdfhbngaaGreatDoor.hS g b ver w n) (hn:n=l.length) (hk:H[b]? = Rk (bE g ver w e<|l.map c)) (hg:g=Ri->l=[]) (hsrc:bL P H w (ρ y)<|k.map c) (hb:bT (l.length+k.length) m=Ri) :
  EvA P ρ (.call ⟨.builtin .append,#[x,y],#[t,u]⟩) H (Go.Proofs.YtabfkkjdfhbngaaGreatDoor.hS (g&&k.isEmpty) b (ver+1) w (l++k).length) (H.set b<|bE (g&&k.isEmpty) (ver+1) w e<|(l++k).map c):=by
 subst hn;have h:=EvA.appv (P:=P) (ρ:=ρ) (news:=k.map c) q.u hv q.ty q.z q.zl q.pos hx hk (by simp) (λh=>by rw [hg h];rfl) hsrc q.by_ (by simpa using (C8 hb).1) (by simpa using (C8 hb).2)
 simp_all
theorem EvA.appF (k:List α) {b ver n:Nat} (q:SlT P t e ag w zs m) (hv:Hz P u=Ri) (hx:ρ x=Go.Proofs.YtabfkkjdfhbngaaGreatDoor.hS Rj b ver w n) (hn:n=l.length) (hk:H[b]? = Rk (bE Rj ver w e<|l.map c)) (hsrc:bL P H w (ρ y)<|k.map c) (hb:bT (l.length+k.length) m=Ri) :
  EvA P ρ (.call ⟨.builtin .append,#[x,y],#[t,u]⟩) H (Go.Proofs.YtabfkkjdfhbngaaGreatDoor.hS Rj b (ver+1) w (l++k).length) (H.set b<|bE Rj (ver+1) w e<|(l++k).map c):=
 EvA.appM (g:=false) k q hv hx hn hk nofun hsrc hb
theorem bL.fz [Inhabited α] (hx:ρ y=Go.Proofs.YtabfkkjdfhbngaaGreatDoor.eL c l) (hc:∀ x,(c x).length=w):bL P H w (ρ y) (l.map c):=by
 rw [hx];exact bL.eL hc
theorem bL.none (hx:ρ y = .nil):bL P H w (ρ y) (([]:List α).map c):=by
 rw [hx];exact bL.nil
theorem EvA.callT {cl:Call} {f:Operand} {g:FuncId} {Rf:List AV} {r:AV} (hc:cl.callee = .value f) (hf:ρ f = .fn (.func g) []) (h:ax P g Rf r) (hz:FzL 0 H (cl.args.toList.map ρ) Rf) (hd:dry 9 r=Ri):EvA P ρ (.call cl) H r H:=
 EvA.call hc hf (List.append_nil _) (h.tmp hz.spec.1 hz.spec.2 hd)
theorem EvA.mkO (k:List α) (rows:List<|List AV) {b n:Nat} {parts:Array (Nat×Operand)} (q:SlT P t e ag w zs m) (hr:lG (parts.toList.map λp=>(ρ p.2).cells)=Rk rows) (hn:(SB 0 w&&SC (n*w) 16777216&&(parts.toList.map (·.1)==SE n))=Ri) (hk:rows=k.map c) (hc:∀ x,(c x).length=w) (hlen:k.length=n) (hb:H.length=b) :
  EvA P ρ (.buildSlice t n parts) H (Go.Proofs.YtabfkkjdfhbngaaGreatDoor.hS Rj b 0 w k.length) (H++[bE Rj 0 w e (k.map c)]):=by
 have h:=EvA.bslice (P:=P) (ρ:=ρ) (H:=H) q.u q.ty q.z q.zl rows hr hn (by simp_all);rw [hlen];subst hk hb;exact h
theorem EvA.mkN (v:α) {bl:Nat} {a b:Int} (q:SlT P t e ag w zs m) (hx:ρ x = .v (.int .i64 a)) (hy:ρ y = .v (.int .i64 b)) (hq:0<=a/\a<=b/\b*(m:Int)<=140737488355328/\b<=140737488355328) (hab:a=b) (hv:zs=c v) (hbl:H.length=bl) :
  EvA P ρ (.makeSlice t x y) H (Go.Proofs.YtabfkkjdfhbngaaGreatDoor.hS Rj bl 0 w (SZ a.toNat v).length) (H++[bE Rj 0 w e ((SZ a.toNat v).map c)]):=by
 have h:=EvA.mslice (P:=P) (ρ:=ρ) (H:=H) q.u q.ty q.z q.zl q.pos hx hy m q.by_ hq;subst hab hbl;rw [List.length_replicate,List.map_replicate,<- hv];exact h
end
section
variable {P:Program} {ρ:Operand->AV} {H:AH} {x y:Operand} {t u e d:TypeId}
theorem FP {c:Cx} {l:LI} {vs:List Value} (h:CY c 1 (l.map cY) vs):vs=l.map (Value.int .u8):=by
 obtain ⟨h1,h2,h3⟩:=h;apply SL;intro i;rcases S5 i l.length with hlt | hge
 ·have hr:(l.map cY)[i]? = Rk (cY l[i]):=by rw [S0,geq hlt];rfl
  obtain ⟨u,g1,_,g3⟩:=h3 i _ 0 _ hr rfl;obtain ⟨rfl,_⟩:=ik g3;simp only [Nat.mul_one,Nat.add_zero] at g1;rw [g1,S0,geq hlt]
  rfl
 simp_all
theorem EvA.b2s {l:LI} (hs:P.underlying t=Rk (.slice e)) (he:P.underlying e=Rk (.int .u8)) (hd:P.underlying d=Rk .string) (hsl:∀ (c:Cx) (v:Value),c.rel (ρ x) v->∃ A n cap,v = .slice A n cap) (hsrc:bL P H 1 (ρ x)<|l.map cY) :
  EvA P ρ (.convert t d x) H (St<|strOfNums l) H:=λo ho c a K Q hH hr hxs hK=>by
 have h1:=hxs x (by rw [ho];simp [Op.operands]);obtain ⟨A,n,cap,hv⟩:=hsl c _ h1;obtain ⟨vs,hvs⟩:=hsrc c _ hH hr h1;rw [hv] at hvs;have hvl:=FP hvs.is;have hlen:=hvs.len c.w;have hn:n=l.length:=by
  simp [Builtin.lenOf] at hlen;simpa using hlen
 subst hn;have hrun:(Conv.bytesToString<|.slice A l.length cap).run P c.w = .ok (.string<|strOfNums l) c.w:=by
  cases A with
  | none=>
   have hc:=hvs.cells c.w rfl;simp only [Builtin.firstCells,Sem.run_pure] at hc;injection hc with hc;have : vs=[]:=by simpa using congrArg Array.toList hc.symm
   rw [this] at hvl;have : l=[]:=by cases l with | nil=>rfl | cons b l=>grind
   subst this
   rfl
  | some ad=>
   have hc:=hvs.cells c.w rfl;simp only [Builtin.firstCells,llm,Nat.mul_one] at hc;rw [hvl] at hc;rw [run_bytesToString c.w ad l.length cap l hc,foldl_push_bytes];simp [strOfNums,ByteArray.empty,ByteArray.emptyWithCapacity]
   rfl
 unfold Oper.wp;have : (execOp a.eval o).run P c.w = .ok (.value<|.string<|strOfNums l) c.w:=by
  rw [execOp,ho];simp only [hv];exact xK _<|(run_convert_bytes_string c.w t d e A _ cap hs he hd).trans hrun
 rw [this];exact hK _ c hH hr (Ext.refl c)<|cf rfl
theorem Jd {α:Type} [Inhabited α] {f:α->List AV} {l:List α} (hx:ρ x=eL f l):∀ (c:Cx) (v:Value),c.rel (ρ x) v->∃ A n cap,v = .slice A n cap:=λc v h=>by
 rw [hx] at h;have := uG h
 cases this
 simp_all
inductive FzRows (m:Nat) (H:AH):List (List AV)->List (List AV)->Prop
 | nil:FzRows m H [] []
 | cons {a b:List AV} {l k:List (List AV)} (h:FzL m H a b) (t:FzRows m H l k):FzRows m H (a::l) (b::k)
inductive StlRows (m:Nat) (H:AH):List (List AV)->List (List AV)->Prop
 | nil:StlRows m H [] []
 | cons {a b:List AV} {l k:List (List AV)} (h:StlL m H a b) (t:StlRows m H l k):StlRows m H (a::l) (b::k)
theorem StlRows.spec {m:Nat} {l k:List (List AV)} (h:StlRows m H l k):l.length=k.length/\∀ (i:Nat) (c d:List AV),l[i]? = Rk c->k[i]? = Rk d->StlL m H c d:=by
 induction h with
 | nil=>simp_all
 | cons h t ih=>
  grind
theorem FzRows.spec {m:Nat} {l k:List (List AV)} (h:FzRows m H l k):l.length=k.length/\∀ (i:Nat) (c d:List AV),l[i]? = Rk c->k[i]? = Rk d->FzL m H c d:=by
 induction h with
 | nil=>simp_all
 | cons h t ih=>
  grind
theorem StlRows.same {α:Type} {m:Nat} {f:α->List AV} (hf:∀ x,(f x).all (isF 9)=Ri):∀ l:List α,StlRows m H (l.map f) (l.map f)
 | [] => .nil
 | a::l=>by
  refine .cons ?_<|StlRows.same hf l;have key:∀ r:List AV,(∀ a∈r,isF 9 a=Ri)->StlL m H r r:=by
   intro r
   induction r with
   | nil=>exact λ_ => .nil
   | cons b r ih=>exact λh => .cons (.fz<|.of_isF 9 b<|h b<|by simp) (ih λa ha=>h a<|by simp [ha])
  grind
theorem StlRows.app {m:Nat} {l k l' k':List (List AV)} (h:StlRows m H l k) (h':StlRows m H l' k'):StlRows m H (l++l') (k++k'):=by
 induction h with
 | nil=>exact h'
 | cons h t ih=>exact .cons h ih
theorem StayB.rows {m:Nat} {g:Bool} {ver s:Nat} {ty:TypeId} {rows CC:List (List AV)} (h:StlRows m H rows CC):StayB m H (bE g ver s ty rows) (bE g ver s ty CC):=by
 cases g with
 | true=>exact .dead
 | false=>exact .same h.spec.1 λi r r0 hr hr0=>(h.spec.2 i r r0 hr hr0).spec
theorem StayB.snoc {α:Type} {m:Nat} {ver s:Nat} {ty:TypeId} {f:α->List AV} {l k:List α} {r:List (List AV)} (hf:∀ x,(f x).all (isF 9)=Ri) (h:StlRows m H r<|k.map f):StayB m H (bE Rj ver s ty<|l.map f++r) (bE Rj ver s ty<|(l++k).map f):=
 .rows (by rw [List.map_append];exact (StlRows.same hf l).app h)
theorem Fz.rows {α:Type} [Inhabited α] {m b ver s n:Nat} {ty:TypeId} {f:α->List AV} {l:List α} {rows:List (List AV)} (hm:SC m b=Ri) (hk:H[b]? = Rk (bE Rj ver s ty rows)) (hn:n=rows.length) (h:FzRows m H rows<|l.map f):Fz m H (hS Rj b ver s n) (eL f l):=by
 obtain ⟨h1,h2⟩:=h.spec;have hl:rows.length=l.length:=by simpa using h1
 subst hn;unfold eL;rw [<- hl];refine .hs (k:=⟨ver,s,ty,rows⟩) (nlb hm) hk rfl rfl (by simp) (λi r hi hr=>?_) λi r j c d hi hr hc hd=>?_
 ·rw [SF] at hr;have hi':i<l.length:=by omega
  have := (h2 i r (f<|l.getD i Rh) hr<|A9 hi').spec.1;omega
 rw [SF] at hr;have hi':i<l.length:=by omega
 exact (h2 i r (f<|l.getD i Rh) hr<|A9 hi').spec.2 j c d hc hd
theorem EvA.mkZ {ag:Bool} {w m:Nat} {zs:List AV} {bl:Nat} {a b:Int} (q:SlT P t e ag w zs m) (hx:ρ x = .v (.int .i64 a)) (hy:ρ y = .v (.int .i64 b)) (hq:0<=a/\a<=b/\b*(m:Int)<=140737488355328/\b<=140737488355328) (hab:a=b) (hbl:H.length=bl) :
  EvA P ρ (.makeSlice t x y) H (Go.Proofs.YtabfkkjdfhbngaaGreatDoor.hS Rj bl 0 w a.toNat) (H++[bE Rj 0 w e (SZ a.toNat zs)]):=by
 have h:=EvA.mslice (P:=P) (ρ:=ρ) (H:=H) q.u q.ty q.z q.zl q.pos hx hy m q.by_ hq;subst hab hbl;exact h
theorem EvA.appR {ag:Bool} {w m:Nat} {zs:List AV} {g:Bool} {b ver n n':Nat} {rows rows':List (List AV)} {a:List AV} {news:List (List AV)} (q:SlT P t e ag w zs m) (hv:Hz P u=Ri) (hx:ρ x=Go.Proofs.YtabfkkjdfhbngaaGreatDoor.hS g b ver w n) (hk:H[b]? = Rk (bE g ver w e rows)) (hn:n=rows.length) (hg:g=Ri->rows=[])
  (hsrc:bL P H w (ρ y) (a::news)) (hb:bT (n+(a::news).length) m=Ri) (hr:rows++(a::news)=rows') (hn':n+(a::news).length=n') :
  EvA P ρ (.call ⟨.builtin .append,#[x,y],#[t,u]⟩) H (Go.Proofs.YtabfkkjdfhbngaaGreatDoor.hS Rj b (ver+1) w n') (H.set b<|bE Rj (ver+1) w e rows'):=
 EvA.app q.u hv q.ty q.z q.zl q.pos hx hk hn hg hsrc q.by_ (C8 hb).1 (C8 hb).2 hr hn'
theorem bL.raw {w b ver n:Nat} {ty:TypeId} {rows:List (List AV)} (hx:ρ y=Go.Proofs.YtabfkkjdfhbngaaGreatDoor.hS Rj b ver w n) (hk:H[b]? = Rk (bE Rj ver w ty rows)) (hn:n=rows.length):bL P H w (ρ y) rows:=by
 rw [hx];exact bL.hS hk hn nofun
theorem EvA.mkR {ag:Bool} {w m:Nat} {zs:List AV} {b n:Nat} {parts:Array (Nat×Operand)} (rows:List<|List AV) (q:SlT P t e ag w zs m) (hr:lG (parts.toList.map λp=>(ρ p.2).cells)=Rk rows) (hn:(SB 0 w&&SC (n*w) 16777216&&(parts.toList.map (·.1)==SE n))=Ri)
  (hl:rows.all (λrow=>row.length==w)=Ri) (hb:H.length=b):EvA P ρ (.buildSlice t n parts) H (Go.Proofs.YtabfkkjdfhbngaaGreatDoor.hS Rj b 0 w n) (H++[bE Rj 0 w e rows]):=by
 subst hb;exact EvA.bslice q.u q.ty q.z q.zl rows hr hn hl
def nilK {α:Type} (e:Bool) (A B:Option α):Option α:=open Classical in bif e then (if A=B then A else Rl) else B
theorem Je {α:Type} {e:Bool} {A B:Option α} {r:α} (h:nilK e A B=Rk r):(e=Ri->A=Rk r)/\B=Rk r:=by
 unfold nilK at h
 grind
end
section
variable {P:Program} {ρ:Operand->AV} {H:AH} {x y:Operand} {t u e d:TypeId}
theorem K9.settle {o:Oper} {k:ABlk} {r r0:AV} (h:K9 P o ρ H k r) (hz:Fz H.length (H++[Rk k]) r r0):QO P o ρ H r0 H:=by
 intro c a K Q hH hr hx hK;obtain ⟨cs,v,h1,h2,h3⟩:=h c a hH hr hx;subst hH;let c':=c.new k cs;have hsz:c'.w.heap.size=c.w.heap.size+1:=by simp [c',Cx.new]
 have hnew:∀ g,c'.all c.H.length g↔c.fz g\/g=c.w.heap.size:=by
  intro g
  constructor
  ·rintro (hg | ⟨b,k',hb,hl,rfl⟩)
   ·exact .inl hg
   rcases Cx.new_live hl with ⟨rfl,_⟩ | ⟨hlt,_⟩
   ·exact .inr (by simp [c',Cx.new])
   omega
  rintro (hg | rfl)
  ·exact .inl hg
  exact .inr ⟨c.H.length,k,SI _,Cx.new_live_new c k cs,by simp [c',Cx.new]⟩
 let c2:Cx:={ w:=c'.w,fz:=c'.all c.H.length,H:=c.H,φ:=c.φ };have hkeep:∀ g,g<c.w.heap.size->c2.w.heap[g]? = c.w.heap[g]? := λg hg=>Below.heap_alloc _ _ _ hg;have hx2:Ext c c2:=by
  refine ⟨rfl,rfl,rfl,by grind,λg hg _=>hkeep g hg,λg hg => .inl hg,λg hg=>?_,SI _,λ_ _ h=>h,λb ver y hb hy=>?_,λb k' hl => .inr ⟨b,k',hl,rfl⟩⟩
  ·grind
  obtain ⟨k',hl,rfl,o',hc,hx'⟩:=Cx.hd_some hy;have hl':c.live b k':=hl;exact (Cx.hd_of hl'<|by rw [<- hkeep _ (hr.live_lt hl')];exact hc).trans hx'
 have hr2:HRel c2:=by
  refine ⟨λg hg=>Cx.all_lt h2 hg,λb k' hl=>?_,hr.inj,hr.glx hx2⟩;have hl':c.live b k':=hl;obtain ⟨cs',fr,hB⟩:=hr.blk b k' hl';refine ⟨cs',fr,⟨(hkeep _<|hr.live_lt hl').trans hB.at_,λhz=>?_,hB.pos,hB.free,hB.fits,hB.len,λi row j a' g1 g2=>?_⟩⟩
  ·rcases (hnew _).1 hz with hz | hz
   ·exact hB.nf hz
   have := hr.live_lt hl'
   grind
  obtain ⟨u,g3,g4,g5⟩:=hB.rel i row j a' g1 g2;exact ⟨u,g3,g4,g5.ext hr hx2⟩
 unfold Oper.wp;rw [h1];exact hK v c2 rfl hr2 hx2<|.fr<|Fz.sound (c:=c') h2 hz v h3
theorem QR.newF {op:Op} {r0:AV} (k:ABlk) (r:Nat->AV) (h:∀ o:Oper,o.op=op->∀ G,K9 P o ρ G k<|r G.length) (hz:∀ (m:Nat) (G:AH),G.length=m->Fz m (G++[Rk k]) (r m) r0):QR P ρ op r0:=λo ho G=>(h o ho G).settle<|hz _ G rfl
theorem QR.bxF (cs:List AV) (hx:(ρ x).cells=Rk cs) (hn:(SB 0 cs.length)=Ri) (hF:cs.all (isF 9)=Ri):QR P ρ (.box t x) (.fp cs 0):=
 .newF ⟨0,cs.length,t,[cs]⟩ (λn => .hp n 0 cs.length 0 0) (λ_ ho _=>GI ho hx<|nlb hn) λm G hG=>by
  refine .hp (k:=⟨0,cs.length,t,[cs]⟩) (r:=cs) (SI _) (by simp_all) rfl rfl rfl rfl λj c d hc hd=>?_;obtain ⟨rfl,hm⟩:=eX hc hd;exact .of_isF 9 _<|SD.1 hF _ hm
theorem QR.mkF {α:Type} [Inhabited α] {c:α->List AV} {ag:Bool} {w m:Nat} {zs:List AV} {n:Nat} {parts:Array (Nat×Operand)} (k:List α) (rows:List<|List AV) (q:SlT P t e ag w zs m) (hr:lG (parts.toList.map λp=>(ρ p.2).cells)=Rk rows) (hn:(SB 0 w&&SC (n*w) 16777216&&(parts.toList.map (·.1)==SE n))=Ri) (hk:rows=k.map c) (hc:∀ x,(c x).length=w) (hF:∀ x,(c x).all (isF 9)=Ri) (hlen:k.length=n) :
  QR P ρ (.buildSlice t n parts) (eL c k):=by
 subst hk;simp only [bae,beq_iff_eq] at hn;have hz:=M5 q.z (q.zl.trans q.ty.cells.symm);refine .newF ⟨0,P.cellsOf e,e,k.map c⟩ (λb => .hs b 0 (P.cellsOf e) 0 n) (λo ho G=>qF ho q.u hr (by rw [q.ty.cells];simp_all) (by rw [q.ty.cells];simp_all) hn.2 hz q.z.one (λrow hrow=>by
  obtain ⟨x,_,rfl⟩:=Tc.1 hrow;rw [hc,q.ty.cells])) λm G hG=>?_
 exact Fz.own (g:=false) (ver:=0) (l:=k) (f:=c) (ty:=e) (Te<|SI _) (by rw [<- hG];simp [bE]) hlen.symm nofun hF
theorem dS.mkT {f:FuncId} {fn:Func} {body:Code} {Rf:List AV} {H':AH} {r:AV} (hf:P.funcs[f]? = Rk fn) (hb:fn.body=Rk body) (hcall:iq P f=Ri) (hn:SC Rf.length fn.ntmps=Ri)
 (hok:codeOk fn.ntmps body=Ri) {e0:Env} (hw:CF (KV Rf) e0) (h:T P fn.ntmps H.length body (SQ H.length<|Fin P fn λr0 G=>r0=r/\G=H') e0 H):dS P f Rf H r H':=(dN.mkT hf hb hcall hn hok hw h.leaf).acall
theorem aF {S:Nat->Nat->Prop}:∀ (n:Nat) (a:AV),isF n a=Ri->Ren S a a
 | 0,_,h=>by cases h
 | n+1,a,h=>by
  cases a with
  | v x=>exact .v
  | nil=>exact .nil
  | sl k row=>exact .sl
  | fp row j=>exact .fp
  | agg cs=>
   simp only [isF,SD] at h;exact .agg rfl (λi c d hc hd=>by obtain ⟨rfl,hm⟩:=eX hc hd;exact aF n _<|h _ hm)
  | tup cs=>
   simp only [isF,SD] at h;exact .tup rfl (λi c d hc hd=>by obtain ⟨rfl,hm⟩:=eX hc hd;exact aF n _<|h _ hm)
  | fn f cs=>
   simp only [isF,SD] at h;exact .fn rfl (λi c d hc hd=>by obtain ⟨rfl,hm⟩:=eX hc hd;exact aF n _<|h _ hm)
  | ifc t x=>
   simp only [isF] at h;exact .ifc<|aF n x h
  | hs b q s o l=>cases h
  | hp b q s i j=>cases h
  | mp b s=>cases h
  | top=>cases h
def Aq (k:ABlk):Prop:=∀ r∈k.rows,∀ a∈r,isF 9 a=Ri
theorem RenK.ofF {S:Nat->Nat->Prop} {k:ABlk} (h:Aq k):RenK S k k:=⟨rfl,rfl,rfl,rfl,λi r r' hr hr'=>by
 obtain ⟨rfl,hm⟩:=eX hr hr';exact ⟨rfl,λj a a' ha ha'=>by
  obtain ⟨rfl,hm2⟩:=eX ha ha';exact aF 9 a (h r hm a hm2)⟩⟩
inductive RenL (S:Nat->Nat->Prop):List AV->List AV->Prop
 | nil:RenL S [] []
 | cons {a b:AV} {l k:List AV} (h:Ren S a b) (t:RenL S l k):RenL S (a::l) (b::k)
theorem RenL.spec {S:Nat->Nat->Prop} {l k:List AV} (h:RenL S l k):l.length=k.length/\∀ (i:Nat) (c d:AV),l[i]? = Rk c->k[i]? = Rk d->Ren S c d:=by
 induction h with
 | nil=>simp_all
 | cons h t ih=>
  grind
theorem Ren.pF {S:Nat->Nat->Prop} {a:AV} (h:isF 9 a=Ri):Ren S a a:=aF 9 a h
theorem dS.one {f:FuncId} {as0 Rf:List AV} {r:AV} {k k':ABlk} (h:dS P f as0 [Rk k] r [Rk k']) (b:Nat) (hb:H[b]? = Rk (Rk k)) (has:RenL (λc i=>[b][i]? = Rk c) Rf as0) (hk:Aq k) (hk':Aq k') (hr:isF 9 r=Ri) :
  dS P f Rf H r (H.set b<|Rk k'):=by
 have hlt:b<H.length:=(ges hb).1;refine h.frame [b] (by simp) rfl (λi c hi=>?_) has.spec.1 has.spec.2 ⟨by simp,by simp,λi c hi hs hn=>?_,λi c k0 hs hg=>?_,λc hc hni=>?_⟩<|aF 9 r hr
 ·cases i with
  | zero=>
   simp only [SX,sie] at hi;subst hi;exact ⟨k,k,hb,rfl,.ofF hk⟩
  | succ i=>simp at hi
 ·cases i with
  | zero=>simp at hn
  | succ i=>simp at hi
 ·cases i with
  | zero=>
   simp only [SX,sie] at hg;subst hg;have hc:c=b:=by
    rcases hs with hs | ⟨hs,_⟩
    ·simpa using hs.symm
    simp at hs
   subst hc;exact ⟨k',by simp [hlt],.ofF hk'⟩
  | succ i=>simp at hg
 grind
theorem dS.fresh {f:FuncId} {Rf:List AV} {ver s i j:Nat} {k:ABlk} (h:dS P f Rf [] (.hp 0 ver s i j) [Rk k]) (has:Rf.all (isF 9)=Ri) (hk:Aq k) (n:Nat) (hn:H.length=n):dS P f Rf H (.hp n ver s i j) (H++[Rk k]):=by
 subst hn;refine h.frame [] (by simp) rfl (λi c hi=>by grind) rfl (λi c d hc hd=>?_) ⟨by simp,by simp,λi c hi hs hn=>?_,λi c k0 hs hg=>?_,λc hc hni=>gal hc⟩<|.hp<|.inr ⟨SJ _,by simp⟩
 ·obtain ⟨rfl,hm⟩:=eX hc hd;exact aF 9 c<|SD.1 has _ hm
 ·simp_all
 cases i with
 | zero=>
  simp only [SX,sie] at hg;subst hg;have hc:c=H.length:=by
   rcases hs with hs | ⟨_,hs⟩
   ·grind
   omega
  subst hc;exact ⟨k,by simp,.ofF hk⟩
 | succ i=>grind
theorem ak {ver s:Nat} {ty:TypeId} {r:List AV} (h:r.all (isF 9)=Ri):Aq ⟨ver,s,ty,[r]⟩:=λq hq a ha=>by
 simp_all
theorem Ia {α:Type} {ver s:Nat} {ty:TypeId} {f:α->List AV} {l:List α} (h:∀ x,(f x).all (isF 9)=Ri):Aq ⟨ver,s,ty,l.map f⟩:=λq hq a ha=>by
 grind
open Classical in
def FQ {α:Type} (f:Nat->Option α):Option α:=if h:∃ r,∃ N,∀ n,N<=n->f n=Rk r then Rk h.choose else Rl
theorem rW {α:Type} {f:Nat->Option α} {r:α} (h:FQ f=Rk r):∃ n,f n=Rk r:=by
 unfold FQ at h
 split at h
 ·rename_i hx;injection h with h;obtain ⟨N,hN⟩:=hx.choose_spec;exact ⟨N,h ▸ hN N (SI _)⟩
 grind
theorem vo {α:Type} {f:Nat->Option α} {r:α} (N:Nat) (h:∀ n,N<=n->f n=Rk r):FQ f=Rk r:=by
 have hx:∃ r,∃ N,∀ n,N<=n->f n=Rk r:=⟨r,N,h⟩;unfold FQ;rw [dif_pos hx];obtain ⟨M,hM⟩:=hx.choose_spec;have h1:=hM (max M N) (by omega)
 grind
theorem Fz.fpL {m b ver s i j:Nat} {ty:TypeId} {rows:List (List AV)} {r row':List AV} (hm:SC m b=Ri) (hk:H[b]? = Rk (Rk ⟨ver,s,ty,rows⟩)) (hi:rows[i]? = Rk r) (h:FzL m H r row'):Fz m H (.hp b ver s i j) (.fp row' j):=
 .hp (nlb hm) hk rfl rfl hi h.spec.1 h.spec.2
end
def agree (F:List Nat) (G H:AH):Prop:=G.length=H.length/\∀ b∈F,G[b]? = H[b]?
def rA (P:Program) (o:Oper) (ρ:Operand->AV) (H:AH) (r:AV) (H':AH) (F:List Nat):Prop:=
 H'.length=H.length/\(∀ b,b∉F->H'[b]? = H[b]?)/\∀ G,agree F G H->∃ G',G'.length=G.length/\(∀ b∈F,G'[b]? = H'[b]?)/\(∀ b,b∉F->G'[b]? = G[b]?)/\QO P o ρ G r G'
section
variable {P:Program} {o:Oper} {ρ:Operand->AV} {H H':AH} {r:AV} {F:List Nat}
theorem rA.op (h:rA P o ρ H r H' F):QO P o ρ H r H':=by
 obtain ⟨h1,h2,h3⟩:=h;obtain ⟨G',g1,g2,g3,g4⟩:=h3 H ⟨rfl,λ_ _=>rfl⟩;have : G'=H':=by
  apply SL;intro b
  by_cases hb:b∈F
  ·exact g2 b hb
  rw [g3 b hb,h2 b hb]
 simp_all
theorem rA.congr {ρ':Operand->AV} (h:rA P o ρ H r H' F) (he:∀ x∈o.op.operands,ρ x=ρ' x):rA P o ρ' H r H' F:=by
 obtain ⟨h1,h2,h3⟩:=h;refine ⟨h1,h2,λG hG=>?_⟩;obtain ⟨G',g1,g2,g3,g4⟩:=h3 G hG;exact ⟨G',g1,g2,g3,g4.congr he⟩
theorem rA.at_ {G:AH} (h:rA P o ρ H r H' F) (hG:agree F G H):∃ G',G'.length=G.length/\(∀ b∈F,G'[b]? = H'[b]?)/\(∀ b,b∉F->G'[b]? = G[b]?)/\rA P o ρ G r G' F:=by
 obtain ⟨h1,h2,h3⟩:=h;obtain ⟨G',g1,g2,g3,g4⟩:=h3 G hG;refine ⟨G',g1,g2,g3,g1,g3,λK hK=>?_⟩;obtain ⟨K',k1,k2,k3,k4⟩:=h3 K ⟨hK.1.trans hG.1,λb hb=>(hK.2 b hb).trans<|hG.2 b hb⟩
 grind
abbrev Fp:=List Nat×Bool
def oQ (a b:Fp):Bool:=a.1.all (λx => !b.1.contains x)||(!a.2 && !b.2)
def KW (P:Program) (ops:Array Oper) (fp:Nat->Fp) (Q:Env->AH->Prop):Nat->Array Bool->Env->AH->Prop
 | 0,listed,e,H=>Region.ready .any ops listed=[]/\Q e H
 | fuel+1,listed,e,H=>(Region.ready .any ops listed=[]->Q e H) /\
  ∀ i∈Region.ready .any ops listed,∃ o r H',ops[i]? = Rk o/\rA P o (rho e) H r H' (fp i).1/\((fp i).2=Rj->H'=H)/\KW P ops fp Q fuel (listed.setIfInBounds i Ri) (p7 e o.dst r) H'
theorem Ib {ops:Array Oper} {fp:Nat->Fp} {Q:Env->AH->Prop} {i:Nat} {oi:Oper} {r:AV} (hi:ops[i]? = Rk oi) :
  ∀ (fuel:Nat) (listed:Array Bool) (e:Env) (H Hi:AH),
   (∀ (j:Nat) (oj:Oper),ops[j]? = Rk oj->j≠i->listed.getD j Ri=Rj->(∀ ed∈oj.after,Region.binds .any ed=Ri->ed.on≠i)->oi.apart ops oj=Ri/\oQ (fp i) (fp j)=Ri) ->
   i∈Region.ready .any ops listed->rA P oi (rho e) H r Hi (fp i).1->((fp i).2=Rj->Hi=H)->KW P ops fp Q fuel (listed.setIfInBounds i Ri) (p7 e oi.dst r) Hi->KW P ops fp Q (fuel+1) listed e H:=by
 intro fuel
 induction fuel with
 | zero=>
  intro listed e H Hi _ hr hy hro hA;refine ⟨λh=>(by simp_all),λj hj=>?_⟩
  by_cases hji:j=i
  ·grind
  have := ready_mono hj hji;rw [hA.1] at this
  grind
 | succ fuel ih=>
  intro listed e H Hi hfree hr hy hro hA;refine ⟨λh=>(by simp_all),λj hj=>?_⟩
  by_cases hji:j=i
  ·grind
  obtain ⟨oj,q,Hj,hoj,hsj,hroj,hAj⟩:=hA.2 j<|ready_mono hj hji;obtain ⟨hjun,oj',Aj,hall⟩:=mem_ready.1 hj;rw [hoj] at Aj;injection Aj with Aj;subst Aj;have hnot:∀ ed∈oj.after,Region.binds .any ed=Ri->ed.on≠i:=λed he hb heq=>by
   have h1:=hall ed he hb;have h0:=(mem_ready.1 hr).1;rw [heq] at h1;rcases S5 i listed.size with h' | h'
   ·simp [h'] at h0 h1;rw [h0] at h1;cases h1
   simp [Ti h'] at h1
  obtain ⟨hap,hcm⟩:=hfree j oj hoj hji hjun hnot;obtain ⟨h1,h2,h3⟩:=Oper.apart_spec hap;have ej:=sS (e:=e) (r:=r) h1;have ei:=sS (e:=e) (oi:=oj) (r:=q) h3;have hsj':=hsj.congr ej;have hfree':∀ (k:Nat) (ok:Oper),ops[k]? = Rk ok->k≠i->(listed.setIfInBounds j Ri).getD k Ri=Rj->(∀ ed∈ok.after,Region.binds .any ed=Ri->ed.on≠i)->oi.apart ops ok=Ri/\oQ (fp i) (fp k)=Ri:=λk ok hk hki hun hno=>by
   refine hfree k ok hk hki ?_ hno
   by_cases hjk:j=k
   ·subst hjk;exact hjun
   rw [getD_set_ne Ri hjk] at hun;exact hun
  have fin:∀ Hj',rA P oj (rho e) H q Hj' (fp j).1->((fp j).2=Rj->Hj'=H)->rA P oi (rho e) Hj' r Hj (fp i).1->((fp i).2=Rj->Hj=Hj')->∃ o r' H',ops[j]? = Rk o/\rA P o (rho e) H r' H' (fp j).1/\((fp j).2=Rj->H'=H)/\KW P ops fp Q (fuel+1) (listed.setIfInBounds j Ri) (p7 e o.dst r') H':=λHj' s1 s1' s2 s2'=>by
   refine ⟨oj,q,Hj',hoj,s1,s1',ih (listed.setIfInBounds j Ri) (p7 e oj.dst q) Hj' Hj hfree' (ready_mono hr<|Ne.symm hji) (s2.congr λx hx=>(ei x hx).symm) s2' ?_⟩;rw [Array.setIfInBounds_comm _ _ hji,xX (λd hd=>λhd'=>h2 d (by simpa using hd')<|by simpa using hd)];exact hAj
  simp only [oQ,Bool.or_eq_true,bae,Bool.not_eq_true',SD,List.contains_eq_mem,decide_eq_false_iff_not] at hcm;rcases hcm with hdis | ⟨w1,w2⟩
  ·have hag:agree (fp j).1 H Hi:=⟨hy.1.symm,λb hb=>(hy.2.1 b λhbi=>hdis b hbi hb).symm⟩;obtain ⟨Hj',a1,a2,a3,a4⟩:=hsj'.at_ hag;have hag2:agree (fp i).1 Hj' H:=⟨a1,λb hb=>a3 b<|hdis b hb⟩;obtain ⟨K,b1,b2,b3,b4⟩:=hy.at_ hag2;have hKH:K=Hj:=by
    apply SL;intro b
    by_cases hbi:b∈(fp i).1
    ·rw [b2 b hbi,hsj'.2.1 b (hdis b hbi)]
    rw [b3 b hbi]
    by_cases hbj:b∈(fp j).1
    ·exact a2 b hbj
    rw [a3 b hbj,hsj'.2.1 b hbj,hy.2.1 b hbi]
   subst hKH;refine fin Hj' a4 (λhw=>?_) b4 λhw=>?_
   ·apply SL;intro b
    by_cases hbj:b∈(fp j).1
    ·rw [a2 b hbj,hroj hw,hy.2.1 b (λhbi=>hdis b hbi hbj)]
    exact a3 b hbj
   apply SL;intro b
   by_cases hbi:b∈(fp i).1
   ·rw [b2 b hbi,hro hw,a3 b (hdis b hbi)]
   exact b3 b hbi
  grind
def OD (ops:Array Oper) (fp:Nat->Fp):Bool:=
 Region.lexB .any ops&&ops.all (λo=>o.guard.isNone) &&
 (SE ops.size).all λi=>(SE ops.size).all λj=>Rm (j<=i)||oQ (fp i) (fp j)||match ops[j]? with
  | some oj=>oj.after.any λed=>Region.binds .any ed&&ed.on==i
  | none=>Ri
def TF (P:Program) (fp:Nat->Fp):Nat->List Oper->(Env->AH->Prop)->Env->AH->Prop
 | _,[],K,e,H=>K e H
 | k,o::rest,K,e,H=>∃ r H',rA P o (rho e) H r H' (fp k).1/\((fp k).2=Rj->H'=H)/\TF P fp (k+1) rest K (p7 e o.dst r) H'
theorem Jf {ops:Array Oper} {fp:Nat->Fp} {Q:Env->AH->Prop} (hc:OD ops fp=Ri):∀ (l:List Oper) (k:Nat) (listed:Array Bool) (e:Env) (H:AH),(∀ j,l[j]? = ops[k+j]?)->listed.size=ops.size->(∀ j,j<k->listed.getD j Ri=Ri) ->
  Region.lexFrom .any ops l.length k listed=Ri->TF P fp k l Q e H->KW P ops fp Q l.length listed e H
 | [],k,listed,e,H,_,_,_,hB,h=>⟨by simpa [Region.lexFrom] using hB,h⟩
 | o::l,k,listed,e,H,hl,hsz,hbef,hB,h=>by
  have h0:ops[k]? = Rk o:=by simpa using (hl 0).symm
  have hk:k<ops.size:=(Tf.1 h0).1;simp only [llc,Region.lexFrom,bae] at hB;obtain ⟨⟨hr,hf⟩,hB'⟩:=hB;obtain ⟨r,H',hs,hro,hK⟩:=h;refine Ib h0 l.length listed e H H' (λj oj hj hne hun hno=>⟨Region.free_spec h0 hf j oj hj hne hun hno,?_⟩) (by simp_all) hs hro
   (Jf hc l (k+1) _ _ _ (λj=>by have := hl<|j+1;grind) (by simp_all) (λj hj=>?_) hB' hK)
  ·have hjs:j<ops.size:=(Tf.1 hj).1;have hkj : ¬ j<=k:=λhle=>by
    grind
   simp only [OD,bae,SD,List.mem_range] at hc;have := hc.2 k hk j hjs;simp only [hj,Bool.or_eq_true,dte,hkj,false_or] at this;rcases this with h1 | h1
   ·exact h1
   rw [Array.any_eq_true'] at h1
   grind
  by_cases e:j=k
  ·simp_all
  rw [getD_set_ne Ri (Ne.symm e)]
  grind
theorem ze {nt:Nat} {ops:Array Oper} {fp:Nat->Fp} {Q:Exit->Env->AH->Prop} (hd:H5 nt ops.toList=Ri) (hg:ops.all (λo=>o.guard.isNone)=Ri):∀ (fuel:Nat) (listed:Array Bool) (e:Env) (H:AH),KW P ops fp (Q .normal) fuel listed e H ->
  ∀ (c c0:Cx) (a:Act),c.H=H->Ext c0 c->SRel c nt e a->wpAny P .any ops (Oz nt c0 Q) fuel listed a c.w
 | 0,listed,e,H,h,c,c0,a,hH,hx,hs=>⟨h.1,trivial,c,e,rfl,hx,hs,hH ▸ h.2⟩
 | fuel+1,listed,e,H,h,c,c0,a,hH,hx,hs=>by
  refine ⟨λhr=>⟨trivial,c,e,rfl,hx,hs,hH ▸ h.1 hr⟩,λi hi=>?_⟩;obtain ⟨o,r,H',ho,hst,_,hA⟩:=h.2 i hi;have hm:o∈ops.toList:=by rw [SV];exact SW ho
  have hgn:o.guard=Rl:=by
   rw [Array.all_eq_true] at hg;obtain ⟨hlt,rfl⟩:=Tf.1 ho;simpa using hg i hlt
  have hw:Region.wanted o (yielded ops a.tmps)=Ri:=by simp [Region.wanted,hgn]
  unfold wpOp;simp only [ho];rw [if_pos hw];refine .inl<|hst.op c a _ _ hH hs.heap (λx _=>hs.rho x) λv c' hH' hr' hx' hv=>?_;exact ze hd hg fuel _ _ H' hA c' c0 _ hH' (hx.trans hx')<|hs.put o.dst (n8 hd hm) hx' hr' hv
end
section
variable {P:Program} {nt b0:Nat} {Q:Exit->Env->AH->Prop} {e:Env} {H H':AH} {r:AV}
theorem T.drawF {i:Nat} {ops:Array Oper} (fp:Nat->Fp) (hm:P.follows .mixedOrders=Ri) (hc:OD ops fp=Ri) (h:TF P fp 0 ops.toList (Q .normal) e H):T P nt b0 (.region i ops Ri) Q e H:=by
 intro hok c c0 a hH hb hx hs;simp only [codeOk] at hok;have hc':=hc;simp only [OD,bae,Region.lexB] at hc';refine wp_region_any hm ?_;have hlex:=Jf hc ops.toList 0 (Td ops.size Rj) e H (λj=>by simp) (by simp) (λj hj=>absurd hj<|by omega) (by simp_all) h;have := ze hok hc'.1.2 ops.toList.length _ e H hlex c.drew c0 a hH (hx.trans c.drew_ext) ⟨hs.size,hs.defers,λt=>(hs.rel t).ext hs.heap c.drew_ext,Cx.drew_rel hs.heap⟩;rw [Tm] at this;exact this
variable {d:Tmp} {op:Op} {ty:TypeId} {pos:String} {af:Array Edge} {en:List (Nat×AV)} {fp:Nat->Fp} {i:Nat} {K:Env->AH->Prop} {l:List Oper}
theorem TF.nil {k:Nat} (h:K e H):TF P fp k [] K e H:=h
theorem FR {o:Oper} {ρ:Operand->AV} (hv:QR P ρ o.op r):rA P o ρ H r H []:=⟨rfl,λ_ _=>rfl,λG _=>⟨G,rfl,λ_ h=>(by cases h),λ_ _=>rfl,hv o rfl G⟩⟩
theorem FT {o:Oper} {ρ:Operand->AV} {F:List Nat} (hv:∀ G,agree F G H->EvA P ρ o.op G r G):rA P o ρ H r H F:=⟨rfl,λ_ _=>rfl,λG hG=>⟨G,rfl,hG.2,λ_ _=>rfl,hv G hG o rfl⟩⟩
theorem Jg {o:Oper} {ρ:Operand->AV} {F:List Nat} (b:Nat) (X:Option ABlk) (hb:b<H.length) (hv:∀ G,agree (b::F) G H->EvA P ρ o.op G r (G.set b X)):rA P o ρ H r (H.set b X) (b::F):=by
 refine ⟨by simp,λc hc=>SN λh=>hc (by simp [h]),λG hG=>⟨G.set b X,by simp,λc hc=>?_,λc hc=>SN λh=>hc (by simp [h]),hv G hG o rfl⟩⟩
 by_cases e:c=b
 ·subst e;rw [S9 (by rw [hG.1];exact hb),S9 hb]
 rw [SN (Ne.symm e),SN (Ne.symm e)];exact hG.2 c hc
theorem fN (hc:fp i=([],Rj)) (hv:QR P (rho<|ai en) op r) (h:TF P fp (i+1) l K (ai ((d,r)::en)) H):TF P fp i (⟨Rk d,op,ty,pos,af,Rl⟩::l) K (ai en) H:=
 ⟨r,H,by rw [hc];exact FR hv,λ_=>rfl,h⟩
theorem fR (F:List Nat) (hc:fp i=(F,Rj)) (hv:∀ G,agree F G H->EvA P (rho<|ai en) op G r G) (h:TF P fp (i+1) l K (ai ((d,r)::en)) H):TF P fp i (⟨Rk d,op,ty,pos,af,Rl⟩::l) K (ai en) H:=
 ⟨r,H,by rw [hc];exact FT hv,λ_=>rfl,h⟩
theorem fW (b:Nat) (F:List Nat) {X:Option ABlk} (hc:fp i=(b::F,Ri)) (hb:SB b H.length=Ri) (hv:∀ G,agree (b::F) G H->EvA P (rho<|ai en) op G r (G.set b X)) (h:TF P fp (i+1) l K (ai ((d,r)::en))<|H.set b X):TF P fp i (⟨Rk d,op,ty,pos,af,Rl⟩::l) K (ai en) H:=
 ⟨r,H.set b X,by rw [hc];exact Jg b X (nlb hb) hv,λh=>(by simp_all),h⟩
theorem fV (b:Nat) (F:List Nat) {X:Option ABlk} (hc:fp i=(b::F,Ri)) (hb:SB b H.length=Ri) (hv:∀ G,agree (b::F) G H->EvA P (rho<|ai en) op G r (G.set b X)) (h:TF P fp (i+1) l K (ai en)<|H.set b X):TF P fp i (⟨Rl,op,ty,pos,af,Rl⟩::l) K (ai en) H:=
 ⟨r,H.set b X,by rw [hc];exact Jg b X (nlb hb) hv,λh=>(by simp_all),h⟩
theorem agree.a0 {b:Nat} {F:List Nat} {G:AH} (h:agree (b::F) G H) {x:Option ABlk} (hx:H[b]? = Rk x):G[b]? = Rk x:=(h.2 b<|by simp).trans hx
end
section
variable {P:Program} {ρ:Operand->AV} {H:AH} {x y:Operand} {t e:TypeId}
theorem FRel.move {w w':World} {fz fz':Nat->Prop} {a:AV} {v:Value} (h:FRel w fz a v) (hf:∀ g,fz g->w'.heap[g]? = w.heap[g]? /\ fz' g/\g<w'.heap.size):FRel w' fz' a v:=by
 induction h with
 | v h=>exact .v h
 | agg hl h1 _ ih=>exact .agg hl h1 ih
 | tup hl _ ih=>exact .tup hl ih
 | nil=>exact .nil
 | @sl n cap s g o row a us hc hm ha hr hu h1 _ ih=>
  refine .sl (g:=g) (o:=o) us hc hm (λhn=>?_) hr (λi j c hi hj=>?_) h1 ih
  ·simp_all
  obtain ⟨_,hg,hlt⟩:=ha (by omega);rw [World.cell?_of_block (w:=w) (hf g hg).1]
  simp_all
 | @fp row j g o us hg hlt hu h1 _ ih=>
  refine .fp us (hf g hg).2.1 (hf g hg).2.2 (λj c hj=>?_) h1 ih;rw [World.cell?_of_block (w:=w) (hf g hg).1]
  simp_all
 | ifc _ ih=>exact .ifc ih
 | fn hl _ ih=>exact .fn hl ih
theorem K9.at_ {o:Oper} {k:ABlk} {r r0:AV} {b:Nat} (h:K9 P o ρ H k r) (hb:H[b]? = Rk Rl) (hF:Aq k) (hr0:(∃ n,r = .hs H.length k.ver k.s 0 n/\r0 = .hs b k.ver k.s 0 n)\/∃ i j,r = .hp H.length k.ver k.s i j/\r0 = .hp b k.ver k.s i j):QO P o ρ H r0 (H.set b<|Rk k):=by
 intro c a K Q hH hr hx hK;obtain ⟨cs,v,h1,h2,h3⟩:=h c a hH hr hx;subst hH;have hN:=Cx.new_live_new c k cs;obtain ⟨cs',fr,hB⟩:=h2.blk _ _ hN;have hφ:(c.new k cs).φ c.H.length=(c.w.heap.size,0):=if_pos rfl;have hcs:cs'=cs:=by
  have hat:=hB.at_;rw [hφ] at hat;have h4:(c.new k cs).w.heap[c.w.heap.size]? = Rk (.cells cs k.ty (0,0)):=heap_alloc_new _ _;simp only at hat;rw [h4] at hat
  cases fr with
  | none=>
   injection hat with hat
   cases hat
  | some fr=>
   injection hat with hat;injection hat with hat
   simp_all
 subst hcs;have hfit:=hB.fits;rw [hφ] at hfit;simp only [SF] at hfit;have hrel:=Cx.newAt_rel (c:=c) (b:=b) (k:=k) (cs:=cs') hr hb hB.pos hfit hB.len (λi row j a' g1 g2=>by
  obtain ⟨u,g3,g4,g5⟩:=hB.rel i row j a' g1 g2;rw [hφ] at g3;simp only [SF] at g3;refine ⟨u,g3,g4,.fr ?_⟩;have hf:=yX 9 a' u (hF row (Tn g1) a' (Tn g2)) g5;exact hf.move λg hg=>⟨(Below.heap_alloc _ _ _ (hr.lt g hg)).symm,hg,hr.lt g hg⟩)
 have hl2:=Cx.newAt_self (c:=c) (k:=k) (cs:=cs') hb;have hφ2:(c.newAt b k cs').φ b=(c.w.heap.size,0):=if_pos rfl;have hh2:(c.newAt b k cs').hd b k.ver=Rk ⟨c.w.heap.size,0,k.s,k.rows.length,cs'.size⟩:=by
  have := Cx.hd_of hl2 (o:=.cells cs' k.ty (0,0)) (by rw [hφ2];exact heap_alloc_new _ _);rw [hφ2] at this;exact this
 have hborn:(c.newAt b k cs').born b k.ver:=by
  unfold Cx.born;rw [show (c.newAt b k cs').H[b]? = Rk (Rk k) from hl2];exact SI _
 unfold Oper.wp;rw [h1];refine hK v (c.newAt b k cs') rfl hrel (Cx.newAt_ext hr hb) ?_;rcases hr0 with ⟨n,rfl,rfl⟩ | ⟨i,j,rfl,rfl⟩
 ·cases h3 with
  | fr h=>cases h
  | hs hb' hc hm h0 hx'=>
   have h5:=hx' _<|Cx.new_hd c k cs';refine .hs hborn hc hm h0 λx hx=>?_
   simp_all
 cases h3 with
 | fr h=>cases h
 | hp hb' hx'=>
  have h5:=hx' _<|Cx.new_hd c k cs';refine .hp hborn λx hx=>?_
  simp_all
theorem EvA.alR {zs:List AV} (b:Nat) (z:TyZ P t zs) (hn:(SB 0 zs.length)=Ri) (hF:zs.all (isF 9)=Ri) (hb:H[b]? = Rk Rl):EvA P ρ (.alloc t) H (.hp b 0 zs.length 0 0) (H.set b<|Rk ⟨0,zs.length,t,[zs]⟩):=λo ho=>by
 have hz:=z.z;have ho':=z.one
 cases hi:P.info? t with
 | none=>simp_all
 | some i=>
  rw [hi] at hz ho'
  cases hzz:i.zero with
  | none=>simp_all
  | some zv=>
   simp only [SU,hzz,SG,sie] at hz ho';have h:=CX (P:=P) (ρ:=ρ) (H:=H) ho hi hzz (by simp_all) ho';rw [hz] at h;exact h.at_ hb (ak hF)<|.inr ⟨0,0,rfl,rfl⟩
theorem EvA.mkOR {α:Type} {c:α->List AV} {ag:Bool} {w m:Nat} {zs:List AV} {n:Nat} {parts:Array (Nat×Operand)} (b:Nat) (k:List α) (rows:List<|List AV) (q:SlT P t e ag w zs m) (hr:lG (parts.toList.map λp=>(ρ p.2).cells)=Rk rows) (hn:(SB 0 w&&SC (n*w) 16777216&&(parts.toList.map (·.1)==SE n))=Ri) (hk:rows=k.map c) (hc:∀ x,(c x).length=w) (hF:∀ x,(c x).all (isF 9)=Ri) (hlen:k.length=n) (hb:H[b]? = Rk Rl) :
  EvA P ρ (.buildSlice t n parts) H (hS Rj b 0 w k.length) (H.set b<|bE Rj 0 w e<|k.map c):=λo ho=>by
 subst hk;subst hlen;simp only [bae,beq_iff_eq] at hn;have hz:=M5 q.z (q.zl.trans q.ty.cells.symm);have h:=qF (P:=P) (ρ:=ρ) (H:=H) ho q.u hr (by rw [q.ty.cells];simp_all) (by rw [q.ty.cells];simp_all) hn.2 hz q.z.one (λrow hrow=>by
  obtain ⟨x,_,rfl⟩:=Tc.1 hrow;rw [hc,q.ty.cells])
 rw [q.ty.cells] at h;exact h.at_ hb (Ia hF)<|.inl ⟨_,rfl,rfl⟩
end
section
variable {P:Program} {nt b0:Nat} {Q:Exit->Env->AH->Prop} {H:AH} {ops:Array Oper} {l:List Oper} {d:Tmp} {x y:Operand} {t u e:TypeId} {ty:TypeId} {pos:String} {af:Array Edge} {en:List (Nat×AV)} {α:Type} [Inhabited α] {c:α->List AV} {xs:List α}
theorem Jh (w:World) (dd:Nat) (A:Option Addr) (n cap:Nat) (hu:P.underlying t=Rk (.slice e)):(Op.equalIn (dd+1) t (.slice A n cap)<|.slice Rl 0 0).run P w = .ok A.isNone w:=by
 cases A <;> simp [Op.equalIn,av hu]
theorem C9 (w:World) (A:Option Addr) (n cap:Nat) (hu:P.underlying t=Rk (.slice e)):(Op.equal t (.slice A n cap)<|.slice Rl 0 0).run P w = .ok A.isNone w:=Jh w 9999 A n cap hu
theorem M6 {C:Cx} {v:Value} (h:C.rel (eL c xs) v):∃ A n cap,v = .slice A n cap/\(A=Rl->xs=[]):=by
 have h:=uG h;unfold eL at h;generalize hn:xs.length=n at h
 cases h with
 | @sl _ cap s g o row a us hc hm ha hs hu2 h1 h3=>
  grind
theorem QA (neq:Bool) (hu:P.underlying t=Rk (.slice e)) (hx:rho (ai en) x=eL c xs) (hy:rho (ai en) y = .nil) (h1:xs=[]->TO P nt b0 ops l Q (ai ((d,Bo<|!neq)::en)) H) (h2:TO P nt b0 ops l Q (ai ((d,Bo neq)::en)) H) :
  TO P nt b0 ops (⟨Rk d,.binOp (bif neq then .neq else .eql) t x y u,ty,pos,af,Rl⟩::l) Q (ai en) H:=by
 intro hd k hl hn C c0 a hH hb hex hr;have ox:=hr.rho x;have oy:=hr.rho y;rw [hx] at ox;rw [hy] at oy;obtain ⟨A,n,cap,hv,hA⟩:=M6 ox;have hv2:=il oy;have hrun:(execOp a.eval (⟨Rk d,.binOp (bif neq then .neq else .eql) t x y u,ty,pos,af,Rl⟩:Oper)).run P C.w = .ok (.value<|.bool<|A.isNone != neq) C.w:=by
  have e1:∀ op,execOp a.eval (⟨Rk d,.binOp op t x y u,ty,pos,af,Rl⟩:Oper)=(do pure (Next.value<|<- (do eqGuard op t x y (a.eval x) (a.eval y);binOp op t (a.eval x)<|a.eval y)):Sem Next):=λop=>by rw [execOp]
  rw [e1];refine xK _ ?_;rw [hv,hv2]
  cases neq
  ·simp only [cond_false,Bool.bne_false];have : (eqGuard .eql t x y (.slice A n cap)<|.slice Rl 0 0).run P C.w = .ok () C.w:=by simp [eqGuard]
   simp only [Sem.run_bind,this,Result.andThen_ok,binOp,C9 C.w A n cap hu,Sem.run_pure]
  simp only [cond_true,Bool.bne_true];have : (eqGuard .neq t x y (.slice A n cap)<|.slice Rl 0 0).run P C.w = .ok () C.w:=by simp [eqGuard]
  simp only [Sem.run_bind,this,Result.andThen_ok,binOp,C9 C.w A n cap hu,Sem.run_pure]
 have h0:ops[k]? = Rk (⟨Rk d,.binOp (bif neq then .neq else .eql) t x y u,ty,pos,af,Rl⟩:Oper):=by simpa using (hl 0).symm
 have ho:(⟨Rk d,.binOp (bif neq then .neq else .eql) t x y u,ty,pos,af,Rl⟩:Oper)∈ops.toList:=by rw [SV];exact SW h0
 have hl':∀ j,l[j]? = ops[k+1+j]? := λj=>by have := hl<|j+1;grind
 simp only [llc] at hn;simp only [llc,SY,wpOps,h0];rw [if_pos (yY.free (ops:=ops) (e:=ai en) rfl nt C a hr)];refine .inl ?_;unfold Oper.wp;rw [hrun];have fin:TO P nt b0 ops l Q (ai ((d,Bo<|A.isNone != neq)::en)) H:=by
  cases A with
  | none=>simp_all
  | some ad=>simp_all
 exact fin hd (k+1) hl' (by omega) C c0 _ hH hb hex<|hr.put (Rk d) (n8 hd ho) (Ext.refl C) hr.heap<|cf rfl
omit [Inhabited α] in
end
set_option maxRecDepth 100000
section
variable {P:Program}
def OpG (P:Program) (o:Oper) (ρ:Operand->AV) (H:AH) (R:AV->AH->Prop):Prop:=
 ∀ (c:Cx) (a:Act) (K:Act->World->Prop) (Q:Exit->Act->World->Prop),c.H=H->HRel c->(∀ x∈o.op.operands,c.rel (ρ x)<|a.eval x) ->
  (∀ v c' r,R r c'.H->HRel c'->Ext c c'->c'.rel r v->K (a.put o.dst v) c'.w)->o.wp P a c.w K Q
theorem Ba {o:Oper} {ρ:Operand->AV} {cl:Call} {f:Operand} {g:FuncId} {oO:List AV} {H:AH} {R:AV->AH->Prop} (ho:o.op = .call cl) (hc:cl.callee = .value f) (hf:ρ f = .fn (.func g) oO) (h:dN P g (cl.args.toList.map ρ++oO) H R):OpG P o ρ H R:=by
 intro c a K Q hH hr hxs hK;have hf1:=hf ▸ hxs f (by rw [ho];simp [Op.operands,Call.operands,hc]);obtain ⟨vs,he,hl,hrel⟩:=Aa hf1;have hargs:EC c (cl.args.toList.map ρ++oO) (cl.args.map a.eval++vs):=by
  refine ⟨by simp [hl],λi q v hq hv=>?_⟩;rcases S5 i cl.args.size with hlt | hge
  ·rw [gal (by simpa using hlt),S0,Ta,SS hlt] at hq;rw [Tk (by simpa using hlt),Array.getElem?_map,SS hlt] at hv;simp only [SG,sie] at hq hv;subst hq hv;refine hxs _ ?_;rw [ho];simp [Op.operands,Call.operands]
  rw [gar (by simpa using hge)] at hq;rw [Array.getElem?_append_right (by simpa using hge)] at hv;simp only [llm,Tm,Array.size_map] at hq hv;exact hrel _ q v hq hv
 have hrun:(execOp a.eval o).run P c.w = .ok (.enter g<|cl.args.map a.eval++vs) c.w:=by
  rw [execOp,ho];simp only [resolve,hc,he,Deferred.ofValue,Sem.run_bind,Sem.run_pure,Result.andThen_ok,invoke];have := vg h.1 (cl.args.map a.eval++vs) c.w;simpa using this
 unfold Oper.wp;rw [hrun,Oper.upon_enter];refine (h.2 c _ hH hr hargs).mono λe w' ⟨v,c',r,he,hw,hR,hr',hx,hv⟩ => ?_
 grind
theorem TO.runG {nt b0:Nat} {Q:Exit->Env->AH->Prop} {e:Env} {H:AH} {ops:Array Oper} {o:Oper} {l:List Oper} {R:AV->AH->Prop} (hw:yY ops e o Ri) (hv:OpG P o (rho e) H R) (h:∀ r H',R r H'->TO P nt b0 ops l Q (p7 e o.dst r) H'):TO P nt b0 ops (o::l) Q e H:=by
 intro hd k hl hn c c0 a hH hb hx hr;have h0:ops[k]? = Rk o:=by simpa using (hl 0).symm
 have ho:o∈ops.toList:=by rw [SV];exact SW h0
 have hl':∀ j,l[j]? = ops[k+1+j]? := λj=>by have := hl<|j+1;grind
 simp only [llc] at hn;simp only [llc,SY,wpOps,h0];rw [if_pos (hw nt c a hr)];refine .inl<|hv c a _ _ hH hr.heap (λx _=>hr.rho x) λv c' r hR hr' hx' hv=>?_;exact h r c'.H hR hd (k+1) hl' (by omega) c' c0 _ rfl hb (hx.trans hx')<|hr.put o.dst (n8 hd ho) hx' hr' hv
def Oi (w:Nat) (ty:TypeId) (mk:AV->AV) (n:Nat) (rows:List<|List AV) (m:Nat) (H:AH):AV->AH->Prop:=λr G=>∃ g ver,(g=Ri->n=0)/\r=mk (hS g m ver w n)/\G=H++[bE g ver w ty rows]
theorem dN.own {f:FuncId} {Rf:List AV} {H:AH} {w:Nat} {ty:TypeId} {mk:AV->AV} {n:Nat} {rows:List (List AV)} (h:dN P f Rf []<|Oi w ty mk n rows 0 []) (has:Rf.all (isF 9)=Ri) (hk:∀ r∈rows,∀ a∈r,isF 9 a=Ri)
  (hmk:∀ (S:Nat->Nat->Prop) (a b:AV),Ren S a b->Ren S (mk a) (mk b)) (m:Nat) (hm:H.length=m):dN P f Rf H (Oi w ty mk n rows m H):=by
 subst hm;refine h.frame [] (by simp) rfl (λi c hi=>by grind) rfl (λi c d hc hd=>?_) λr0 G0 ⟨g,ver,hg,hr0,hG0⟩ => ?_
 ·obtain ⟨rfl,hm⟩:=eX hc hd;exact aF 9 c<|SD.1 has _ hm
 subst hr0 hG0;have key:∀ i b,sg [] H.length i b->i<1->b=H.length:=λi b hs hi=>by
  rcases hs with hs | ⟨_,hs⟩
  ·simp at hs
  omega
 refine ⟨_,_,⟨by simp,by simp,λi b hi hs hn=>?_,λi b k0 hs hk0=>?_,λb hb _=>gal hb⟩,hmk _ _ _ ?_,⟨g,ver,hg,rfl,rfl⟩⟩
 ·grind
 ·have hi:i<1:=by
   have := (ges hk0).1;simpa using this
  obtain rfl:=key i b hs hi;obtain rfl:i=0:=by omega
  simp only [List.nil_append,SX,sie] at hk0;refine ⟨k0,by grind,.ofF λr hr a ha=>?_⟩
  cases g with
  | true=>cases hk0
  | false=>
   obtain rfl:=osl hk0
   grind
 cases g with
 | true=>exact .nil
 | false=>exact .hs (.inr ⟨SJ _,by simp⟩)
def QB (w:Nat) (ty:TypeId) (mk:AV->AV) (n:Nat) (rows:List<|List AV):AV->AH->Prop:=λr G=>∃ b g ver,(g=Ri->n=0)/\r=mk (hS g b ver w n)/\(g=Rj->G[b]? = Rk (Rk ⟨ver,w,ty,rows⟩))
theorem dN.mkO {f:FuncId} {fn:Func} {body:Code} {Rf:List AV} {w:Nat} {ty:TypeId} {mk:AV->AV} {n:Nat} {rows:List (List AV)} (hf:P.funcs[f]? = Rk fn) (hb:fn.body=Rk body) (hcall:iq P f=Ri) (hn:SC Rf.length fn.ntmps=Ri)
  (hok:codeOk fn.ntmps body=Ri) {e0:Env} (hw:CF (KV Rf) e0) (hmk:∀ (S:Nat->Nat->Prop) (a b:AV),Ren S a b->Ren S (mk a) (mk b)) (hk:∀ r∈rows,∀ a∈r,isF 9 a=Ri)
  (h:T P fn.ntmps 0 body (Fin P fn<|QB w ty mk n rows) e0 []):dN P f Rf [] (Oi w ty mk n rows 0 []):=by
 have hB:=dN.mkT (H:=[]) hf hb hcall hn hok hw h;refine ⟨hB.1,λc vs hH hr hall=>(hB.2 c vs hH hr hall).mono λe w' ⟨v,c1,r,he,hw',⟨b,g,ver,hg,hr0,hG⟩,hr1,hx,hv⟩ => ?_⟩;subst hr0 hw';have hni:∀ b k,¬ c.live b k:=λb k hl=>by
  have hl':c.H[b]? = Rk (Rk k):=hl
  simp_all
 have hnb:∀ b ver,¬ c.born b ver:=λb ver hb=>by
  have hlt:=iV hb
  simp_all
 cases g with
 | true=>
  let c2:Cx:={ w:=c1.w,fz:=c1.fz,H:=[Rl],φ:=c1.φ };refine ⟨v,c2,mk .nil,he,rfl,⟨Ri,ver,hg,rfl,rfl⟩,⟨hr1.lt,λb k hl=>?_,λb b' k k' hl _ _=>?_,hr1.gl⟩,⟨hx.os,hx.tape,hx.output,hx.size,λg hg _=>hx.keep g hg λb k hl=>absurd hl<|hni b k,hx.fz,hx.uX,?_,λb ver hb=>absurd hb<|hnb b ver,λb ver x hb=>absurd hb<|hnb b ver,λb k hl=>?_⟩,?_⟩
  ·exact absurd (show ([Rl]:AH)[b]? = Rk (Rk k) from hl) (by grind)
  ·exact absurd (show ([Rl]:AH)[b]? = Rk (Rk k) from hl) (by grind)
  ·simp_all
  ·exact absurd (show ([Rl]:AH)[b]? = Rk (Rk k) from hl) (by grind)
  exact Ren.rel (c1:=c1) (c2:=c2) (S:=λ_ _=>False) (SI _) (λg hg _=>⟨rfl,hg⟩) (λ_ _ _ hS=>hS.elim) (λ_ _ _ _ hS=>hS.elim) (hmk _ _ _ .nil) v hv
 | false=>
  have hG:=hG rfl;let c2:Cx:={ w:=c1.w,fz:=c1.fz,H:=[Rk ⟨ver,w,ty,rows⟩],φ:=λ_=>c1.φ b };have l2:∀ {i k},c2.live i k->i=0/\k=⟨ver,w,ty,rows⟩:=λ{i k} hl=>by
   have hl':([Rk ⟨ver,w,ty,rows⟩]:AH)[i]? = Rk (Rk k):=hl
   grind
  have hl1:c1.live b ⟨ver,w,ty,rows⟩:=hG;obtain ⟨cs,fr,hB⟩:=hr1.blk b _ hl1;have hrel:∀ a a',Ren (λx y=>x=b/\y=0) a a'->∀ v,c1.rel a v->c2.rel a' v:=λa a' hra=>by
   refine Ren.rel (c1:=c1) (c2:=c2) (SI _) (λg hg _=>⟨rfl,hg⟩) (λx y q hS hb=>?_) (λx y q z hS hb hz=>?_) hra
   ·obtain ⟨rfl,rfl⟩:=hS;exact vk hb (λhd=>by simp_all) λk hk=>⟨_,rfl,by simp_all⟩
   obtain ⟨rfl,rfl⟩:=hS;refine wO hz rfl rfl λk hk=>⟨_,hG,?_⟩
   grind
  refine ⟨v,c2,mk<|hS Rj 0 ver w n,he,rfl,⟨Rj,ver,hg,rfl,rfl⟩,⟨hr1.lt,λi k hl=>?_,λi j k k' hi hj hne=>?_,hr1.gl⟩,⟨hx.os,hx.tape,hx.output,hx.size,λg hg _=>hx.keep g hg λb k hl=>absurd hl<|hni b k,hx.fz,hx.uX,?_,λb ver hb=>absurd hb<|hnb b ver,λb ver x hb=>absurd hb<|hnb b ver,λi k hl=>?_⟩,?_⟩
  ·obtain ⟨rfl,rfl⟩:=l2 hl;exact ⟨cs,fr,(RenK.ofF (S:=λx y=>x=b/\y=0) (k:=⟨ver,w,ty,rows⟩) hk).blk hB rfl rfl hB.nf hrel⟩
  ·grind
  ·simp_all
  ·obtain ⟨rfl,rfl⟩:=l2 hl;exact hx.ib b _ hl1
  exact hrel _ _ (hmk _ _ _<|.hs ⟨rfl,rfl⟩) v hv
end
section
variable {P:Program} {nt b0:Nat} {Q:Exit->Env->AH->Prop} {en:List (Nat×AV)} {H:AH} {ops:Array Oper} {l:List Oper} {d:Tmp} {t:TypeId} {pos:String} {af:Array Edge}
theorem oG {cl:Call} {f:Operand} {g:FuncId} {oO Rf:List AV} {w m:Nat} {ty:TypeId} {mk:AV->AV} {n:Nat} {rows:List (List AV)} (hc:cl.callee = .value f) (hf:rho (ai en) f = .fn (.func g) oO) (ha:cl.args.toList.map (rho<|ai en)++oO=Rf)
  (h:dN P g Rf H<|Oi w ty mk n rows m H) (k:∀ g ver,(g=Ri->n=0)->TO P nt b0 ops l Q (ai ((d,mk<|hS g m ver w n)::en)) (H++[bE g ver w ty rows])):TO P nt b0 ops (⟨Rk d,.call cl,t,pos,af,Rl⟩::l) Q (ai en) H:=by
 subst ha;exact TO.runG (.free rfl) (Ba rfl hc hf h) λr H' ⟨g,ver,hg,hr,hH⟩=>by
  subst hr hH;exact k g ver hg
theorem ownB {G:AH} {b:Nat} {g:Bool} {ver w:Nat} {ty:TypeId} {rows:List (List AV)} (h:G[b]? = Rk (bE g ver w ty rows)):g=Rj->G[b]? = Rk (Rk ⟨ver,w,ty,rows⟩):=by
 rintro rfl;exact h
theorem BG {α:Type} {f:α->List AV} {l:List α} (hf:∀ x,(f x).all (isF 9)=Ri):∀ r∈l.map f,∀ a∈r,isF 9 a=Ri:=by grind
theorem BH (S:Nat->Nat->Prop) (a b:AV) (h:Ren S a b):Ren S a b:=h
end
structure Reid (b0:Nat) (S:Nat->Nat->Prop) (H H0:AH):Prop where
 fwd:∀ i j j',S i j->S i j'->j=j'
 inj:∀ i i' j,S i j->S i' j->i=i'
 low:∀ i,i<b0->S i i
 len:b0<=H0.length
 back:∀ j k0,H0[j]? = Rk (Rk k0)->∃ i k,S i j/\H[i]? = Rk (Rk k)/\RenK S k k0
 keep:∀ i j k,S i j->H[i]? = Rk (Rk k)->∃ k0,H0[j]? = Rk (Rk k0)
open Classical in
theorem Reid.state {nt b0:Nat} {S:Nat->Nat->Prop} {H0:AH} {c c0:Cx} {e e0:Env} {a:Act} (h:Reid b0 S c.H H0) (hx:Ext c0 c) (hs:SRel c nt e a) (hb:c0.H.length<=b0) (he:∀ t,Ren S (e t)<|e0 t) :
  ∃ c',c'.w=c.w/\Ext c0 c'/\SRel c' nt e0 a/\c'.H=H0:=by
 let φ':Nat->Nat×Nat:=λj=>if hj:∃ i,S i j then c.φ (Classical.choose hj) else (0,0);have φe:∀ {i j},S i j->φ' j=c.φ i:=λ{i j} hS=>by
  have hj:∃ i,S i j:=⟨i,hS⟩;show (if hj:∃ i,S i j then c.φ (Classical.choose hj) else (0,0))=_;rw [dif_pos hj,h.inj _ _ _ (Classical.choose_spec hj) hS]
 let c':Cx:={ w:=c.w,fz:=c.fz,H:=H0,φ:=φ' };have ver:∀ {i j k k0},S i j->c.H[i]? = Rk (Rk k)->H0[j]? = Rk (Rk k0)->RenK S k k0:=λ{i j k k0} hS hk hk0=>by
  obtain ⟨i',k',h1,h2,h3⟩:=h.back j k0 hk0;obtain rfl:=h.inj _ _ _ h1 hS
  simp_all
 have hb1:∀ i j uF,S i j->c.born i uF->c'.born j uF:=λi j uF hS hbn=>by
  have hlt:=iV hbn;refine vk hbn (λhd=>?_) λk hk=>?_
  ·unfold Cx.born at hbn
   simp_all
  obtain ⟨k0,hk0⟩:=h.keep i j k hS hk;exact ⟨k0,hk0,(ver hS hk hk0).ver⟩
 have hh1:∀ i j uF x,S i j->c.born i uF->c'.hd j uF=Rk x->c.hd i uF=Rk x:=λi j uF x hS _ hhd=>by
  refine wO hhd (φe hS) rfl λk0 hk0=>?_;obtain ⟨i',k,h1,h2,h3⟩:=h.back j k0 hk0;obtain rfl:=h.inj _ _ _ h1 hS;exact ⟨k,h2,h3.ver.symm,h3.s.symm,h3.len⟩
 have hrel:∀ x y,Ren S x y->∀ v,c.rel x v->c'.rel y v:=λx y hra=>Ren.rel (c1:=c) (c2:=c') (SI _) (λg hg _=>⟨rfl,hg⟩) hb1 hh1 hra;have hr':HRel c':=by
  refine ⟨hs.heap.lt,λj k0 hl=>?_,λj j' k0 k0' hl hl' hne=>?_,hs.heap.gl⟩
  ·obtain ⟨i,k,h1,h2,h3⟩:=h.back j k0 hl;obtain ⟨cs,fr,hB⟩:=hs.heap.blk i k h2;exact ⟨cs,fr,h3.blk hB (φe h1) rfl hB.nf hrel⟩
  obtain ⟨i,k,h1,h2,_⟩:=h.back j k0 hl;obtain ⟨i',k',h1',h2',_⟩:=h.back j' k0' hl';show (φ' j).1≠(φ' j').1;rw [φe h1,φe h1'];refine hs.heap.inj i i' k k' h2 h2' λe=>hne ?_;subst e;exact h.fwd _ _ _ h1 h1'
 refine ⟨c',rfl,⟨hx.os,hx.tape,hx.output,hx.size,hx.keep,hx.fz,hx.uX,Nat.le_trans hb h.len,λb v hbn=>hb1 b b v (h.low b<|Nat.lt_of_lt_of_le (iV hbn) hb)<|hx.born b v hbn,λb v x hbn hhd=>?_,λj k0 hl=>?_⟩,⟨hs.size,hs.defers,λt=>hrel _ _ (he t) _<|hs.rel t,hr'⟩,rfl⟩
 ·exact hx.hd b v x hbn<|hh1 b b v x (h.low b<|Nat.lt_of_lt_of_le (iV hbn) hb) (hx.born b v hbn) hhd
 obtain ⟨i,k,h1,h2,_⟩:=h.back j k0 hl;show _<=(φ' j).1\/∃ b0 k0,c0.live b0 k0/\(c0.φ b0).1=(φ' j).1;rw [φe h1];exact hx.ib i k h2
section
variable {P:Program} {nt b0:Nat} {Q:Exit->Env->AH->Prop} {e e0:Env} {H H0:AH} {S:Nat->Nat->Prop}
theorem T.reid {code:Code} (hS:Reid b0 S H H0) (he:∀ t,Ren S (e t)<|e0 t) (h:T P nt b0 code Q e0 H0):T P nt b0 code Q e H:=by
 intro hok c c0 a hH hb hx hr;subst hH;obtain ⟨c',h4,h5,h6,h7⟩:=hS.state hx hr hb he;rw [<- h4];exact h hok c' c0 a h7 hb h5 h6
theorem TO.reid {ops:Array Oper} {l:List Oper} (hS:Reid b0 S H H0) (he:∀ t,Ren S (e t)<|e0 t) (h:TO P nt b0 ops l Q e0 H0):TO P nt b0 ops l Q e H:=by
 intro hd k hl hn c c0 a hH hb hx hr;subst hH;obtain ⟨c',h4,h5,h6,h7⟩:=hS.state hx hr hb he;rw [<- h4];exact h hd k hl hn c' c0 a h7 hb h5 h6
end
abbrev NG:=Nat->Bool×Nat×Nat
def NG.put (gh:NG) (i:Nat) (x:Bool×Nat×Nat):NG:=λj=>bif SR j i then x else gh j
section
variable {α:Type}
def Es (gh:NG) (w i n:Nat):List AV:=[hS (gh i).1 (gh i).2.1 (gh i).2.2 w n]
def cG (gh:NG) (w:Nat) (l:List<|List α):List (List AV):=(SE l.length).map λi=>Es gh w i (l.getD i []).length
theorem dx (gh:NG) (w:Nat) (l:List<|List α):(cG gh w l).length=l.length:=by simp [cG]
theorem cg {gh:NG} {w:Nat} {l:List (List α)} {i:Nat} (h:i<l.length):(cG gh w l)[i]? = Rk (Es gh w i (l.getD i []).length):=by simp [cG,h]
theorem kv (gh:NG) (i:Nat) (x:Bool×Nat×Nat):gh.put i x i=x:=by simp [NG.put]
theorem dO {gh:NG} {i j:Nat} (x:Bool×Nat×Nat) (h:j≠i):gh.put i x j=gh j:=by
 unfold NG.put;rw [show SR j i=Rj from Bool.eq_false_iff.2 λe=>h (Tg e)]
 rfl
theorem sV {gh:NG} {w:Nat} {l:List (List α)} {i:Nat} {g:Bool} {id ver:Nat} {r:List α} (h:i<l.length):(cG gh w l).set i [hS g id ver w r.length]=cG (gh.put i (g,id,ver)) w (l.set i r):=by
 apply SL;intro j
 by_cases hj:j<l.length
 ·rw [cg (by simp_all)]
  by_cases e:i=j
  ·subst e;rw [S9 (by rw [dx];exact h)];simp [Es,kv,h]
  rw [SN e,cg hj];have : (l.set i r).getD j []=l.getD j []:=by simp [SN e]
  simp only [Es,this,dO _ (λh=>e h.symm)]
 rw [gen (by simp [dx];omega),gen (by simp [dx];omega)]
theorem Da {gh:NG} {w:Nat} {l:List (List α)} {g:Bool} {id ver:Nat} {r:List α}:cG gh w l++[[hS g id ver w r.length]]=cG (gh.put l.length (g,id,ver)) w (l++[r]):=by
 apply SL;intro j;rcases Nat.lt_trichotomy j l.length with hj | hj | hj
 ·rw [cg (by grind),gal (by rw [dx];exact hj),cg hj];have : (l++[r]).getD j []=l.getD j []:=by simp [gal hj]
  simp only [Es,this,dO _ (Nat.ne_of_lt hj)]
 ·subst hj;rw [cg (by simp),gar (by rw [dx];omega)];simp [dx,Es,kv]
 rw [gen (by simp [dx];omega),gen (by simp [dx];omega)]
structure NK (m:Nat) (H:AH) (gh:NG) (w:Nat) (ty:TypeId) (f:α->List AV) (l:List (List α)):Prop where
 at_:∀ i,i<l.length->m<=(gh i).2.1/\H[(gh i).2.1]? = Rk (bE (gh i).1 (gh i).2.2 w ty<|(l.getD i []).map f)
 nil_:∀ i,i<l.length->(gh i).1=Ri->l.getD i []=[]
 sep:∀ i j,i<l.length->j<l.length->i≠j->(gh i).2.1≠(gh j).2.1
variable {m:Nat} {H H':AH} {gh:NG} {w:Nat} {ty:TypeId} {f:α->List AV} {l:List (List α)}
theorem NK.low (h:NK m H gh w ty f l) (he:∀ b,m<=b->b<H.length->H'[b]? = H[b]?):NK m H' gh w ty f l:=
 ⟨λi hi=>⟨(h.at_ i hi).1,by
  rw [he _ (h.at_ i hi).1 (ges (h.at_ i hi).2).1];exact (h.at_ i hi).2⟩,h.nil_,h.sep⟩
theorem NK.set (h:NK m H gh w ty f l) {i:Nat} (hi:i<l.length) {g:Bool} {ver:Nat} {r:List α} (hg:g=Ri->r=[]):NK m (H.set (gh i).2.1<|bE g ver w ty<|r.map f) (gh.put i (g,(gh i).2.1,ver)) w ty f (l.set i r):=by
 refine ⟨λj hj=>?_,λj hj hn=>?_,λj k hj hk hne=>?_⟩
 ·have hj':j<l.length:=by simpa using hj
  by_cases e:i=j
  ·subst e;rw [kv];refine ⟨(h.at_ i hi).1,?_⟩;rw [S9 (ges (h.at_ i hi).2).1]
   grind
  rw [dO _ (λh=>e h.symm)];refine ⟨(h.at_ j hj').1,?_⟩;rw [SN (h.sep i j hi hj' e),(h.at_ j hj').2]
  simp_all
 ·have hj':j<l.length:=by simpa using hj
  by_cases e:i=j
  ·subst e;rw [kv] at hn
   simp_all
  rw [dO _ (λh=>e h.symm)] at hn;have := h.nil_ j hj' hn
  simp_all
 have hj':j<l.length:=by simpa using hj
 have hk':k<l.length:=by simpa using hk
 have key:∀ q,(gh.put i (g,(gh i).2.1,ver) q).2.1=(gh q).2.1:=λq=>by
  by_cases e:q=i
  ·subst e;rw [kv]
  rw [dO _ e]
 rw [key,key];exact h.sep j k hj' hk' hne
theorem NK.fz [Inhabited α] (h:NK m H gh w ty f l) {b ver n:Nat} {to:TypeId} (hb:H[b]? = Rk (bE Rj ver 1 to<|cG gh w l)) (hn:n=l.length) (hf:∀ x,(f x).all (isF 9)=Ri):Fz 0 H (hS Rj b ver 1 n) (eL (cL f) l):=by
 subst hn;have e0:∀ i,i<l.length->l.getD i Rh=l.getD i []:=λi hi=>by grind
 refine .hs (k:=⟨ver,1,to,cG gh w l⟩) (SJ _) hb rfl rfl (by simp [dx]) (λi r hi hr=>?_) λi r j c d hi hr hc hd=>?_
 ·rw [SF,cg hi] at hr;obtain rfl:=osl hr
  rfl
 rw [SF,cg hi] at hr;obtain rfl:=osl hr
 match j with
 | 0=>
  obtain rfl:=osl hc;obtain rfl:=osl hd;rw [e0 i hi];exact Fz.own (Te<|SJ _) (h.at_ i hi).2 rfl (h.nil_ i hi) hf
 | j+1=>simp [Es] at hc
end

section
variable {P:Program} {α:Type}
def FU (w:Nat) (ty to:TypeId) (f:α->List AV) (mk:AV->AV) (l:List<|List α) (m:Nat) (H:AH):AV->AH->Prop:=λr G=>
 ∃ ver gh,r=mk (hS Rj m ver 1 l.length)/\G=H++[Rk ⟨ver,1,to,cG gh w l⟩]++(SE l.length).map (λi=>bE (gh i).1 (gh i).2.2 w ty<|(l.getD i []).map f) /\
  ∀ i,i<l.length->(gh i).2.1=m+1+i/\((gh i).1=Ri->l.getD i []=[])
theorem FU.nk {w:Nat} {ty to:TypeId} {f:α->List AV} {l:List (List α)} {m ver:Nat} {H:AH} {gh:NG} (hm:H.length=m) (h:∀ i,i<l.length->(gh i).2.1=m+1+i/\((gh i).1=Ri->l.getD i []=[])) :
  NK (m+1) (H++[Rk ⟨ver,1,to,cG gh w l⟩]++(SE l.length).map (λi=>bE (gh i).1 (gh i).2.2 w ty<|(l.getD i []).map f)) gh w ty f l:=by
 refine ⟨λi hi=>⟨by rw [(h i hi).1];omega,?_⟩,λi hi=>(h i hi).2,λi j hi hj hne=>by rw [(h i hi).1,(h j hj).1];omega⟩;rw [(h i hi).1,gar (by simp [hm])]
 simp_all
def PN (w:Nat) (ty to:TypeId) (f:α->List AV) (mk:AV->AV) (l:List<|List α):AV->AH->Prop:=λr G=>
 ∃ b ver gh,r=mk (hS Rj b ver 1 l.length)/\G[b]? = Rk (Rk ⟨ver,1,to,cG gh w l⟩)/\NK 0 G gh w ty f l/\∀ i,i<l.length->(gh i).2.1≠b
def SxN (b:Nat) (gh:NG) (n:Nat) (i j:Nat):Prop:=(i=b/\j=0)\/∃ q,q<n/\i=(gh q).2.1/\j=q+1
def ghN (gh:NG):NG:=λq=>((gh q).1,q+1,(gh q).2.2)
theorem Reid.own {w:Nat} {ty to:TypeId} {f:α->List AV} {l:List (List α)} {b ver:Nat} {gh:NG} {G:AH} (hb:G[b]? = Rk (Rk ⟨ver,1,to,cG gh w l⟩)) (hN:NK 0 G gh w ty f l) (hne:∀ i,i<l.length->(gh i).2.1≠b) (hf:∀ x,(f x).all (isF 9)=Ri) :
  Reid 0 (SxN b gh l.length) G ([]++[Rk ⟨ver,1,to,cG (ghN gh) w l⟩]++(SE l.length).map (λi=>bE ((ghN gh) i).1 ((ghN gh) i).2.2 w ty<|(l.getD i []).map f)):=by
 have g0:∀ (x:Option ABlk) (K:AH),([]++[x]++K)[0]? = Rk x:=λx K=>rfl;have g1:∀ q,q<l.length->([]++[Rk ⟨ver,1,to,cG (ghN gh) w l⟩]++(SE l.length).map (λi=>bE ((ghN gh) i).1 ((ghN gh) i).2.2 w ty<|(l.getD i []).map f):AH)[q+1]? = Rk (bE (gh q).1 (gh q).2.2 w ty<|(l.getD q []).map f):=λq hq=>by simp [hq,ghN]
 refine ⟨λi j j' h1 h2=>?_,λi i' j h1 h2=>?_,λi hi=>by omega,SJ _,λj k0 hk=>?_,λi j k hS hk=>?_⟩
 ·rcases h1 with ⟨rfl,rfl⟩ | ⟨q,hq,rfl,rfl⟩ <;> rcases h2 with ⟨c1,rfl⟩ | ⟨q',hq',c1,rfl⟩
  ·rfl
  ·grind
  ·simp_all
  by_cases e:q=q'
  ·rw [e]
  exact absurd c1<|hN.sep q q' hq hq' e
 ·rcases h1 with ⟨rfl,rfl⟩ | ⟨q,hq,rfl,rfl⟩ <;> rcases h2 with ⟨rfl,c2⟩ | ⟨q',hq',rfl,c2⟩
  ·rfl
  ·omega
  ·omega
  simp_all
 ·match j with
  | 0=>
   rw [g0] at hk;obtain rfl:=osl<|osl hk;refine ⟨b,_,.inl ⟨rfl,rfl⟩,hb,rfl,rfl,rfl,by simp [dx],λi r r' hr hr' => ?_⟩;have hi:i<l.length:=by
    have := (ges hr).1
    rwa [dx] at this
   rw [cg hi] at hr hr';obtain rfl:=osl hr;obtain rfl:=osl hr';refine ⟨rfl,λj a a' ha ha' => ?_⟩
   match j with
   | 0=>
    obtain rfl:=osl ha;obtain rfl:=osl ha';show Ren _ (hS (gh i).1 (gh i).2.1 (gh i).2.2 w _) (hS (gh i).1 (i+1) (gh i).2.2 w _)
    cases hg:(gh i).1 with
    | true=>exact .nil
    | false=>exact .hs (.inr ⟨i,hi,rfl,rfl⟩)
   | j+1=>simp [Es] at ha
  | q+1=>
   have hq:q<l.length:=by
    have := (ges hk).1;simp at this;omega
   rw [g1 q hq] at hk;refine ⟨(gh q).2.1,k0,.inr ⟨q,hq,rfl,rfl⟩,(hN.at_ q hq).2.trans hk,.ofF λr hr a ha=>?_⟩
   cases hg:(gh q).1 with
   | true=>rw [hg] at hk;cases hk
   | false=>
    rw [hg] at hk;obtain rfl:=osl<|osl hk
    grind
 rcases hS with ⟨rfl,rfl⟩ | ⟨q,hq,rfl,rfl⟩
 ·simp_all
 rw [g1 q hq,<- (hN.at_ q hq).2]
 simp_all
theorem dN.mkON {g:FuncId} {fn:Func} {body:Code} {ars:List AV} {w:Nat} {ty to:TypeId} {f:α->List AV} {mk:AV->AV} {l:List (List α)} (hf:P.funcs[g]? = Rk fn) (hb:fn.body=Rk body) (hcall:iq P g=Ri) (hn:SC ars.length fn.ntmps=Ri)
  (hok:codeOk fn.ntmps body=Ri) {e0:Env} (hw:CF (KV ars) e0) (hmk:∀ (S:Nat->Nat->Prop) (a b:AV),Ren S a b->Ren S (mk a) (mk b)) (hk:∀ x,(f x).all (isF 9)=Ri)
  (h:T P fn.ntmps 0 body (Fin P fn<|PN w ty to f mk l) e0 []):dN P g ars [] (FU w ty to f mk l 0 []):=by
 have hB:=dN.mkT (H:=[]) hf hb hcall hn hok hw h;refine ⟨hB.1,λc vs hH hr hall=>(hB.2 c vs hH hr hall).mono λe w' ⟨v,c1,r,he,hw',⟨b,ver,gh,hr0,hG,hN,hne⟩,hr1,hx,hv⟩ => ?_⟩;subst hr0;have hs:SRel c1 1 (λt=>bif SR t 0 then mk (hS Rj b ver 1 l.length) else .top) { tmps := #[v],defers:=[] }:=by
  refine ⟨rfl,rfl,λt=>?_,hr1⟩
  match t with
  | 0=>exact hv
  | t+1=>exact .top
 obtain ⟨c2,h1,h2,h3,h4⟩:=(Reid.own hG hN hne hk).state (e0:=λt=>bif SR t 0 then mk (hS Rj 0 ver 1 l.length) else .top) hx hs (by rw [hH];exact SJ _) λt=>by
  match t with
  | 0=>exact hmk _ _ _ (.hs<|.inl ⟨rfl,rfl⟩)
  | t+1=>exact .top
 refine ⟨v,c2,_,he,h1.trans hw',⟨ver,ghN gh,rfl,h4,λi hi=>⟨by simp [ghN];omega,λhg=>hN.nil_ i hi hg⟩⟩,h3.heap,h2,?_⟩;have := h3.rel 0;exact this
theorem dN.ownN {g:FuncId} {ars:List AV} {H:AH} {w:Nat} {ty to:TypeId} {f:α->List AV} {mk:AV->AV} {l:List (List α)} (h:dN P g ars []<|FU w ty to f mk l 0 []) (has:ars.all (isF 9)=Ri) (hf:∀ x,(f x).all (isF 9)=Ri)
  (hmk:∀ (S:Nat->Nat->Prop) (a b:AV),Ren S a b->Ren S (mk a) (mk b)) (m:Nat) (hm:H.length=m):dN P g ars H (FU w ty to f mk l m H):=by
 subst hm;refine h.frame [] (by simp) rfl (λi c hi=>by grind) rfl (λi c d hc hd=>?_) λr0 G0 ⟨ver,gh,hr0,hG0,hi⟩ => ?_
 ·obtain ⟨rfl,hm⟩:=eX hc hd;exact aF 9 c<|SD.1 has _ hm
 subst hr0 hG0;let gh':NG:=λq=>((gh q).1,H.length+1+q,(gh q).2.2);have key:∀ {i b},sg [] H.length i b->b=H.length+i:=λ{i b} hs=>by
  rcases hs with hs | ⟨_,hs⟩
  ·simp at hs
  omega
 have hz:∀ (x:Option ABlk) (K:AH),(H++[x]++K)[H.length+0]? = Rk x:=λx K=>by simp
 have hq:∀ (x y:Option ABlk) (K:AH) (q:Nat),(H++[x]++K)[H.length+(q+1)]? = ([]++[y]++K)[q+1]? := λx y K q=>by
  rw [gar (by simp)];simp
  grind
 have hK:RenK (sg [] H.length) ⟨ver,1,to,cG gh w l⟩ ⟨ver,1,to,cG gh' w l⟩:=by
  refine ⟨rfl,rfl,rfl,by simp [dx],λi r r' hr hr' => ?_⟩;have hil:i<l.length:=by
   have := (ges hr).1
   rwa [dx] at this
  rw [cg hil] at hr hr';obtain rfl:=osl hr;obtain rfl:=osl hr';refine ⟨rfl,λj a a' ha ha' => ?_⟩
  match j with
  | 0=>
   obtain rfl:=osl ha;obtain rfl:=osl ha';show Ren _ (hS (gh i).1 (gh i).2.1 (gh i).2.2 w _) (hS (gh i).1 (H.length+1+i) (gh i).2.2 w _);rw [(hi i hil).1]
   cases hg:(gh i).1 with
   | true=>exact .nil
   | false=>exact .hs (.inr ⟨SJ _,by grind⟩)
  | j+1=>simp [Es] at ha
 refine ⟨mk<|hS Rj H.length ver 1 l.length,H++[Rk ⟨ver,1,to,cG gh' w l⟩]++(SE l.length).map (λi=>bE (gh' i).1 (gh' i).2.2 w ty<|(l.getD i []).map f),⟨SJ _,by simp,λi b hlt hs hn=>?_,λi b k0 hs hk0=>?_,λb hb _=>by grind⟩,hmk _ _ _<|.hs<|.inr ⟨SJ _,by simp⟩,⟨ver,gh',rfl,rfl,λi hil=>⟨rfl,(hi i hil).2⟩⟩⟩
 ·obtain rfl:=key hs
  grind
 obtain rfl:=key hs
 match i with
 | 0=>
  simp_all
 | q+1=>
  refine ⟨k0,by grind,.ofF λr hr a ha=>?_⟩;have hql:q<l.length:=by
   have := (ges hk0).1;simp at this;omega
  have hk1:Rk (bE (gh q).1 (gh q).2.2 w ty<|(l.getD q []).map f)=Rk (Rk k0):=by
   rw [<- hk0];simp [hql]
  cases hg:(gh q).1 with
  | true=>rw [hg] at hk1;cases hk1
  | false=>
   rw [hg] at hk1;obtain rfl:=osl<|osl hk1
   grind
end
def KF (K:AH):Prop:=∀ (i:Nat) (k:ABlk),K[i]? = Rk (Rk k)->Aq k
section
variable {P:Program} {nt b0:Nat} {Q:Exit->Env->AH->Prop} {en:List (Nat×AV)} {H:AH} {ops:Array Oper} {l:List Oper} {d:Tmp} {t:TypeId} {pos:String} {af:Array Edge} {α:Type}
theorem oGN {cl:Call} {x:Operand} {g:FuncId} {oO as':List AV} {w m:Nat} {ty to:TypeId} {f:α->List AV} {mk:AV->AV} {q:List (List α)} (hc:cl.callee = .value x) (hf:rho (ai en) x = .fn (.func g) oO) (ha:cl.args.toList.map (rho<|ai en)++oO=as')
  (hm:H.length=m) (hi:∀ x,(f x).all (isF 9)=Ri) (h:dN P g as' H<|FU w ty to f mk q m H) (k:∀ ver gh K,NK (m+1) (H++[Rk ⟨ver,1,to,cG gh w q⟩]++K) gh w ty f q->KF K->TO P nt b0 ops l Q (ai ((d,mk<|hS Rj m ver 1 q.length)::en)) (H++[Rk ⟨ver,1,to,cG gh w q⟩]++K)) :
  TO P nt b0 ops (⟨Rk d,.call cl,t,pos,af,Rl⟩::l) Q (ai en) H:=by
 subst ha;exact TO.runG (.free rfl) (Ba rfl hc hf h) λr H' ⟨ver,gh,hr,hH,hg⟩=>by
  subst hr hH;refine k ver gh _ (FU.nk hm hg) λi kb hk=>?_;have hil:i<q.length:=by
   have := (ges hk).1;simpa using this
  have hk1:bE (gh i).1 (gh i).2.2 w ty ((q.getD i []).map f)=Rk kb:=by
   have := hk;simp [hil] at this;have e:q.getD i []=q[i]:=by simp [hil]
   rw [e];exact this
  cases hg1:(gh i).1 with
  | true=>rw [hg1] at hk1;cases hk1
  | false=>
   rw [hg1] at hk1;obtain rfl:=osl hk1;exact λr hr a ha=>BG hi r hr a ha
end
section
variable {α:Type} {m:Nat} {H:AH} {gh:NG} {w:Nat} {ty:TypeId} {f:α->List AV} {l:List (List α)}
theorem NK.fzm [Inhabited α] (h:NK m H gh w ty f l) {m' b ver n:Nat} {to:TypeId} (hm:SC m' m=Ri) (hmb:SC m' b=Ri) (hb:H[b]? = Rk (bE Rj ver 1 to<|cG gh w l)) (hn:n=l.length) (hf:∀ x,(f x).all (isF 9)=Ri):Fz m' H (hS Rj b ver 1 n) (eL (cL f) l):=by
 subst hn;have e0:∀ i,i<l.length->l.getD i Rh=l.getD i []:=λi hi=>by grind
 refine .hs (k:=⟨ver,1,to,cG gh w l⟩) (nlb hmb) hb rfl rfl (by simp [dx]) (λi r hi hr=>?_) λi r j c d hi hr hc hd=>?_
 ·rw [SF,cg hi] at hr;obtain rfl:=osl hr
  rfl
 rw [SF,cg hi] at hr;obtain rfl:=osl hr
 match j with
 | 0=>
  obtain rfl:=osl hc;obtain rfl:=osl hd;rw [e0 i hi];exact Fz.own (Te<|Nat.le_trans (nlb hm) (h.at_ i hi).1) (h.at_ i hi).2 rfl (h.nil_ i hi) hf
 | j+1=>simp [Es] at hc
theorem NK.nil {m:Nat} {H:AH} {gh:NG}:NK m H gh w ty f ([]:List<|List α):=⟨λi hi=>absurd hi (by simp),λi hi=>absurd hi (by simp),λi j hi=>absurd hi<|by simp⟩
theorem NK.snoc (h:NK m H gh w ty f l) {id ver:Nat} {g:Bool} {r:List α} (hid:H.length<=id) (hm:m<=id) {H':AH} (hlow:∀ b,m<=b->b<H.length->H'[b]? = H[b]?) (hb:H'[id]? = Rk (bE g ver w ty<|r.map f)) (hg:g=Ri->r=[]) :
  NK m H' (gh.put l.length (g,id,ver)) w ty f (l++[r]):=by
 have hlt:∀ i,i<l.length->(gh i).2.1<H.length:=λi hi=>by
  have := (h.at_ i hi).2
  grind
 have hne:∀ i,i<l.length->i≠l.length:=λi hi=>by omega
 have hcase:∀ i,i<(l++[r]).length->i<l.length\/i=l.length:=λi hi=>by grind
 refine ⟨λi hi=>?_,λi hi=>?_,λi j hi hj hij=>?_⟩
 ·rcases hcase i hi with hi' | rfl
  ·rw [dO _ (hne i hi')];refine ⟨(h.at_ i hi').1,?_⟩;rw [hlow _ (h.at_ i hi').1 (hlt i hi'),(h.at_ i hi').2]
   simp_all
  rw [kv]
  simp_all
 ·rcases hcase i hi with hi' | rfl
  ·rw [dO _ (hne i hi')];intro hq;have := h.nil_ i hi' hq
   simp_all
  rw [kv]
  simp_all
 rcases hcase i hi with hi' | rfl
 ·rw [dO _ (hne i hi')];rcases hcase j hj with hj' | rfl
  ·rw [dO _ (hne j hj')];exact h.sep i j hi' hj' hij
  rw [kv]
  grind
 rw [kv];rcases hcase j hj with hj' | rfl
 ·rw [dO _ (hne j hj')];have := hlt j hj';show id≠(gh j).2.1;omega
 omega
end
theorem DT {H:AH} {x:Option ABlk}:(H++[x])[H.length]? = Rk x:=by simp
theorem Lc {H:AH} {x y:Option ABlk}:(H++[x]).set H.length y=H++[y]:=by simp
theorem EL {H:AH} {x y:Option ABlk}:(H++[x]++[y])[H.length]? = Rk x:=by simp
end
end Go.Proofs.YtabfkkjdfhbngaaGreatDoor
