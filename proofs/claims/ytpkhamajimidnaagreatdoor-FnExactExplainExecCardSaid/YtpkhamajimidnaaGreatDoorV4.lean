/- Texts joined. No conditions. -/
import Derived.Laws.BytesArg
import Derived.ChangeKeysEq
import Derived.Test.YtpkhamajimidnaaGreatDoorV3
namespace Go.Proofs.YtpkhamajimidnaaGreatDoor
noncomputable section
open _root_.List renaming all_eq_true -> Mi, range -> Ml, getElem?_cons_zero -> Mm, getElem?_set_ne -> Ms, replicate -> Mx, getElem?_map -> My, ext_getElem? -> MH, range'_succ -> MI, getElem?_set_self -> MK, mem_map -> MM, nil_append -> MP, mem_of_getElem? -> MW
open _root_.Nat renaming blt -> Mj, ble -> Mk, le_refl -> Mo, zero_add -> Mr, add_comm -> Mv, zero_le -> MB, add_assoc -> MG, lt_or_ge -> MJ, eq_of_beq_eq_true -> MQ, ble_eq_true_of_le -> MU
open _root_.Option renaming map_some -> Mq, bind_some -> MC
open _root_.Array renaming getElem?_eq_getElem -> Mt, mem_toList_iff -> ME, mem_of_getElem? -> MF, getElem?_toList -> ML, replicate -> MN, getElem?_eq_some_iff -> MO, getElem?_eq_none -> MR, getElem?_append_left -> MS, length_toList -> MV
open _root_.BitVec renaming ofInt -> Mw
theorem osi {α:Type} {a b:α} (h:some a=some b):a=b:=osl h
open Go.RowKit
def EE (k:Env->AH->Prop) (Q:Exit->Env->AH->Prop):Exit->Env->AH->Prop:=fun x e H=>match x with
 | .normal=>k e H
 | x=>Q x e H
def CM (i:Nat) (Q:Exit->Env->AH->Prop):Exit->Env->AH->Prop:=fun x e H=>match x with
 | .exit j=>bif Nat.beq j i then Q .normal e H else Q (.exit j) e H
 | x=>Q x e H
def T (P:Program) (nt b0:Nat) (code:Code) (Q:Exit->Env->AH->Prop) (e:Env) (H:AH):Prop:=
 codeOk nt code=true->∀ (c c0:Cx) (a:Act),c.H=H->c0.H.length<=b0->Ext c0 c->SRel c nt e a->code.wp P (Ih nt c0 Q) a c.w
def TO (P:Program) (nt b0:Nat) (ops:Array Oper) (l:List Oper) (Q:Exit->Env->AH->Prop) (e:Env) (H:AH):Prop:=
 CI nt ops.toList=true->∀ (k:Nat),(∀ j,l[j]? = ops[k+j]?)->k+l.length=ops.size->∀ (c c0:Cx) (a:Act),c.H=H->c0.H.length<=b0->Ext c0 c->SRel c nt e a->wpOps P ops (Ih nt c0 Q) (List.range' k l.length) a c.w
section
variable {P:Program} {nt b0:Nat} {Q:Exit->Env->AH->Prop} {e e0:Env} {H H0:AH}
theorem T.skip (h:Q .normal e H):T P nt b0 .skip Q e H:=fun _ c c0 a hH _ hx hs=>wp_skip ⟨trivial,c,e,rfl,hx,hs,hH ▸ h⟩
theorem T.ret (h:Q .ret e H):T P nt b0 .ret Q e H:=fun _ c c0 a hH _ hx hs=>wp_ret ⟨trivial,c,e,rfl,hx,hs,hH ▸ h⟩
theorem T.exit {i:Nat} (h:Q (.exit i) e H):T P nt b0 (.exit i) Q e H:=fun _ c c0 a hH _ hx hs=>wp_exit ⟨trivial,c,e,rfl,hx,hs,hH ▸ h⟩
theorem T.cut {code:Code} (hs:dW b0 e H e0 H0) (h:T P nt b0 code Q e0 H0):T P nt b0 code Q e H:=by
 intro hok c c0 a hH hb hx hr;subst hH;obtain ⟨c',h4,h5,h6,h7⟩:=hs.state hx hr hb;rw [<- h4];exact h hok c' c0 a h7 hb h5 h6
theorem T.seq {x y:Code} (h:T P nt b0 x (EE (T P nt b0 y Q) Q) e H):T P nt b0 (.seq x y) Q e H:=by
 intro hok c c0 a hH hb hx hr;simp only [codeOk,bae] at hok;refine wp_seq (wp_mono (h hok.1 c c0 a hH hb hx hr) fun ex a' w' hl=>?_);obtain ⟨hg,c',e',rfl,hx',hs',hq⟩:=hl
 cases ex with
 | normal=>exact hq hok.2 c' c0 a' rfl hb hx' hs'
 | exit i=>exact ⟨hg,c',e',rfl,hx',hs',hq⟩
 | ret=>exact ⟨hg,c',e',rfl,hx',hs',hq⟩
 | _=>exact hg.elim
theorem T.reserve {code:Code} (h:T P nt b0 code Q e (H++[none])):T P nt b0 code Q e H:=by
 intro hok c c0 a hH hb hx hr;subst hH;exact h hok c.res c0 a rfl hb (hx.trans c.res_ext) ⟨hr.size,hr.defers,fun t=>(hr.rel t).ext hr.heap c.res_ext,Cx.res_heap hr.heap⟩
def Cut (b0:Nat) {S G:Type} (ok:S->Prop) (inv:S->G->Prop) (slots:S->G->List (Nat×AV)) (heap:S->G->AH) (e:Env) (H:AH):Prop:=
 ∃ s g,ok s/\inv s g/\dW b0 e H (ak (slots s g)) (heap s g)
theorem T.mono {code:Code} {Q':Exit->Env->AH->Prop} (h:T P nt b0 code Q e H) (hq:∀ x e H,Q x e H->∀ c c0:Cx,∀ a:Act,c.H=H->c0.H.length<=b0->Ext c0 c->SRel c nt e a->Ih nt c0 Q' x a c.w) (hg:∀ x e H,Q x e H->Gq x):T P nt b0 code Q' e H:=by
 intro hok c c0 a hH hb hx hr;refine wp_mono (h hok c c0 a hH hb hx hr) fun ex a' w' ⟨hg',c',e',hw,hx',hs',hq'⟩ => ?_;subst hw;exact hq ex e' c'.H hq' c' c0 a' rfl hb hx' hs'
theorem T.join {S G:Type} {x y:Code} (ok:S->Prop) (inv:S->G->Prop) (slots:S->G->List (Nat×AV)) (heap:S->G->AH)
  (J:∀ s g,ok s->inv s g->T P nt b0 y Q (ak (slots s g)) (heap s g)) (h:T P nt b0 x (EE (Cut b0 ok inv slots heap) Q) e H):T P nt b0 (.seq x y) Q e H:=by
 intro hok c c0 a hH hb hx hr;simp only [codeOk,bae] at hok;refine wp_seq (wp_mono (h hok.1 c c0 a hH hb hx hr) fun ex a' w' hl=>?_);obtain ⟨hg,c',e',rfl,hx',hs',hq⟩:=hl
 cases ex with
 | normal=>
  obtain ⟨s,g,h1,h2,h3⟩:=hq;obtain ⟨c2,h4,h5,h6,h7⟩:=h3.state hx' hs' hb;rw [<- h4];exact J s g h1 h2 hok.2 c2 c0 a' h7 hb h5 h6
 | exit i=>exact ⟨hg,c',e',rfl,hx',hs',hq⟩
 | ret=>exact ⟨hg,c',e',rfl,hx',hs',hq⟩
 | _=>exact hg.elim
theorem T.block {i:Nat} {x:Code} (h:T P nt b0 x (CM i Q) e H):T P nt b0 (.block i x) Q e H:=by
 intro hok c c0 a hH hb hx hr;simp only [codeOk] at hok;refine wp_block (wp_mono (h hok c c0 a hH hb hx hr) fun ex a' w' hl=>?_);obtain ⟨hg,c',e',rfl,hx',hs',hq⟩:=hl
 cases ex with
 | exit j=>
  simp only [CM] at hq;simp only [Exit.inBlock]
  cases hb:Nat.beq j i with
  | true=>
   rw [hb] at hq;rw [if_pos (MQ hb)];exact ⟨trivial,c',e',rfl,hx',hs',hq⟩
  | false=>
   rw [hb] at hq;rw [if_neg (fun he=>by rw [he,show Nat.beq i i=true from Nat.beq_refl i] at hb;cases hb)];exact ⟨trivial,c',e',rfl,hx',hs',hq⟩
 | normal=>exact ⟨hg,c',e',rfl,hx',hs',hq⟩
 | ret=>exact ⟨hg,c',e',rfl,hx',hs',hq⟩
 | _=>exact hg.elim
theorem T.cond {q:Bool} {x:Operand} {t f:Code} (hc:rho e x = .v (.bool q)) (h1:q=true->T P nt b0 t Q e H) (h2:q=false->T P nt b0 f Q e H):T P nt b0 (.cond x t f) Q e H:=by
 intro hok c c0 a hH hb hx hr;simp only [codeOk,bae] at hok;have hrel:=hr.rho x;rw [hc] at hrel;have he:=(fS hrel).1
 cases q with
 | true=>exact wp_cond_true he (h1 rfl hok.1 c c0 a hH hb hx hr)
 | false=>exact wp_cond_false he (h2 rfl hok.2 c c0 a hH hb hx hr)
theorem T.region {i:Nat} {ops:Array Oper} (h:TO P nt b0 ops ops.toList Q e H):T P nt b0 (.region i ops false) Q e H:=by
 intro hok c c0 a hH hb hx hr;simp only [codeOk] at hok;refine wp_region ?_;have := h hok 0 (fun j=>by simp) (by simp) c c0 a hH hb hx hr;rw [List.range_eq_range'];simpa using this
theorem TO.nil {ops:Array Oper} (h:Q .normal e H):TO P nt b0 ops [] Q e H:=by
 intro hd k hl hn c c0 a hH hb hx hr;simp only [List.length_nil,List.range'_zero,wpOps];exact ⟨trivial,c,e,rfl,hx,hr,hH ▸ h⟩
theorem TO.cut {ops:Array Oper} {l:List Oper} (hs:dW b0 e H e0 H0) (h:TO P nt b0 ops l Q e0 H0):TO P nt b0 ops l Q e H:=by
 intro hd k hl hn c c0 a hH hb hx hr;subst hH;obtain ⟨c',h4,h5,h6,h7⟩:=hs.state hx hr hb;rw [<- h4];exact h hd k hl hn c' c0 a h7 hb h5 h6
def EvA (P:Program) (ρ:Operand->AV) (op:Op) (H:AH) (r:AV) (H':AH):Prop:=∀ o:Oper,o.op=op->OpS P o ρ H r H'
def Kz (P:Program) (ρ:Operand->AV) (op:Op) (r:AV):Prop:=∀ o:Oper,o.op=op->∀ G,OpS P o ρ G r G
theorem EvA.mk {ρ:Operand->AV} {op:Op} {r:AV} {H H':AH} (h:∀ K:AV->AH->Prop,K r H'->aop P ρ op H K):EvA P ρ op H r H':=fun o ho=>by
 obtain ⟨r',H2,hop,hr',hH'⟩:=Ie (o:=o) (K:=fun r' H2=>r'=r/\H2=H') (by rw [ho];exact h _ ⟨rfl,rfl⟩);subst hr' hH';exact hop
theorem Kz.mk {ρ:Operand->AV} {op:Op} {r:AV} (h:∀ K:AV->Prop,K r->Hz P ρ op K):Kz P ρ op r:=fun o ho=>by
 obtain ⟨r',hop,hr'⟩:=Gp (o:=o) (K:=fun r'=>r'=r) (by rw [ho];exact h _ rfl);subst hr';exact hop
theorem Kz.toA {ρ:Operand->AV} {op:Op} {r:AV} {H:AH} (h:Kz P ρ op r):EvA P ρ op H r H:=fun o ho=>h o ho H
theorem zw {ops:Array Oper} {c:Cx} {a:Act} {j:Nat} {q:Bool} (hs:SRel c nt e a) (hq:fT ops.toList e j = .v (.bool q)):yielded ops a.tmps j=some q:=by
 unfold fT at hq
 split at hq
 ·rename_i d hd';rw [ML] at hd';have hrel:=hs.rel d;rw [hq] at hrel;have := (fS hrel).1;unfold yielded;rw [hd'];simp only [MC]
  by_cases hlt:d<a.tmps.size
  ·rw [Mt hlt];have e2:a.tmps.getD d undef=a.tmps[d]:=by simp [hlt]
   rw [e2] at this;rw [this]
  have e2:a.tmps.getD d undef=undef:=by simp [hlt]
  rw [e2] at this
  cases this
 cases hq
theorem CN {ops:Array Oper} {c:Cx} {a:Act} {j:Nat} (hs:SRel c nt e a) (hq:fT ops.toList e j = .tup []):yielded ops a.tmps j=none:=by
 unfold fT at hq
 split at hq
 ·rename_i d hd';rw [ML] at hd';have hrel:=hs.rel d;rw [hq] at hrel;obtain ⟨us,h1,_⟩:=sV hrel;unfold yielded;rw [hd'];simp only [MC]
  by_cases hlt:d<a.tmps.size
  ·rw [Mt hlt];have e2:a.tmps.getD d undef=a.tmps[d]:=by simp [hlt]
   rw [e2] at h1;rw [h1]
  rw [MR (Nat.le_of_not_lt hlt)]
 cases hq
def tq (ops:Array Oper) (e:Env) (o:Oper) (w:Bool):Prop:=∀ (nt:Nat) (c:Cx) (a:Act),SRel c nt e a->Region.wanted o (yielded ops a.tmps)=w
theorem tq.free {ops:Array Oper} {o:Oper} (h:o.guard=none):tq ops e o true:=fun _ _ _ _=>by simp [Region.wanted,h]
theorem tq.yes {ops:Array Oper} {o:Oper} {j:Nat} {b q:Bool} (h:o.guard=some (j,b)) (hy:fT ops.toList e j = .v (.bool q)) (hq:q=b):tq ops e o true:=fun _ _ _ hs=>by
 subst hq;simp [Region.wanted,h,zw hs hy]
theorem tq.no {ops:Array Oper} {o:Oper} {j:Nat} {b q:Bool} (h:o.guard=some (j,b)) (hy:fT ops.toList e j = .v (.bool q)) (hq:q = !b):tq ops e o false:=fun _ _ _ hs=>by
 subst hq;simp only [Region.wanted,h,zw hs hy]
 cases b <;> rfl
theorem tq.un {ops:Array Oper} {o:Oper} {j:Nat} {b:Bool} (h:o.guard=some (j,b)) (hy:fT ops.toList e j = .tup []):tq ops e o false:=fun _ _ _ hs=>by
 simp [Region.wanted,h,CN hs hy]
theorem TO.run {ops:Array Oper} {o:Oper} {l:List Oper} {r:AV} {H':AH} (hw:tq ops e o true) (hv:EvA P (rho e) o.op H r H') (h:TO P nt b0 ops l Q (rG e o.dst r) H'):TO P nt b0 ops (o::l) Q e H:=by
 intro hd k hl hn c c0 a hH hb hx hr;have h0:ops[k]? = some o:=by simpa using (hl 0).symm
 have ho:o∈ops.toList:=by rw [ME];exact MF h0
 have hl':∀ j,l[j]? = ops[k+1+j]? := fun j=>by have := hl (j+1);simpa [MG,Mv 1 j] using this
 simp only [llc] at hn;simp only [llc,MI,wpOps,h0];rw [if_pos (hw nt c a hr)];refine .inl (hv o rfl c a _ _ hH hr.heap (fun x _=>hr.rho x) fun v c' hH' hr' hx' hv=>?_);exact h hd (k+1) hl' (by omega) c' c0 _ hH' hb (hx.trans hx') (hr.put o.dst (mG hd ho) hx' hr' hv)
theorem TO.pass {ops:Array Oper} {o:Oper} {l:List Oper} (hw:tq ops e o false) (h:TO P nt b0 ops l Q (rG e o.dst (.tup [])) H):TO P nt b0 ops (o::l) Q e H:=by
 intro hd k hl hn c c0 a hH hb hx hr;have h0:ops[k]? = some o:=by simpa using (hl 0).symm
 have ho:o∈ops.toList:=by rw [ME];exact MF h0
 have hl':∀ j,l[j]? = ops[k+1+j]? := fun j=>by have := hl (j+1);simpa [MG,Mv 1 j] using this
 simp only [llc] at hn;simp only [llc,MI,wpOps,h0];rw [hw nt c a hr];exact h hd (k+1) hl' (by omega) c c0 _ hH hb hx (hr.put o.dst (mG hd ho) (Ext.refl c) hr.heap (.tup (vs:=#[]) rfl (fun i q u hq=>by simp at hq)))
def TL (P:Program) (cls:Nat->Nat):Nat->List Oper->(Env->AH->Prop)->Env->AH->Prop
 | _,[],K,e,H=>K e H
 | k,o::rest,K,e,H=>∃ r H',BL P (cls k) o (rho e) H r H'/\TL P cls (k+1) rest K (rG e o.dst r) H'
theorem TL.nil {cls:Nat->Nat} {k:Nat} {K:Env->AH->Prop} (h:K e H):TL P cls k [] K e H:=h
def tu {S E:Type} (step:S->Option (S ⊕ E)):Nat->S->Option E
 | 0,_=>none
 | n+1,s=>match step s with
  | none=>none
  | some (.inl s')=>tu step n s'
  | some (.inr x)=>some x
theorem tv {S E:Type} {step:S->Option (S ⊕ E)} {x:E}:∀ (n m:Nat) (s:S),n<=m->tu step n s=some x->tu step m s=some x
 | 0,_,_,_,h=>by cases h
 | n+1,0,_,hle,_=>by omega
 | n+1,m+1,s,hle,h=>by
  simp only [tu] at h ⊢
  split at h
  ·cases h
  ·exact tv n m _ (by omega) h
  exact h
open Classical in
def loopO {S E:Type} (step:S->Option (S ⊕ E)) (s:S):Option E:=if h:∃ x,∃ n,tu step n s=some x then some h.choose else none
theorem nR {S E:Type} {step:S->Option (S ⊕ E)} {s:S} {x:E}:loopO step s=some x↔∃ n,tu step n s=some x:=by
 unfold loopO
 constructor
 ·intro h
  split at h
  ·rename_i hx;injection h with h;rw [<- h];exact hx.choose_spec
  cases h
 rintro ⟨n,h⟩;have hx:∃ x,∃ n,tu step n s=some x:=⟨x,n,h⟩;rw [dif_pos hx];obtain ⟨m,hm⟩:=hx.choose_spec;have h1:=tv n (max n m) s (by omega) h;have h2:=tv m (max n m) s (by omega) hm;rw [h1] at h2;exact h2.symm
theorem A8 {S E:Type} (step:S->Option (S ⊕ E)) (s:S):loopO step s=(step s).bind fun z=>match z with
  | .inl s'=>loopO step s'
  | .inr x=>some x:=by
 apply Option.ext;intro x;rw [nR]
 constructor
 ·rintro ⟨n,h⟩
  cases n with
  | zero=>cases h
  | succ n=>
   simp only [tu] at h
   split at h
   ·cases h
   ·rename_i s' hs;rw [hs];exact nR.2 ⟨n,h⟩
   rename_i y hs;rw [hs];exact h
 intro h
 cases hs:step s with
 | none=>rw [hs] at h;cases h
 | some z=>
  rw [hs] at h
  cases z with
  | inl s'=>
   obtain ⟨n,hn⟩:=nR.1 h;exact ⟨n+1,by simp only [tu,hs];exact hn⟩
  | inr y=>exact ⟨1,by simp only [tu,hs];exact h⟩
def ES (b0:Nat) {S E G:Type} (inv:S->G->Prop) (slots:S->G->List (Nat×AV)) (heap:S->G->AH) (z:S ⊕ E) (e:Env) (H:AH):Prop:=∃ s g,z = .inl s/\inv s g/\dW b0 e H (ak (slots s g)) (heap s g)
def Leave {S E:Type} (Q:Exit->Env->AH->Prop) (x:E) (z:S ⊕ E):Exit->Env->AH->Prop:=fun ex e H=>∃ y,z = .inr y/\(y=x->Q ex e H)
theorem T.loop {S E G:Type} {body:Code} {x:E} (step:S->Option (S ⊕ E)) (inv:S->G->Prop) (slots:S->G->List (Nat×AV)) (heap:S->G->AH) {s0:S} (g0:G) (hx0:loopO step s0=some x) (hi:inv s0 g0)
  (hs:dW b0 e H (ak (slots s0 g0)) (heap s0 g0))
  (round:∀ s g z,step s=some z->inv s g->T P nt b0 body (EE (ES b0 inv slots heap z) (Leave Q x z)) (ak (slots s g)) (heap s g)):T P nt b0 (.loop body) Q e H:=by
 refine T.cut hs ?_;intro hok c c0 a hH hb hx hr;simp only [codeOk] at hok;obtain ⟨n,hn⟩:=nR.1 hx0;refine BN (fun n a w=>∃ c' s g,c'.w=w/\c'.H=heap s g/\Ext c0 c'/\SRel c' nt (ak (slots s g)) a/\inv s g/\tu step n s=some x) (n:=n) ⟨c,s0,g0,rfl,hH,hx,hr,hi,hn⟩ fun m a' w' ⟨c',s',g',hw',hH',hx',hs',hi',hm⟩ => ?_;subst hw'
 cases m with
 | zero=>cases hm
 | succ m=>
  simp only [tu] at hm
  cases hst:step s' with
  | none=>rw [hst] at hm;cases hm
  | some z=>
   rw [hst] at hm;refine wp_mono (round s' g' z hst hi' hok c' c0 a' hH' hb hx' hs') fun ex a2 w2 hl=>?_;obtain ⟨hg,c2,e2,rfl,hx2,hs2,hq⟩:=hl;have other:∀ ex,Gq ex->ex ≠ .normal->EE (ES b0 inv slots heap z) (Leave Q x z) ex e2 c2.H->Q ex e2 c2.H:=fun ex hg hne hq=>by
    have hq:Leave Q x z ex e2 c2.H:=by
     cases ex with
     | normal=>exact absurd rfl hne
     | _=>exact hq
    obtain ⟨y,rfl,hy⟩:=hq;injection hm with hm;exact hy hm
   cases ex with
   | normal=>
    obtain ⟨s3,g3,rfl,hi3,hst3⟩:=hq;obtain ⟨c3,h4,h5,h6,h7⟩:=hst3.state hx2 hs2 hb;exact ⟨m,by omega,c3,s3,g3,h4,h7,h5,h6,hi3,hm⟩
   | exit i=>exact ⟨hg,c2,e2,rfl,hx2,hs2,other _ hg (by simp) hq⟩
   | ret=>exact ⟨hg,c2,e2,rfl,hx2,hs2,other _ hg (by simp) hq⟩
   | _=>exact hg.elim
end
open Go.RowKit
abbrev I (n:Int):AV := .v (.int .i64 n)
abbrev Bo (b:Bool):AV := .v (.bool b)
abbrev St (s:ByteArray):AV := .v (.string s)
abbrev Y (n:Int):AV := .v (.int .u8 n)
def eL {α:Type} [Inhabited α] (f:α->List AV) (l:List α):AV := .sl l.length (fun i=>f (l.getD i default))
structure TyF (P:Program) (t:TypeId) (ag:Bool) (n:Nat):Prop where
 ag:uz P t=ag
 und:(P.underlying t).isSome=true
 cells:P.cellsOf t=n
 info:(P.info? t).isSome=true
structure TyZ (P:Program) (t:TypeId) (zs:List AV):Prop where
 z:((P.info? t).bind (·.zero)).map dO=some zs
 one:((P.info? t).bind (·.zero)).map (fun z=>mr z.cells)=some true
structure TyS (P:Program) (t:TypeId) (pl:List (Nat×Nat)):Prop where
 s:(match P.underlying t with
  | some (.struct fs)=>fs.toList.mapM (fun f=>(P.info? f.type).map fun i=>(f.offset,i.size))
  | _=>none)=some pl
def uJ (ag:Bool) (n:Nat) (row:List AV) (j:Nat):Option AV:=match ag with
 | true=>if j+n<=row.length then some (.agg ((row.drop j).take n)) else none
 | false=>row[j]?
section
variable {P:Program} {ρ:Operand->AV} {H H':AH} {x y z:Operand} {a b c:AV} {t u:TypeId}
theorem Kz.mv (a:AV) (h:ρ x=a):Kz P ρ (.move x) a := .mk fun K hK=>by
 show (ρ x).force K;rw [AV.force_iff,h];exact hK
theorem Kz.asg (a:AV) (h:ρ x=a):Kz P ρ (.assign x) a := .mk fun K hK=>by
 show (ρ x).force K;rw [AV.force_iff,h];exact hK
theorem Kz.pickT {q:Bool} (hc:ρ x = .v (.bool q)) (hq:q=true) (a:AV) (h:ρ y=a):Kz P ρ (.pick x y z) a := .mk fun K hK=>by
 show sS P ρ (.pick x y z) K;subst hq;simp only [sS,hc];refine Br.yes rfl ?_;rw [AV.force_iff,h];exact hK
theorem Kz.pickF {q:Bool} (hc:ρ x = .v (.bool q)) (hq:q=false) (a:AV) (h:ρ z=a):Kz P ρ (.pick x y z) a := .mk fun K hK=>by
 show sS P ρ (.pick x y z) K;subst hq;simp only [sS,hc];refine Br.no rfl ?_;rw [AV.force_iff,h];exact hK
theorem Kz.nilfp {row:List AV} {j:Nat} (h:ρ x = .fp row j):Kz P ρ (.nilCheck x) (.fp row j) := .mk fun K hK=>by
 show sS P ρ (.nilCheck x) K;simp only [sS,h];exact hK
theorem Kz.nilhp {b q s i j:Nat} (h:ρ x = .hp b q s i j):Kz P ρ (.nilCheck x) (.hp b q s i j) := .mk fun K hK=>by
 show sS P ρ (.nilCheck x) K;simp only [sS,h];exact hK
theorem vH {ag:Bool} {n:Nat} (ty:TyF P t ag n) {row:List AV} {j:Nat} {K:AV->Prop} (hp:uJ ag n row j=some a) (hK:K a):apart P t row j K:=by
 unfold apart;rw [ty.ag]
 cases ag with
 | true=>
  simp only [uJ] at hp
  split at hp
  ·rename_i hle;injection hp with hp;rw [ty.cells];refine Ck.intro (decide_eq_true hle) ?_;rw [nP,hp];exact hK
  cases hp
 | false=>
  simp only [uJ] at hp;simp only;have hd:row.drop j=a::row.drop (j+1):=by
   obtain ⟨hlt,h1⟩:=ges hp;rw [List.drop_eq_getElem_cons hlt,h1]
  rw [hd];simp only;have := ty.und
  split
  ·rw [AV.force_iff];exact hK
  rename_i hn;rw [hn] at this;cases this
theorem Kz.loadfp (a:AV) {ag:Bool} {n:Nat} (ty:TyF P t ag n) {row:List AV} {j:Nat} (h:ρ x = .fp row j) (hp:uJ ag n row j=some a):Kz P ρ (.load t x) a := .mk fun K hK=>by
 show sS P ρ (.load t x) K;simp only [sS,h];exact vH ty hp hK
section
variable {k:IntKind} {m n:Int}
theorem Kz.add (hx:ρ x = .v (.int k m)) (hy:ρ y = .v (.int k n)) (hw:k.wrap (m+n)=m+n):Kz P ρ (.binOp .add t x y u) (.v (.int k (m+n))) := .mk fun K hK=>by
 show mS P .add t (ρ x) (ρ y) K;simp only [mS,hx,hy];exact Ck.intro (by simp) ⟨hw,hK⟩
theorem Kz.sub (hx:ρ x = .v (.int k m)) (hy:ρ y = .v (.int k n)) (hw:k.wrap (m-n)=m-n):Kz P ρ (.binOp .sub t x y u) (.v (.int k (m-n))) := .mk fun K hK=>by
 show mS P .sub t (ρ x) (ρ y) K;simp only [mS,hx,hy];exact Ck.intro (by simp) ⟨hw,hK⟩
theorem Kz.mul (hx:ρ x = .v (.int k m)) (hy:ρ y = .v (.int k n)) (hw:k.wrap (m*n)=m*n):Kz P ρ (.binOp .mul t x y u) (.v (.int k (m*n))) := .mk fun K hK=>by
 show mS P .mul t (ρ x) (ρ y) K;simp only [mS,hx,hy];exact Ck.intro (by simp) ⟨hw,hK⟩
theorem Kz.quo (hx:ρ x = .v (.int k m)) (hy:ρ y = .v (.int k n)) (h0:n≠0) (hw:k.wrap (m.tdiv n)=m.tdiv n):Kz P ρ (.binOp .quo t x y u) (.v (.int k (m.tdiv n))) := .mk fun K hK=>by
 show mS P .quo t (ρ x) (ρ y) K;simp only [mS,hx,hy];exact Ck.intro (by simp) ⟨h0,hw,hK⟩
theorem Kz.rem (hx:ρ x = .v (.int k m)) (hy:ρ y = .v (.int k n)) (h0:n≠0):Kz P ρ (.binOp .rem t x y u) (.v (.int k (m.tmod n))) := .mk fun K hK=>by
 show mS P .rem t (ρ x) (ρ y) K;simp only [mS,hx,hy];exact Ck.intro (by simp) ⟨h0,hK⟩
def cN (k:IntKind) (m n:Int):Int:=k.wrap ((Mw k.bits m&&&Mw k.bits n).toNat:Int)
def KA (k:IntKind) (m n:Int):Int:=k.wrap ((Mw k.bits m|||Mw k.bits n).toNat:Int)
def lw (k:IntKind) (m n:Int):Int:=k.wrap ((Mw k.bits m &&& ~~~Mw k.bits n).toNat:Int)
def yx (k:IntKind) (m n:Int):Int:=k.wrap (m*2 ^ (min n.toNat k.bits))
def gz (k:IntKind) (m n:Int):Int:=m.fdiv (2 ^ (min n.toNat k.bits))
theorem Kz.band (hx:ρ x = .v (.int k m)) (hy:ρ y = .v (.int k n)):Kz P ρ (.binOp .and t x y u) (.v (.int k (cN k m n))) := .mk fun K hK=>by
 show mS P .and t (ρ x) (ρ y) K;simp only [mS,hx,hy];exact Ck.intro (by simp) hK
theorem Kz.bor (hx:ρ x = .v (.int k m)) (hy:ρ y = .v (.int k n)):Kz P ρ (.binOp .or t x y u) (.v (.int k (KA k m n))) := .mk fun K hK=>by
 show mS P .or t (ρ x) (ρ y) K;simp only [mS,hx,hy];exact Ck.intro (by simp) hK
theorem Kz.bandNot (hx:ρ x = .v (.int k m)) (hy:ρ y = .v (.int k n)):Kz P ρ (.binOp .andNot t x y u) (.v (.int k (lw k m n))) := .mk fun K hK=>by
 show mS P .andNot t (ρ x) (ρ y) K;simp only [mS,hx,hy];exact Ck.intro (by simp) hK
theorem Kz.shl {k':IntKind} (hx:ρ x = .v (.int k m)) (hy:ρ y = .v (.int k' n)) (h0:0<=n):Kz P ρ (.binOp .shl t x y u) (.v (.int k (yx k m n))) := .mk fun K hK=>by
 show mS P .shl t (ρ x) (ρ y) K;simp only [mS,hx,hy];exact ⟨h0,hK⟩
theorem Kz.shr {k':IntKind} (hx:ρ x = .v (.int k m)) (hy:ρ y = .v (.int k' n)) (h0:0<=n):Kz P ρ (.binOp .shr t x y u) (.v (.int k (gz k m n))) := .mk fun K hK=>by
 show mS P .shr t (ρ x) (ρ y) K;simp only [mS,hx,hy];exact ⟨h0,hK⟩
theorem Kz.ieq (hx:ρ x = .v (.int k m)) (hy:ρ y = .v (.int k n)):Kz P ρ (.binOp .eql t x y u) (.v (.bool (m==n))) := .mk fun K hK=>by
 show mS P .eql t (ρ x) (ρ y) K;simp only [mS,hx,hy];exact Ck.intro (by simp) hK
theorem Kz.ine (hx:ρ x = .v (.int k m)) (hy:ρ y = .v (.int k n)):Kz P ρ (.binOp .neq t x y u) (.v (.bool (m != n))) := .mk fun K hK=>by
 show mS P .neq t (ρ x) (ρ y) K;simp only [mS,hx,hy];exact Ck.intro (by simp) hK
theorem Kz.ilt (hx:ρ x = .v (.int k m)) (hy:ρ y = .v (.int k n)):Kz P ρ (.binOp .lss t x y u) (.v (.bool (decide (m<n)))) := .mk fun K hK=>by
 show mS P .lss t (ρ x) (ρ y) K;simp only [mS,hx,hy];exact Ck.intro (by simp) hK
theorem Kz.ile (hx:ρ x = .v (.int k m)) (hy:ρ y = .v (.int k n)):Kz P ρ (.binOp .leq t x y u) (.v (.bool (decide (m<=n)))) := .mk fun K hK=>by
 show mS P .leq t (ρ x) (ρ y) K;simp only [mS,hx,hy];exact Ck.intro (by simp) hK
theorem Kz.igt (hx:ρ x = .v (.int k m)) (hy:ρ y = .v (.int k n)):Kz P ρ (.binOp .gtr t x y u) (.v (.bool (decide (n<m)))) := .mk fun K hK=>by
 show mS P .gtr t (ρ x) (ρ y) K;simp only [mS,hx,hy];exact Ck.intro (by simp) hK
theorem Kz.ige (hx:ρ x = .v (.int k m)) (hy:ρ y = .v (.int k n)):Kz P ρ (.binOp .geq t x y u) (.v (.bool (decide (n<=m)))) := .mk fun K hK=>by
 show mS P .geq t (ρ x) (ρ y) K;simp only [mS,hx,hy];exact Ck.intro (by simp) hK
theorem Kz.neg (hx:ρ x = .v (.int k m)) (hw:k.wrap (0-m)=0-m):Kz P ρ (.unOp .neg t x) (.v (.int k (0-m))) := .mk fun K hK=>by
 show aun .neg (ρ x) K;simp only [aun,hx];exact ⟨hw,hK⟩
theorem Kz.iconv {k':IntKind} {d:TypeId} (hs:(P.underlying t).isSome=true) (hd:P.underlying d=some (.int k')) (hx:ρ x = .v (.int k m)) (hw:k'.wrap m=m):Kz P ρ (.convert t d x) (.v (.int k' m)) := .mk fun K hK=>by
 show EH P t d (ρ x) K;obtain ⟨q,hq⟩:=Option.isSome_iff_exists.1 hs;simp only [EH,hx,hd,hq];exact ⟨hw,hK⟩
end
theorem Kz.cat {s r:ByteArray} (hx:ρ x = .v (.string s)) (hy:ρ y = .v (.string r)) (hn:s.size+r.size<=9223372036854775807):Kz P ρ (.binOp .add t x y u) (.v (.string (s++r))) := .mk fun K hK=>by
 show mS P .add t (ρ x) (ρ y) K;simp only [mS,hx,hy];exact ⟨hn,hK⟩
theorem Kz.seq {s r:ByteArray} (hx:ρ x = .v (.string s)) (hy:ρ y = .v (.string r)):Kz P ρ (.binOp .eql t x y u) (.v (.bool (decide (s=r)))) := .mk fun K hK=>by
 show mS P .eql t (ρ x) (ρ y) K;simp only [mS,hx,hy];exact hK
theorem Kz.sne {s r:ByteArray} (hx:ρ x = .v (.string s)) (hy:ρ y = .v (.string r)):Kz P ρ (.binOp .neq t x y u) (.v (.bool (!decide (s=r)))) := .mk fun K hK=>by
 show mS P .neq t (ρ x) (ρ y) K;simp only [mS,hx,hy];exact hK
theorem Kz.beq {p q:Bool} (ht:qQ P t=true) (hx:ρ x = .v (.bool p)) (hy:ρ y = .v (.bool q)):Kz P ρ (.binOp .eql t x y u) (.v (.bool (p==q))) := .mk fun K hK=>by
 show mS P .eql t (ρ x) (ρ y) K;simp only [mS,hx,hy];exact Ck.intro ht hK
theorem Kz.bne {p q:Bool} (ht:qQ P t=true) (hx:ρ x = .v (.bool p)) (hy:ρ y = .v (.bool q)):Kz P ρ (.binOp .neq t x y u) (.v (.bool (!(p==q)))) := .mk fun K hK=>by
 show mS P .neq t (ρ x) (ρ y) K;simp only [mS,hx,hy];exact Ck.intro ht hK
theorem Kz.not {p:Bool} (hx:ρ x = .v (.bool p)):Kz P ρ (.unOp .not t x) (.v (.bool !p)) := .mk fun K hK=>by
 show aun .not (ρ x) K;simp only [aun,hx];exact hK
theorem Kz.fafp {fs:Array Field} {f:Nat} {fl:Field} {row:List AV} {j:Nat} (hu:P.underlying t=some (.struct fs)) (hf:fs[f]? = some fl) (hc:(P.cellsOf fl.type != 0)=true) (hx:ρ x = .fp row j):Kz P ρ (.fieldAddr t x f) (.fp row (j+fl.offset)) := .mk fun K hK=>by
 show sS P ρ (.fieldAddr t x f) K;simp only [sS,hu,hf,hx];exact Ck.intro hc hK
theorem Kz.fahp {fs:Array Field} {f:Nat} {fl:Field} {b v s i j:Nat} (hu:P.underlying t=some (.struct fs)) (hf:fs[f]? = some fl) (hc:(P.cellsOf fl.type != 0)=true) (hx:ρ x = .hp b v s i j):Kz P ρ (.fieldAddr t x f) (.hp b v s i (j+fl.offset)) := .mk fun K hK=>by
 show sS P ρ (.fieldAddr t x f) K;simp only [sS,hu,hf,hx];exact Ck.intro hc hK
theorem Kz.field (a:AV) {fs:Array Field} {f:Nat} {fl:Field} {cs:List AV} {ag:Bool} {n:Nat} (hu:P.underlying t=some (.struct fs)) (hf:fs[f]? = some fl) (ty:TyF P fl.type ag n) (hx:ρ x = .agg cs) (hp:uJ ag n cs fl.offset=some a):Kz P ρ (.field t x f) a := .mk fun K hK=>by
 show sS P ρ (.field t x f) K;simp only [sS,hu,hf,hx];exact vH ty hp hK
theorem Kz.ixsl {e:TypeId} {ag:Bool} {w n:Nat} {row:Nat->List AV} {k:IntKind} {q:Int} (hu:P.underlying t=some (.slice e)) (ty:TyF P e ag w) (hx:ρ x = .sl n row) (hy:ρ y = .v (.int k q)) (hq:0<=q/\q<n) (hl:(row q.toNat).length=w) :
  Kz P ρ (.indexAddr t x y) (.fp (row q.toNat) 0) := .mk fun K hK=>by
 show kx P t (ρ x) (ρ y) K;simp only [kx,hu,hx,hy];refine ⟨hq,Ck.intro ?_ hK⟩;rw [hl,ty.cells,ty.info];simp
theorem Kz.ixhs {e:TypeId} {ag:Bool} {w b ver off len:Nat} {k:IntKind} {q:Int} (hu:P.underlying t=some (.slice e)) (ty:TyF P e ag w) (hx:ρ x = .hs b ver w off len) (hy:ρ y = .v (.int k q)) (hq:0<=q/\q<len) :
  Kz P ρ (.indexAddr t x y) (.hp b ver w (off+q.toNat) 0) := .mk fun K hK=>by
 show kx P t (ρ x) (ρ y) K;simp only [kx,hu,hx,hy];refine ⟨hq,Ck.intro ?_ hK⟩;rw [ty.cells,ty.info];simp
def bnd (ρ:Operand->AV) (x:Option Operand) (d m:Int):Prop:=match x with
 | none=>d=m
 | some y=>∃ k,ρ y = .v (.int k m)
theorem bnd.no {d:Int}:bnd ρ none d d:=rfl
theorem bnd.yes {d m:Int} {k:IntKind} (h:ρ y = .v (.int k m)):bnd ρ (some y) d m:=⟨k,h⟩
theorem qm {w:Option Operand} {d m:Int} {K:Int->Prop} (h:bnd ρ w d m) (hK:K m):bound (w.map ρ) d K:=by
 cases w with
 | none=>obtain rfl:=h;exact hK
 | some y=>
  obtain ⟨k,h⟩:=h;simp only [Mq,bound,h];exact hK
theorem Kz.slst {s:ByteArray} {lo hi:Option Operand} {l h:Int} (hu:P.underlying t=some .string) (hx:ρ x = .v (.string s)) (hl:bnd ρ lo 0 l) (hh:bnd ρ hi s.size h) (hq:0<=l/\l<=h/\h<=s.size):Kz P ρ (.slice t x lo hi none) (.v (.string (s.extract l.toNat h.toNat))) := .mk fun K hK=>by
 show qF P t (ρ x) (lo.map ρ) (hi.map ρ) none K;simp only [qF,hu,hx];exact qm hl (qm hh ⟨hq,hK⟩)
theorem Kz.slsl {e:TypeId} {ag:Bool} {w n:Nat} {row:Nat->List AV} {lo hi:Option Operand} {l h:Int} (hu:P.underlying t=some (.slice e)) (ty:TyF P e ag w) (hx:ρ x = .sl n row) (hl:bnd ρ lo 0 l) (hh:bnd ρ hi n h) (hq:0<=l/\l<=h/\h<=n) (hr:∀ i,i<n->(row i).length=w) :
  Kz P ρ (.slice t x lo hi none) (.sl (h.toNat-l.toNat) (fun i=>row (i+l.toNat))) := .mk fun K hK=>by
 show qF P t (ρ x) (lo.map ρ) (hi.map ρ) none K;simp only [qF,hu,hx];exact qm hl (qm hh ⟨⟨hq.1,hq.2.1,hq.2.2,fun i hi=>(hr i hi).trans ty.cells.symm,ty.info⟩,hK⟩)
theorem Kz.slhs {e:TypeId} {ag:Bool} {w b ver off n:Nat} {lo hi:Option Operand} {l h:Int} (hu:P.underlying t=some (.slice e)) (ty:TyF P e ag w) (hx:ρ x = .hs b ver w off n) (hl:bnd ρ lo 0 l) (hh:bnd ρ hi n h) (hq:0<=l/\l<=h/\h<=n) :
  Kz P ρ (.slice t x lo hi none) (.hs b ver w (off+l.toNat) (h.toNat-l.toNat)) := .mk fun K hK=>by
 show qF P t (ρ x) (lo.map ρ) (hi.map ρ) none K;simp only [qF,hu,hx];exact qm hl (qm hh ⟨⟨hq.1,hq.2.1,hq.2.2,ty.cells.symm,ty.info⟩,hK⟩)
theorem Kz.ext (a:AV) {xs:List AV} {i:Nat} (hx:ρ x = .tup xs) (hi:xs[i]? = some a):Kz P ρ (.extract x i) a := .mk fun K hK=>by
 show sS P ρ (.extract x i) K;obtain ⟨hlt,h1⟩:=ges hi;simp only [sS,hx];refine Ck.intro (decide_eq_true hlt) ?_;rw [AV.force_iff];have : xs.getD i .top=a:=by rw [<- h1];simp [hlt]
 rw [this];exact hK
theorem Kz.build (cs:List AV) {parts:Array (Nat×Operand)} {fs:Array Field} {zs:List AV} {pl:List (Nat×Nat)} {ps:List (Nat×AV)} (hu:P.underlying t=some (.struct fs)) (z:TyZ P t zs) (s:TyS P t pl) (hp:(parts.toList.map fun p=>(p.1,ρ p.2))=ps) (hf:xq (pl.toArray[·]?) zs ps=some cs) :
  Kz P ρ (.build t parts) (.agg cs) := .mk fun K hK=>by
 show zb P t (parts.toList.map fun p=>(p.1,ρ p.2)) K;rw [hp];have hz:=z.z;have ho:=z.one;have hs:=s.s
 cases hi:P.info? t with
 | none=>rw [hi] at hz;cases hz
 | some i=>
  rw [hi] at hz ho
  cases hzz:i.zero with
  | none=>simp [hzz] at hz
  | some zv=>
   simp only [MC,hzz,Mq,sie] at hz ho;rw [hu] at hs;simp only at hs;simp only [zb,hi,hu,hzz,hs,hz,hf];exact Ck.intro ho hK
theorem Kz.mkfn {f:Fn} {first nO:Array Operand} (cs:List AV) (h0:(first.size==0)=true) (hc:nO.toList.map ρ=cs):Kz P ρ (.makeFunc f first nO) (.fn f cs) := .mk fun K hK=>by
 show sS P ρ (.makeFunc f first nO) K;simp only [sS,hc];exact Ck.intro h0 hK
theorem Kz.of_acallN {cl:Call} {r:AV} (hv:∀ f,cl.callee ≠ .value f) (h:∀ K:AV->Prop,K r->pq P ρ cl.callee cl.args.toList cl.argTypes.toList K):Kz P ρ (.call cl) r := .mk fun K hK=>by
 unfold Hz;have h:=h K hK
 cases hc:cl.callee with
 | value f=>exact absurd hc (hv f)
 | invoke x m=>rw [hc] at h;simp only [hc];show pq P ρ cl.callee cl.args.toList cl.argTypes.toList K;rw [hc];exact h
 | builtin f=>rw [hc] at h;simp only [hc];show pq P ρ cl.callee cl.args.toList cl.argTypes.toList K;rw [hc];exact h
theorem Kz.lensl {e:TypeId} {n:Nat} {row:Nat->List AV} (hu:P.underlying t=some (.slice e)) (hx:ρ x = .sl n row):Kz P ρ (.call ⟨.builtin .len,#[x],#[t]⟩) (.v (.int .i64 n)) := .of_acallN (by simp) fun K hK=>by
 simp only [pq,hu,hx];exact hK
theorem Kz.lenhs {e:TypeId} {b v s o n:Nat} (hu:P.underlying t=some (.slice e)) (hx:ρ x = .hs b v s o n):Kz P ρ (.call ⟨.builtin .len,#[x],#[t]⟩) (.v (.int .i64 n)) := .of_acallN (by simp) fun K hK=>by
 simp only [pq,hu,hx];exact hK
theorem Kz.lennil {e:TypeId} (hu:P.underlying t=some (.slice e)) (hx:ρ x = .nil):Kz P ρ (.call ⟨.builtin .len,#[x],#[t]⟩) (.v (.int .i64 0)) := .of_acallN (by simp) fun K hK=>by
 simp only [pq,hu,hx];exact hK
theorem Kz.lenst {s:ByteArray} (hu:P.underlying t=some .string) (hx:ρ x = .v (.string s)):Kz P ρ (.call ⟨.builtin .len,#[x],#[t]⟩) (.v (.int .i64 s.size)) := .of_acallN (by simp) fun K hK=>by
 simp only [pq,hu,hx];exact hK
theorem EvA.call {cl:Call} {f:Operand} {g:FuncId} {nO KQ:List AV} {r:AV} (hc:cl.callee = .value f) (hf:ρ f = .fn (.func g) nO) (ha:cl.args.toList.map ρ++nO=KQ) (h:li P g KQ H r H'):EvA P ρ (.call cl) H r H' := .mk fun K hK=>by
 unfold aop;simp only [hc,hf,ha];exact .intro h hK
theorem Kz.call {cl:Call} {f:Operand} {g:FuncId} {nO KQ:List AV} {r:AV} (hc:cl.callee = .value f) (hf:ρ f = .fn (.func g) nO) (ha:cl.args.toList.map ρ++nO=KQ) (h:ax P g KQ r) (hF:KQ.all (isF 9)=true):Kz P ρ (.call cl) r := .mk fun K hK=>by
 unfold Hz;simp only [hc,hf,ha];exact .intro (fun H=>h.acall hF H) hK
theorem EvA.alloc {zs:List AV} (z:TyZ P t zs) (hn:(Mj 0 zs.length)=true):EvA P ρ (.alloc t) H (.hp H.length 0 zs.length 0 0) (H++[some ⟨0,zs.length,t,[zs]⟩]) := .mk fun K hK=>by
 show AP P ρ (.alloc t) H K;have hz:=z.z;have ho:=z.one
 cases hi:P.info? t with
 | none=>rw [hi] at hz;cases hz
 | some i=>
  rw [hi] at hz ho
  cases hzz:i.zero with
  | none=>simp [hzz] at hz
  | some zv=>
   simp only [MC,hzz,Mq,sie] at hz ho;simp only [AP,hi,hzz,hz];refine Ck.intro ?_ hK;rw [ho];simp only [Bool.and_true,dte];exact nlb hn
theorem EvA.bslice {e:TypeId} {w n:Nat} {ag:Bool} {zs:List AV} {parts:Array (Nat×Operand)} (hu:P.underlying t=some (.slice e)) (ty:TyF P e ag w) (z:TyZ P e zs) (hzl:zs.length=w) (rows:List (List AV)) (hr:lu (parts.toList.map fun p=>(ρ p.2).cells)=some rows)
  (hn:(Mj 0 w&&Mk (n*w) 16777216&&(parts.toList.map (·.1)==Ml n))=true) (hl:rows.all (fun row=>row.length==w)=true) :
  EvA P ρ (.buildSlice t n parts) H (.hs H.length 0 w 0 n) (H++[some ⟨0,w,e,rows⟩]) := .mk fun K hK=>by
 show AP P ρ (.buildSlice t n parts) H K;have hz:=z.z;have ho:=z.one;simp only [bae] at hn;simp only [AP,hu,hr];have hz1:((P.info? e).bind (·.zero)).map (fun z=>z.cells.size)=some w:=by
  cases hb:(P.info? e).bind (·.zero) with
  | none=>rw [hb] at hz;cases hz
  | some zv=>
   rw [hb] at hz;simp only [Mq,sie] at hz ⊢;rw [<- hzl,<- hz];simp [dO]
 rw [ty.cells,hz1,ho];refine Ck.intro ?_ hK;simp only [bae,dte,beq_self_eq_true,and_true];exact ⟨⟨⟨nlb hn.1.1,nlb hn.1.2⟩,hn.2⟩,hl⟩
theorem EvA.mslice {e:TypeId} {w:Nat} {ag:Bool} {zs:List AV} {l c:Int} (hu:P.underlying t=some (.slice e)) (ty:TyF P e ag w) (z:TyZ P e zs) (hzl:zs.length=w) (hw:(Mj 0 w)=true) (hx:ρ x = .v (.int .i64 l)) (hy:ρ y = .v (.int .i64 c)) (n:Nat) (hb:P.bytesOf e=n)
  (hq:0<=l/\l<=c/\c*(n:Int)<=140737488355328/\c<=140737488355328):EvA P ρ (.makeSlice t x y) H (.hs H.length 0 w 0 l.toNat) (H++[some ⟨0,w,e,Mx c.toNat zs⟩]) := .mk fun K hK=>by
 show AP P ρ (.makeSlice t x y) H K;have hz:=z.z;have ho:=z.one
 cases hi:(P.info? e).bind (·.zero) with
 | none=>rw [hi] at hz;cases hz
 | some zv=>
  rw [hi] at hz ho;simp only [Mq,sie] at hz ho;simp only [AP,hu,hx,hy,hi,hb];refine ⟨hq,?_⟩;rw [ty.cells,hz,hzl,ho];refine Ck.intro ?_ hK;simp only [bae,dte,beq_self_eq_true,and_true];exact nlb hw
theorem EvA.loadhp (a:AV) {ag:Bool} {n:Nat} (ty:TyF P t ag n) {b ver s i j:Nat} (h:ρ x = .hp b ver s i j) {k:ABlk} (hk:H[b]? = some (some k)) (hv:k.ver=ver) (hs:k.s=s) {row:List AV} (hr:k.rows[i]? = some row) (hp:uJ ag n row j=some a):EvA P ρ (.load t x) H a H := .mk fun K hK=>by
 show AP P ρ (.load t x) H K;simp only [AP,h,hk];obtain ⟨hlt,h1⟩:=ges hr;refine ⟨⟨hv,hs,hlt⟩,?_⟩;have : k.rows.getD i []=row:=by rw [<- h1];simp [hlt]
 rw [this];exact vH ty hp hK
theorem EvA.store {ag:Bool} {n:Nat} (ty:TyF P t ag n) {b ver s i j:Nat} (hx:ρ x = .hp b ver s i j) {cs:List AV} (hy:(ρ y).cells=some cs) {k:ABlk} (hk:H[b]? = some (some k)) (hv:k.ver=ver) (hs:k.s=s) {row:List AV} (hr:k.rows[i]? = some row)
  (hl:cs.length=n) (hj:j+n<=s) (k':ABlk) (hk':{ k with rows:=k.rows.set i (splice row j cs) }=k'):EvA P ρ (.store t x y) H .top (H.set b (some k')) := .mk fun K hK=>by
 show AP P ρ (.store t x y) H K;simp only [AP,hx,hy,hk];obtain ⟨hlt,h1⟩:=ges hr;refine ⟨⟨hv,hs,hlt,by omega⟩,?_⟩;rw [ty.cells,ty.info,hl];refine Ck.intro (by simp) ?_;have : k.rows.getD i []=row:=by rw [<- h1];simp [hlt]
 rw [nP,this,hk'];exact hK
end
def gd {α:Type} (b:Bool) (x:Option α):Option α:=bif b then x else none
theorem tz {α:Type} {b:Bool} {x:Option α} (h:b=true):gd b x=x:=by subst h;rfl
theorem gdL {α:Type} {b:Bool} {x:Option α} {r:α} (h:gd b x=some r):b=true/\x=some r:=by
 cases b
 ·cases h
 exact ⟨rfl,h⟩
theorem gdD {α:Type} {A:Prop} [Decidable A] {x:Option α} {r:α} (h:gd (decide A) x=some r):A/\x=some r:=by
 obtain ⟨h1,h2⟩:=gdL h;exact ⟨of_decide_eq_true h1,h2⟩
def KC (k:IntKind) (n:Int):Bool:=decide (k.wrap n=n)
theorem gdW {α:Type} {k:IntKind} {n:Int} {x:Option α} {r:α} (h:gd (KC k n) x=some r):k.wrap n=n/\x=some r:=gdD h
theorem Ik {n:Int} (h : -9223372036854775808<=n/\n<=9223372036854775807):KC .i64 n=true:=decide_eq_true (IntWalk.i64_in n h)
theorem Il {n:Int} (h:0<=n/\n<=255):KC .u8 n=true:=decide_eq_true (IntWalk.u8_in n h)
theorem Im {n:Int} (h:0<=n/\n<=18446744073709551615):KC .u64 n=true:=decide_eq_true (IntWalk.u64_in n h)
theorem GA {α β:Type} {o:Option α} {k:α->Option β} {r:β} (h:o.bind k=some r):∃ x,o=some x/\k x=some r:=Option.bind_eq_some_iff.1 h
theorem Js {α:Type} {b:Bool} {x y r:α} (hb:b=true) (h:(bif b then x else y)=r):x=r:=by subst hb;exact h
theorem Jt {α:Type} {b:Bool} {x y r:α} (hb:b=false) (h:(bif b then x else y)=r):y=r:=by subst hb;exact h
def hS (g:Bool) (b ver s n:Nat):AV:=bif g then .nil else .hs b ver s 0 n
def bE (g:Bool) (ver s:Nat) (ty:TypeId) (rows:List (List AV)):Option ABlk:=bif g then none else some ⟨ver,s,ty,rows⟩
def bK (P:Program) (H:AH) (s:Nat) (a:AV) (news:List (List AV)):Prop:=∀ (c:Cx) (u:Value),c.H=H->HRel c->c.rel a u->∃ vs,SrcIs P c s u news vs
section
variable {P:Program} {ρ:Operand->AV} {H:AH} {x y:Operand} {t u e:TypeId} {s:Nat}
theorem bK.mk {a:AV} {news:List (List AV)} (h:∀ K:List (List AV)->Prop,K news->Ia H P t s a K):bK P H s a news:=by
 obtain ⟨n2,hn,h2⟩:=CF (h (fun q=>q=news) rfl);subst hn;exact h2
theorem bK.nil:bK P H s .nil [] := .mk (t:=0) fun _ hK=>hK
theorem qI {α:Type} [Inhabited α] (f:α->List AV) (l:List α):(Ml l.length).map (fun i=>f (l.getD i default))=l.map f:=by
 apply List.ext_getElem
 ·simp
 intro i h1 h2;simp only [llm] at h2;simp [h2]
theorem bK.eL {α:Type} [Inhabited α] {f:α->List AV} {l:List α} (hf:∀ x,(f x).length=s):bK P H s (eL f l) (l.map f) := .mk (t:=0) fun K hK=>by
 show (∀ i,i<l.length->(f (l.getD i default)).length=s)/\K ((Ml l.length).map fun i=>f (l.getD i default));exact ⟨fun i _=>hf _,by rw [qI];exact hK⟩
theorem bK.sl {n:Nat} {row:Nat->List AV} (hf:∀ i,i<n->(row i).length=s):bK P H s (.sl n row) ((Ml n).map row) := .mk (t:=0) fun K hK=>⟨hf,hK⟩
theorem bK.own {b ver off n:Nat} {k:ABlk} (hk:H[b]? = some (some k)) (hv:k.ver=ver) (hs:k.s=s) (hn:off+n<=k.rows.length) {news:List (List AV)} (he:(k.rows.drop off).take n=news):bK P H s (.hs b ver s off n) news := .mk (t:=0) fun K hK=>by
 simp only [Ia,hk];exact ⟨⟨hv,hs,trivial,hn⟩,he ▸ hK⟩
theorem bK.hS {g:Bool} {b ver n:Nat} {ty:TypeId} {rows:List (List AV)} (hk:H[b]? = some (bE g ver s ty rows)) (hn:n=rows.length) (hg:g=true->rows=[]):bK P H s (hS g b ver s n) rows:=by
 cases g with
 | true=>rw [hg rfl];exact .nil
 | false=>subst hn;exact .own (k:=⟨ver,s,ty,rows⟩) hk rfl rfl (by simp) (by simp)
theorem Io {zs:List AV} (z:TyZ P e zs) (hl:zs.length=s):((P.info? e).bind (·.zero)).map (fun z=>z.cells.size)=some s:=by
 have hz:=z.z
 cases hb:(P.info? e).bind (·.zero) with
 | none=>rw [hb] at hz;cases hz
 | some zv=>
  rw [hb] at hz;simp only [Mq,sie] at hz ⊢;rw [<- hl,<- hz];simp [dO]
theorem Ac (h:EC P u=true):(∃ e2,P.underlying u=some (.slice e2))\/P.underlying u=some .string:=by
 unfold EC at h
 split at h
 ·rename_i e2 k;exact .inl ⟨e2,k⟩
 ·rename_i k;exact .inr k
 cases h
theorem A9 {α:Type}:∀ (l:List α) (i:Nat) (x:α),l[i]? = some x->l.set i x=l
 | [],_,_,_=>rfl
 | a::l,0,x,h=>by
  simp only [Mm,sie] at h;simp [h]
 | a::l,i+1,x,h=>by
  simp only [List.getElem?_cons_succ] at h;simp [A9 l i x h]
theorem EvA.appv {g:Bool} {b ver n m:Nat} {ag:Bool} {zs:List AV} {rows news:List (List AV)} (hu:P.underlying t=some (.slice e)) (hv:EC P u=true) (ty:TyF P e ag s) (z:TyZ P e zs) (hzl:zs.length=s) (hs:(Mj 0 s)=true)
  (hx:ρ x=Go.Proofs.YtpkhamajimidnaaGreatDoor.hS g b ver s n) (hk:H[b]? = some (bE g ver s e rows)) (hn:n=rows.length) (hg:g=true->rows=[]) (hsrc:bK P H s (ρ y) news) (hm:P.bytesOf e=m) (hb1:(n+news.length)*m<=35184372088832) (hb2:n+news.length<=35184372088832) :
  EvA P ρ (.call ⟨.builtin .append,#[x,y],#[t,u]⟩) H (Go.Proofs.YtpkhamajimidnaaGreatDoor.hS (g&&news.isEmpty) b (ver+1) s (n+news.length)) (H.set b (bE (g&&news.isEmpty) (ver+1) s e (rows++news))):=fun o ho=>by
 have hpos:0<P.cellsOf e:=by rw [ty.cells];exact nlb hs
 have hz:=Io z (hzl.trans ty.cells.symm);rw [<- ty.cells] at hsrc hx hk ⊢
 cases g with
 | false=>
  have h:=wB (o:=o) (P:=P) (ρ:=ρ) (H:=H) (k:=⟨ver,P.cellsOf e,e,rows⟩) (off:=0) (len:=n) (news:=news) ho rfl rfl rfl hu (Ac hv) hx hk rfl rfl rfl (by simp [hn]) rfl hz (by rw [hm];exact hb1) hb2 hsrc;have e1:(List.drop 0 rows).take n=rows:=by subst hn;simp
  simp only [e1] at h;exact h
 | true=>
  have hr:=hg rfl;subst hr;subst hn;simp only [List.length_nil,Mr] at hb1 hb2 ⊢
  cases news with
  | nil=>
   have h:=uA (o:=o) (P:=P) (ρ:=ρ) (H:=H) ho rfl rfl rfl hu (Ac hv) hx hz rfl hsrc;have e2:H.set b (bE (true&&([]:List (List AV)).isEmpty) (ver+1) (P.cellsOf e) e ([]++[]))=H:=A9 _ _ _ hk;rw [e2];exact h
  | cons a l=>
   exact Ab (o:=o) (P:=P) (ρ:=ρ) (H:=H) (ver:=ver+1) hk ho rfl rfl rfl hu (Ac hv) hx hpos hz (by rw [hm];exact hb1) hb2 (by simp) hsrc
theorem EvA.app {g:Bool} {b ver n m:Nat} {ag:Bool} {zs:List AV} {rows rows':List (List AV)} {a:List AV} {news:List (List AV)} (hu:P.underlying t=some (.slice e)) (hv:EC P u=true) (ty:TyF P e ag s) (z:TyZ P e zs) (hzl:zs.length=s) (hs:(Mj 0 s)=true)
  (hx:ρ x=Go.Proofs.YtpkhamajimidnaaGreatDoor.hS g b ver s n) (hk:H[b]? = some (bE g ver s e rows)) (hn:n=rows.length) (hg:g=true->rows=[]) (hsrc:bK P H s (ρ y) (a::news)) (hm:P.bytesOf e=m) (hb1:(n+(a::news).length)*m<=35184372088832) (hb2:n+(a::news).length<=35184372088832)
  (hr:rows++(a::news)=rows') {n':Nat} (hn':n+(a::news).length=n') :
  EvA P ρ (.call ⟨.builtin .append,#[x,y],#[t,u]⟩) H (Go.Proofs.YtpkhamajimidnaaGreatDoor.hS false b (ver+1) s n') (H.set b (bE false (ver+1) s e rows')):=by
 have h:=EvA.appv (P:=P) (ρ:=ρ) (x:=x) (y:=y) hu hv ty z hzl hs hx hk hn hg hsrc hm hb1 hb2;have : (g&&(a::news).isEmpty)=false:=by cases g <;> rfl
 rw [this,hr,hn'] at h;exact h
theorem Kz.lenhS {g:Bool} {b v s n:Nat} (hu:P.underlying t=some (.slice e)) (hx:ρ x=Go.Proofs.YtpkhamajimidnaaGreatDoor.hS g b v s n) (hg:g=true->n=0):Kz P ρ (.call ⟨.builtin .len,#[x],#[t]⟩) (.v (.int .i64 n)):=by
 cases g with
 | true=>rw [hg rfl];exact Kz.lennil hu hx
 | false=>exact Kz.lenhs hu hx
theorem Kz.ixhS {g:Bool} {ag:Bool} {w b ver len:Nat} {k:IntKind} {q:Int} (hu:P.underlying t=some (.slice e)) (ty:TyF P e ag w) (hx:ρ x=Go.Proofs.YtpkhamajimidnaaGreatDoor.hS g b ver w len) (hy:ρ y = .v (.int k q)) (hg:g=true->len=0) (hq:0<=q/\q<len) :
  Kz P ρ (.indexAddr t x y) (.hp b ver w q.toNat 0):=by
 cases g with
 | true=>have := hg rfl;omega
 | false=>have h:=Kz.ixhs (P:=P) (ρ:=ρ) hu ty hx hy hq;rw [Mr] at h;exact h
end
section
variable {m:Nat} {H:AH} {e:Env}
theorem tC:∀ (n:Nat) (m:Nat) (a:AV),isF n a=true->Aa n m a=true
 | 0,_,_,h=>by cases h
 | n+1,m,a,h=>by
  cases a with
  | agg cs=>simp only [isF,Aa,Mi] at h ⊢;exact fun c hc=>tC n m c (h c hc)
  | tup cs=>simp only [isF,Aa,Mi] at h ⊢;exact fun c hc=>tC n m c (h c hc)
  | fn f cs=>simp only [isF,Aa,Mi] at h ⊢;exact fun c hc=>tC n m c (h c hc)
  | ifc t x=>simp only [isF,Aa] at h ⊢;exact tC n m x h
  | hs=>cases h
  | hp=>cases h
  | mp=>cases h
  | top=>cases h
  | _=>rfl
theorem Fz.of_isF:∀ (n:Nat) (a:AV),isF n a=true->Fz m H a a
 | 0,_,h=>by cases h
 | n+1,a,h=>by
  cases a with
  | v x=>exact .v
  | nil=>exact .nil
  | sl k row=>exact .sl fun _ _=>rfl
  | fp row j=>exact .fp
  | agg cs=>
   simp only [isF,Mi] at h;exact .agg rfl (fun i c d hc hd=>by obtain ⟨rfl,hm⟩:=dS hc hd;exact Fz.of_isF n _ (h _ hm))
  | tup cs=>
   simp only [isF,Mi] at h;exact .tup rfl (fun i c d hc hd=>by obtain ⟨rfl,hm⟩:=dS hc hd;exact Fz.of_isF n _ (h _ hm))
  | fn f cs=>
   simp only [isF,Mi] at h;exact .fn rfl (fun i c d hc hd=>by obtain ⟨rfl,hm⟩:=dS hc hd;exact Fz.of_isF n _ (h _ hm))
  | ifc t x=>
   simp only [isF] at h;exact .ifc (Fz.of_isF n x h)
  | hs b q s o l=>cases h
  | hp b q s i j=>cases h
  | mp b s=>cases h
  | top=>cases h
theorem Fz.own {α:Type} [Inhabited α] {g:Bool} {b ver s n:Nat} {ty:TypeId} {f:α->List AV} {l:List α} (hm:Mk m b=true) (hk:H[b]? = some (bE g ver s ty (l.map f))) (hn:n=l.length) (hg:g=true->l=[]) (hf:∀ x,(f x).all (isF 9)=true):Fz m H (hS g b ver s n) (eL f l):=by
 subst hn
 cases g with
 | true=>rw [hg rfl];exact .nil0
 | false=>
  refine .hs (k:=⟨ver,s,ty,l.map f⟩) (nlb hm) hk rfl rfl (by simp) (fun i r hi hr=>?_) (fun i r j c d hi hr hc hd=>?_)
  ·simp only [Mr,My,geq hi,Mq,sie] at hr;subst hr;simp [hi]
  simp only [Mr,My,geq hi,Mq,sie] at hr;subst hr;have e1:l.getD i default=l[i]:=by simp [hi]
  rw [e1] at hd;obtain ⟨rfl,hm⟩:=dS hc hd;exact Fz.of_isF 9 _ (Mi.1 (hf _) _ hm)
inductive FzL (m:Nat) (H:AH):List AV->List AV->Prop
 | nil:FzL m H [] []
 | cons {a b:AV} {l k:List AV} (h:Fz m H a b) (t:FzL m H l k):FzL m H (a::l) (b::k)
theorem FzL.spec {l k:List AV} (h:FzL m H l k):l.length=k.length/\∀ (i:Nat) (c d:AV),l[i]? = some c->k[i]? = some d->Fz m H c d:=by
 induction h with
 | nil=>exact ⟨rfl,fun i c d h=>by simp at h⟩
 | cons h t ih=>
  refine ⟨by simp [ih.1],fun i c d h1 h2=>?_⟩
  cases i with
  | zero=>
   simp only [Mm,sie] at h1 h2;subst h1 h2;exact h
  | succ i=>exact ih.2 i c d (by simpa using h1) (by simpa using h2)
theorem Fz.tupL {l k:List AV} (h:FzL m H l k):Fz m H (.tup l) (.tup k) := .tup h.spec.1 h.spec.2
theorem Stl.hS {g:Bool} {b ver s n:Nat} (hb:Mj b m=true):Stl m H (hS g b ver s n) (hS g b ver s n):=by
 cases g with
 | true=>exact .fz .nil
 | false=>exact .hs (nlb hb)
theorem Stl.eqv {a a' b:AV} (h:a=a') (k:Stl m H a' b):Stl m H a b:=h ▸ k
inductive StlL (m:Nat) (H:AH):List AV->List AV->Prop
 | nil:StlL m H [] []
 | cons {a b:AV} {l k:List AV} (h:Stl m H a b) (t:StlL m H l k):StlL m H (a::l) (b::k)
theorem StlL.spec {l k:List AV} (h:StlL m H l k):l.length=k.length/\∀ (i:Nat) (c d:AV),l[i]? = some c->k[i]? = some d->Stl m H c d:=by
 induction h with
 | nil=>exact ⟨rfl,fun i c d h=>by simp at h⟩
 | cons h t ih=>
  refine ⟨by simp [ih.1],fun i c d h1 h2=>?_⟩
  cases i with
  | zero=>
   simp only [Mm,sie] at h1 h2;subst h1 h2;exact h
  | succ i=>exact ih.2 i c d (by simpa using h1) (by simpa using h2)
theorem StayB.list {α:Type} {g:Bool} {ver s:Nat} {ty:TypeId} {f:α->List AV} {l:List α} (hf:∀ x,(f x).all (isF 9)=true):StayB m H (bE g ver s ty (l.map f)) (bE g ver s ty (l.map f)):=by
 cases g with
 | true=>exact .dead
 | false=>
  refine .keep fun r hr a ha=>?_;obtain ⟨x,_,rfl⟩:=MM.1 hr;exact tC 9 m a (Mi.1 (hf x) a ha)
theorem StayB.row {ver s:Nat} {ty:TypeId} {r r0:List AV} (h:StlL m H r r0):StayB m H (some ⟨ver,s,ty,[r]⟩) (some ⟨ver,s,ty,[r0]⟩) := .same rfl fun i q q0 hq hq0=>by
 cases i with
 | zero=>
  simp only [Mm,sie] at hq hq0;subst hq hq0;exact h.spec
 | succ i=>simp at hq
theorem rU {b0:Nat} {e0:Env} {H0:AH} (hb:Mk b0 H0.length=true) (hH:StayL H0.length H H H0) (hs:∀ t,Stl H0.length H (e t) (e0 t)):dW b0 e H e0 H0 := .inr ⟨_,nlb hb,Stay.of hH,hs⟩
theorem yV {b0:Nat} {e0:Env} {H0:AH} (hH:H0=H) (hw:za e e0):dW b0 e H e0 H0 := .inl ⟨hH,hw⟩
end
section
variable {P:Program}
inductive ResOk (P:Program) (e:Env) (H:AH):ResultVar->AV->Prop
 | tmp {t:Tmp} {a:AV} (h:e t=a):ResOk P e H (.tmp t) a
 | cell {ad:Tmp} {t:TypeId} {ag:Bool} {n b ver s i j:Nat} {k:ABlk} {row:List AV} (a:AV) (ty:TyF P t ag n) (h:e ad = .hp b ver s i j) (hk:H[b]? = some (some k)) (hv:k.ver=ver) (hs:k.s=s) (hr:k.rows[i]? = some row) (hp:uJ ag n row j=some a):ResOk P e H (.cell ad t) a
 | cellF {ad:Tmp} {t:TypeId} {ag:Bool} {n j:Nat} {row:List AV} (a:AV) (ty:TyF P t ag n) (h:e ad = .fp row j) (hp:uJ ag n row j=some a):ResOk P e H (.cell ad t) a
inductive ResL (P:Program) (e:Env) (H:AH):List ResultVar->List AV->Prop
 | nil:ResL P e H [] []
 | cons {r:ResultVar} {a:AV} {l:List ResultVar} {k:List AV} (h:ResOk P e H r a) (t:ResL P e H l k):ResL P e H (r::l) (a::k)
def Je:List AV->AV
 | [a]=>a
 | KQ => .tup KQ
theorem Ba {t:TypeId} {ag:Bool} {n:Nat} (ty:TyF P t ag n) {row:List AV} {j:Nat} {a:AV} (hp:uJ ag n row j=some a):vZ P t row j a:=by
 obtain ⟨r,h1,h2⟩:=rM (vH (K:=fun q=>q=a) ty hp rfl);subst h2;exact h1
theorem CO {c:Cx} {nt:Nat} {e:Env} {a:Act} (hs:SRel c nt e a) {r:ResultVar} {x:AV} (h:ResOk P e c.H r x):∃ v,(xN a.tmps r).run P c.w = .ok v c.w/\c.rel x v:=by
 cases h with
 | tmp h=>exact ⟨_,by simp [xN],h ▸ hs.rel _⟩
 | @cell ad t ag n b ver s i j k row x ty h hk hv hsz hr hp=>
  have h1:=h ▸ hs.rel ad;generalize hu:a.tmps.getD ad undef=u at h1
  cases h1 with
  | fr h=>cases h
  | @hp _ _ _ _ _ adr hbn hh=>
   have hl:c.live b k:=hk;obtain ⟨cs,fr,hB⟩:=hs.heap.blk b k hl;obtain ⟨fr,rfl,hat,hd⟩:=hB.cells hl (fun x hx=>(hh x (hv ▸ hx)).1.trans hsz.symm);rw [hv] at hd;obtain ⟨_,rfl⟩:=hh _ hd;have hrow:BC c (c.φ b).1 ((c.φ b).2+i*s) row:=by
    intro q a' hq;obtain ⟨u,h1,h2,h3⟩:=hB.rel i _ q a' hr hq;refine ⟨u,?_,h2,h3⟩;rw [<- hsz,cell_of_row c.w _ _ cs k.ty fr hat];exact h1
   obtain ⟨v,hrun,hrel⟩:=qi hrow (Ba ty hp);refine ⟨v,?_,hrel⟩;simp only [xN,hu];simpa [Instr.loadAt,Instr.sureAddr,asAddr] using hrun
 | @cellF ad t ag n j row x ty h hp=>
  have h1:=h ▸ hs.rel ad;obtain ⟨g,o,he,hrow⟩:=(oP h1).rowAt;obtain ⟨v,hrun,hrel⟩:=qi hrow (Ba ty hp);refine ⟨v,?_,hrel⟩;simp only [xN,he];simpa [Instr.loadAt,Instr.sureAddr,asAddr] using hrun
theorem Bb {c:Cx} {nt:Nat} {e:Env} {a:Act} (hs:SRel c nt e a):∀ {rs:List ResultVar} {KQ:List AV},ResL P e c.H rs KQ->∃ vs:List Value,(rs.mapM (xN a.tmps)).run P c.w = .ok vs c.w/\vs.length=KQ.length/\∀ (i:Nat) (x:AV) (v:Value),KQ[i]? = some x->vs[i]? = some v->c.rel x v
 | [],[],_=>⟨[],by simp,rfl,fun i x v h=>by simp at h⟩
 | r::rs,x::KQ,.cons h t=>by
  obtain ⟨v,h1,h2⟩:=CO hs h;obtain ⟨vs,h3,h4,h5⟩:=Bb hs t;refine ⟨v::vs,by simp [List.mapM_cons,Sem.run_bind,h1,h3],by simp [h4],fun i y u hy hu=>?_⟩
  cases i with
  | zero=>
   simp only [Mm,sie] at hy hu;subst hy hu;exact h2
  | succ i=>exact h5 i y u (by simpa using hy) (by simpa using hu)
theorem zx {fn:Func} {c:Cx} {nt:Nat} {e:Env} {a:Act} {KQ:List AV} (hs:SRel c nt e a) (h:ResL P e c.H fn.results.toList KQ):∃ v,(results fn a.tmps).run P c.w = .ok v c.w/\c.rel (Je KQ) v:=by
 obtain ⟨vs,h1,h2,h3⟩:=Bb hs h;have e1:results fn a.tmps=(do let vs <- fn.results.mapM (xN a.tmps);pure (if h:vs.size=1 then vs[0] else .tuple vs)):=by
  unfold results
  congr 2
 refine ⟨if h:vs.toArray.size=1 then vs.toArray[0] else .tuple vs.toArray,?_,?_⟩
 ·rw [e1,Array.mapM_eq_mapM_toList];simp only [Sem.run_bind,Sem.run_map,h1,Result.andThen_ok,Sem.run_pure]
 match KQ,vs,h2,h3 with
 | [x],[v],_,h3=>exact h3 0 x v rfl rfl
 | [],[],_,_=>exact .tup (by simp) (fun i q u hq=>by simp at hq)
 | x::y::KQ,v::w::vs,h2,h3=>
  rw [dif_neg (by simp)];exact .tup (by simpa using h2) (fun i q u hq hu=>h3 i q u hq (by simpa using hu))
def Fin (P:Program) (fn:Func) (R:AV->AH->Prop):Exit->Env->AH->Prop:=fun x e G=>(x = .normal\/x = .ret)/\∃ KQ,ResL P e G fn.results.toList KQ/\R (Je KQ) G
theorem dX.mkT {f:FuncId} {fn:Func} {body:Code} {KQ:List AV} {H:AH} {R:AV->AH->Prop} (hf:P.funcs[f]? = some fn) (hb:fn.body=some body) (hcall:gy P f=true) (hn:Mk KQ.length fn.ntmps=true)
  (hok:codeOk fn.ntmps body=true) {e0:Env} (hw:za (FP KQ) e0) (h:T P fn.ntmps H.length body (Fin P fn R) e0 H):dX P f KQ H R:=by
 refine ⟨hcall,fun c vs hH hr hall=>?_⟩;obtain ⟨hl,hrel⟩:=hall;have hn:=nlb hn;have hs:SRel c fn.ntmps (FP KQ) { tmps:=vs++MN (fn.ntmps-vs.size) undef,defers:=[] }:=by
  refine ⟨by simp;omega,rfl,fun t=>?_,hr⟩;unfold FP;rcases MJ t KQ.length with hlt | hge
  ·have e1:KQ.getD t .top=KQ[t]:=by simp [hlt]
   have hlt2:t<vs.size:=by omega
   have e2:(vs++MN (fn.ntmps-vs.size) undef).getD t undef=vs[t]:=by
    rw [Array.getD_eq_getD_getElem?,MS hlt2,Mt hlt2]
    rfl
   rw [e1];simp only [e2];exact hrel t _ _ (geq hlt) (Mt hlt2)
  have e1:KQ.getD t .top = .top:=by simp [hge]
  rw [e1];exact .top
 refine calls_of_wp hf hb (wp_mono (h hok c c _ hH (by rw [hH];exact Mo _) (Ext.refl c) (hs.weak hw)) fun x a w hl=>?_);obtain ⟨hg,c',e',rfl,hx,hs',hq,as',hR1,hR⟩:=hl;obtain ⟨v,hv,hrel'⟩:=zx (P:=P) hs' hR1;rcases hq with rfl | rfl
 ·exact ⟨hs'.defers,v,hv,v,c',_,rfl,rfl,hR,hs'.heap,hx,hrel'⟩
 exact ⟨hs'.defers,v,hv,v,c',_,rfl,rfl,hR,hs'.heap,hx,hrel'⟩
theorem ax.mkT {f:FuncId} {fn:Func} {body:Code} {KQ:List AV} {r:AV} (hf:P.funcs[f]? = some fn) (hb:fn.body=some body) (hcall:gy P f=true) (hn:Mk KQ.length fn.ntmps=true)
 (hok:codeOk fn.ntmps body=true) {e0:Env} (hw:za (FP KQ) e0) (h:T P fn.ntmps 0 body (Fin P fn fun r0 G=>Fz 0 G r0 r) e0 []):ax P f KQ r:=ax.of (dX.mkT hf hb hcall hn hok hw h)
theorem Fin.ret {fn:Func} {R:AV->AH->Prop} {e:Env} {G:AH} {vs:List AV} (h:ResL P e G fn.results.toList vs) (k:R (Je vs) G):Fin P fn R .ret e G:=⟨.inr rfl,vs,h,k⟩
theorem Fin.normal {fn:Func} {R:AV->AH->Prop} {e:Env} {G:AH} {vs:List AV} (h:ResL P e G fn.results.toList vs) (k:R (Je vs) G):Fin P fn R .normal e G:=⟨.inl rfl,vs,h,k⟩
end
def cI:Int->List AV:=fun n=>[I n]
def cY:Int->List AV:=fun n=>[Y n]
def cB:Bool->List AV:=fun b=>[Bo b]
def cS:ByteArray->List AV:=fun s=>[St s]
def cL {α:Type} [Inhabited α] (f:α->List AV):List α->List AV:=fun l=>[eL f l]
structure SlT (P:Program) (t e:TypeId) (ag:Bool) (w:Nat) (zs:List AV) (m:Nat):Prop where
 u:P.underlying t=some (.slice e)
 ty:TyF P e ag w
 z:TyZ P e zs
 zl:zs.length=w
 pos:(Mj 0 w)=true
 by_:P.bytesOf e=m
def ja (n m:Nat):Bool:=decide (n*m<=35184372088832/\n<=35184372088832)
def SQ (b0:Nat) (Q:Exit->Env->AH->Prop):Exit->Env->AH->Prop:=fun x e H=>∃ e0 H0,dW b0 e H e0 H0/\Q x e0 H0
def Ju (b0:Nat) {G:Type} (inv:G->Prop) (slots:G->List (Nat×AV)) (heap:G->AH) (e:Env) (H:AH):Prop:=∃ g,inv g/\dW b0 e H (ak (slots g)) (heap g)
def sumK {S W:Type} (a:Option (S ⊕ W)) (k:S->Option W):Option W:=match a with
 | none=>none
 | some (.inl s)=>k s
 | some (.inr w)=>some w
def Jv {S W:Type} (K:S->Option W) (r:W) (z:S ⊕ W):Prop:=match z with
 | .inl s=>K s=some r
 | .inr w=>w=r
theorem mX {S W:Type} {a:Option (S ⊕ W)} {k:S->Option W} {r:W} (h:sumK a k=some r):∃ K,K=k/\∃ z,a=some z/\Jv K r z:=by
 refine ⟨k,rfl,?_⟩
 cases a with
 | none=>cases h
 | some z=>
  cases z with
  | inl s=>exact ⟨.inl s,rfl,h⟩
  | inr w=>exact ⟨.inr w,rfl,osl h⟩
section
variable {P:Program} {nt b0:Nat} {Q:Exit->Env->AH->Prop} {e e0:Env} {H H' H0:AH} {ops:Array Oper} {o:Oper} {l:List Oper} {r:AV}
theorem T.leaf {x:Code} (h:T P nt b0 x (SQ b0 Q) e H):T P nt b0 x Q e H:=by
 intro hok c c0 a hH hb hx hr;refine wp_mono (h hok c c0 a hH hb hx hr) fun ex a' w' hl=>?_;obtain ⟨hg,c',e',rfl,hx',hs',e1,H1,hs,hq⟩:=hl;obtain ⟨c2,h4,h5,h6,h7⟩:=hs.state hx' hs' hb;exact ⟨hg,c2,e1,h4,h5,h6,h7 ▸ hq⟩
theorem jd {k:Env->AH->Prop} (h:Q .ret e H):EE k Q .ret e H:=h
theorem je {i:Nat} (h:Q .ret e H):CM i Q .ret e H:=h
theorem T.joinF {G:Type} {x y:Code} (inv:G->Prop) (slots:G->List (Nat×AV)) (heap:G->AH)
  (J:∀ g,inv g->T P nt b0 y Q (ak (slots g)) (heap g)) (h:T P nt b0 x (EE (Ju b0 inv slots heap) Q) e H):T P nt b0 (.seq x y) Q e H:=by
 refine T.join (S:=Unit) (fun _=>True) (fun _ g=>inv g) (fun _ g=>slots g) (fun _ g=>heap g) (fun _ g _ hi=>J g hi) ?_;intro hok c c0 a hH hb hx hr;refine wp_mono (h hok c c0 a hH hb hx hr) fun ex a' w' ⟨hg,c',e',hw,hx',hs',hq⟩=>⟨hg,c',e',hw,hx',hs',?_⟩
 cases ex with
 | normal=>obtain ⟨g,h1,h2⟩:=hq;exact ⟨(),g,trivial,h1,h2⟩
 | _=>exact hq
theorem T.clean {x:Code} (hH:H0=H) (hw:za e e0) (h:T P nt b0 x Q e0 H0):T P nt b0 x Q e H:=h.cut (yV hH hw)
theorem uB {α:Type} {q:Bool} {x y:Option α} {r:α} (h:(bif q then x else y)=some r):(q=true/\x=some r)\/(q=false/\y=some r):=by
 cases q
 ·exact .inr ⟨rfl,h⟩
 exact .inl ⟨rfl,h⟩
section
variable {d:Tmp} {op:Op} {ty:TypeId} {pos:String} {af:Array Edge} {en:List (Nat×AV)} {cls:Nat->Nat} {i:Nat} {K:Env->AH->Prop}
theorem oN (h:Kz P (rho (ak en)) op r) (k:TO P nt b0 ops l Q (ak ((d,r)::en)) H):TO P nt b0 ops (⟨some d,op,ty,pos,af,none⟩::l) Q (ak en) H := .run (.free rfl) h.toA k
theorem oA (h:EvA P (rho (ak en)) op H r H') (k:TO P nt b0 ops l Q (ak ((d,r)::en)) H'):TO P nt b0 ops (⟨some d,op,ty,pos,af,none⟩::l) Q (ak en) H := .run (.free rfl) h k
theorem oV (h:EvA P (rho (ak en)) op H r H') (k:TO P nt b0 ops l Q (ak en) H'):TO P nt b0 ops (⟨none,op,ty,pos,af,none⟩::l) Q (ak en) H := .run (.free rfl) h k
theorem gN {j:Nat} {b q:Bool} (hy:fT ops.toList (ak en) j = .v (.bool q)) (hq:q=b) (h:Kz P (rho (ak en)) op r) (k:TO P nt b0 ops l Q (ak ((d,r)::en)) H):TO P nt b0 ops (⟨some d,op,ty,pos,af,some (j,b)⟩::l) Q (ak en) H := .run (.yes rfl hy hq) h.toA k
theorem gA {j:Nat} {b q:Bool} (hy:fT ops.toList (ak en) j = .v (.bool q)) (hq:q=b) (h:EvA P (rho (ak en)) op H r H') (k:TO P nt b0 ops l Q (ak ((d,r)::en)) H'):TO P nt b0 ops (⟨some d,op,ty,pos,af,some (j,b)⟩::l) Q (ak en) H := .run (.yes rfl hy hq) h k
theorem gS {j:Nat} {b q:Bool} (hy:fT ops.toList (ak en) j = .v (.bool q)) (hq:q = !b) (k:TO P nt b0 ops l Q (ak ((d,.tup [])::en)) H):TO P nt b0 ops (⟨some d,op,ty,pos,af,some (j,b)⟩::l) Q (ak en) H := .pass (.no rfl hy hq) k
theorem gU {j:Nat} {b:Bool} (hy:fT ops.toList (ak en) j = .tup []) (k:TO P nt b0 ops l Q (ak ((d,.tup [])::en)) H):TO P nt b0 ops (⟨some d,op,ty,pos,af,some (j,b)⟩::l) Q (ak en) H := .pass (.un rfl hy) k
end
end
section
variable {P:Program} {ρ:Operand->AV} {H:AH} {x y:Operand} {t u e:TypeId} {ag:Bool} {w m:Nat} {zs:List AV}
theorem OpS.res {o:Oper} {H':AH} {r r':AV} (h:OpS P o ρ H r H') (hr:∀ (c:Cx) (v:Value),c.rel r v->c.rel r' v):OpS P o ρ H r' H':=
 fun c a K Q hH hc hxs hK=>h c a K Q hH hc hxs fun v c' h1 h2 h3 h4=>hK v c' h1 h2 h3 (hr c' v h4)
theorem Kz.res {op:Op} {r r':AV} (h:Kz P ρ op r) (hr:∀ (c:Cx) (v:Value),c.rel r v->c.rel r' v):Kz P ρ op r':=fun o ho G=>(h o ho G).res hr
theorem zy {c:Cx} {n:Nat} {row row':Nat->List AV} {v:Value} (he:∀ i,i<n->row i=row' i) (h:c.rel (.sl n row) v):c.rel (.sl n row') v:=by
 have hf:=pu h;refine .fr ?_
 cases hf with
 | @sl _ cap s g o _ a us hc hm ha hs hu2 h1 h3=>
  refine .sl (s:=s) (g:=g) (o:=o) us hc hm ha (fun i hi=>?_) (fun i j a hi hj=>?_) (fun i j a hi hj=>?_) (fun i j a hi hj=>?_)
  ·rw [<- he i hi];exact hs i hi
  ·rw [<- he i hi] at hj;exact hu2 i j a hi hj
  ·rw [<- he i hi] at hj;exact h1 i j a hi hj
  rw [<- he i hi] at hj;exact h3 i j a hi hj
variable {α:Type} {c:α->List AV} {l:List α}
theorem Kz.lenL [Inhabited α] (q:SlT P t e ag w zs m) (hx:ρ x=eL c l):Kz P ρ (.call ⟨.builtin .len,#[x],#[t]⟩) (I l.length):=Kz.lensl q.u hx
theorem Kz.lenO {g:Bool} {b v s n:Nat} (q:SlT P t e ag w zs m) (hx:ρ x=Go.Proofs.YtpkhamajimidnaaGreatDoor.hS g b v s n) (hg:g=true->n=0):Kz P ρ (.call ⟨.builtin .len,#[x],#[t]⟩) (I n):=Kz.lenhS q.u hx hg
theorem Kz.lenZ (q:SlT P t e ag w zs m) (hx:ρ x = .nil):Kz P ρ (.call ⟨.builtin .len,#[x],#[t]⟩) (I 0):=Kz.lennil q.u hx
theorem Kz.ixL [Inhabited α] {k:IntKind} {i:Int} (q:SlT P t e ag w zs m) (hx:ρ x=eL c l) (hy:ρ y = .v (.int k i)) (hi:0<=i/\i<l.length) (hl:∀ x,(c x).length=w):Kz P ρ (.indexAddr t x y) (.fp (c (l.getD i.toNat default)) 0):=
 Kz.ixsl (row:=fun i=>c (l.getD i default)) q.u q.ty hx hy hi (hl _)
theorem Kz.ixO {g:Bool} {b ver n:Nat} {k:IntKind} {i:Int} (q:SlT P t e ag w zs m) (hx:ρ x=Go.Proofs.YtpkhamajimidnaaGreatDoor.hS g b ver w n) (hy:ρ y = .v (.int k i)) (hg:g=true->n=0) (hi:0<=i/\i<n):Kz P ρ (.indexAddr t x y) (.hp b ver w i.toNat 0):=
 Kz.ixhS q.u q.ty hx hy hg hi
theorem CP [Inhabited α] (l:List α) (lo hi i:Nat) (h:i<hi-lo) (h2:hi<=l.length):l.getD (i+lo) default=((l.drop lo).take (hi-lo)).getD i default:=by
 simp only [gdq];rw [List.getElem?_take_of_lt h,List.getElem?_drop,Mv]
theorem Kz.slL [Inhabited α] {lo hi:Option Operand} {a b:Int} (q:SlT P t e ag w zs m) (hx:ρ x=eL c l) (hl:bnd ρ lo 0 a) (hh:bnd ρ hi l.length b) (hq:0<=a/\a<=b/\b<=l.length) (hc:∀ x,(c x).length=w) :
  Kz P ρ (.slice t x lo hi none) (eL c ((l.drop a.toNat).take (b.toNat-a.toNat))):=by
 refine (Kz.slsl (row:=fun i=>c (l.getD i default)) q.u q.ty hx hl hh hq (fun i _=>hc _)).res fun C v hv=>?_;have hn:((l.drop a.toNat).take (b.toNat-a.toNat)).length=b.toNat-a.toNat:=by simp;omega
 unfold Go.Proofs.YtpkhamajimidnaaGreatDoor.eL;rw [hn];exact zy (fun i hi=>by rw [CP l a.toNat b.toNat i hi (by omega)]) hv
theorem vI [Inhabited α] {f:α->List AV} {l:List α} {i:Nat} (h:i<l.length):(l.map f)[i]? = some (f (l.getD i default)):=by
 rw [My,geq h];simp [h]
theorem EvA.ldO (a:AV) [Inhabited α] {g:Bool} {b ver i j n:Nat} {e':TypeId} {w':Nat} (tt:TyF P t ag n) (h:ρ x = .hp b ver w' i j) (hk:H[b]? = some (bE g ver w' e' (l.map c))) (hg:g=true->l=[]) (hi:i<l.length) (hp:uJ ag n (c (l.getD i default)) j=some a):EvA P ρ (.load t x) H a H:=by
 cases g with
 | true=>rw [hg rfl] at hi;cases hi
 | false=>exact EvA.loadhp (k:=⟨ver,w',e',l.map c⟩) a tt h hk rfl rfl (vI hi) hp
theorem EvA.stO (v:α) [Inhabited α] {g:Bool} {b ver i j n:Nat} {e':TypeId} {w':Nat} (tt:TyF P t ag n) (hx:ρ x = .hp b ver w' i j) {cs:List AV} (hy:(ρ y).cells=some cs) (hk:H[b]? = some (bE g ver w' e' (l.map c))) (hg:g=true->l=[]) (hi:i<l.length)
  (hl:cs.length=n) (hj:Mk (j+n) w'=true) (hv:splice (c (l.getD i default)) j cs=c v):EvA P ρ (.store t x y) H .top (H.set b (bE false ver w' e' ((l.set i v).map c))):=by
 cases g with
 | true=>rw [hg rfl] at hi;cases hi
 | false=>exact EvA.store (k:=⟨ver,w',e',l.map c⟩) tt hx hy hk rfl rfl (vI hi) hl (nlb hj) _ (by rw [hv,List.map_set])
theorem EvA.al {b:Nat} (z:TyZ P t zs) (hn:(Mj 0 zs.length)=true) (hb:H.length=b):EvA P ρ (.alloc t) H (.hp b 0 zs.length 0 0) (H++[some ⟨0,zs.length,t,[zs]⟩]):=by
 subst hb;exact EvA.alloc z hn
theorem EvA.st (k':ABlk) {n:Nat} (ty:TyF P t ag n) {b ver s i j:Nat} (hx:ρ x = .hp b ver s i j) {cs:List AV} (hy:(ρ y).cells=some cs) {k:ABlk} (hk:H[b]? = some (some k)) (hv:k.ver=ver) (hs:k.s=s) {row:List AV} (hr:k.rows[i]? = some row)
 (hl:cs.length=n) (hj:Mk (j+n) s=true) (hk':{ k with rows:=k.rows.set i (splice row j cs) }=k'):EvA P ρ (.store t x y) H .top (H.set b (some k')):=EvA.store ty hx hy hk hv hs hr hl (nlb hj) k' hk'
theorem Ip {g:Bool} {n:Nat} {i:Int} (hg:g=true->l=[]) (hn:n=l.length) (h:0<=i/\i<(n:Int)):g=false:=by
 cases g with
 | true=>rw [hg rfl] at hn;subst hn;simp at h;omega
 | false=>rfl
theorem aI {n:Nat} {i:Int} (hn:n=l.length) (h:0<=i/\i<(n:Int)):i.toNat<l.length:=by omega
theorem CQ {g:Bool} {n:Nat} (hg:g=true->l=[]) (hn:n=l.length) (h:g=true):n=0:=by rw [hn,hg h];rfl
theorem xP {n:Nat} (h:ja n m=true):n*m<=35184372088832/\n<=35184372088832:=of_decide_eq_true h
theorem EvA.app1 (v:α) {g:Bool} {b ver n:Nat} (q:SlT P t e ag w zs m) (hv:EC P u=true) (hx:ρ x=Go.Proofs.YtpkhamajimidnaaGreatDoor.hS g b ver w n) (hn:n=l.length) (hk:H[b]? = some (bE g ver w e (l.map c))) (hg:g=true->l=[]) (hsrc:bK P H w (ρ y) [c v]) (hb:ja (l.length+1) m=true) :
  EvA P ρ (.call ⟨.builtin .append,#[x,y],#[t,u]⟩) H (Go.Proofs.YtpkhamajimidnaaGreatDoor.hS false b (ver+1) w (l++[v]).length) (H.set b (bE false (ver+1) w e ((l++[v]).map c))):=by
 subst hn;exact EvA.app q.u hv q.ty q.z q.zl q.pos hx hk (by simp) (fun h=>by rw [hg h];rfl) hsrc q.by_ (xP hb).1 (xP hb).2 (by simp) (by simp)
theorem EvA.appM (k:List α) {g:Bool} {b ver n:Nat} (q:SlT P t e ag w zs m) (hv:EC P u=true) (hx:ρ x=Go.Proofs.YtpkhamajimidnaaGreatDoor.hS g b ver w n) (hn:n=l.length) (hk:H[b]? = some (bE g ver w e (l.map c))) (hg:g=true->l=[]) (hsrc:bK P H w (ρ y) (k.map c)) (hb:ja (l.length+k.length) m=true) :
  EvA P ρ (.call ⟨.builtin .append,#[x,y],#[t,u]⟩) H (Go.Proofs.YtpkhamajimidnaaGreatDoor.hS (g&&k.isEmpty) b (ver+1) w (l++k).length) (H.set b (bE (g&&k.isEmpty) (ver+1) w e ((l++k).map c))):=by
 subst hn;have h:=EvA.appv (P:=P) (ρ:=ρ) (news:=k.map c) q.u hv q.ty q.z q.zl q.pos hx hk (by simp) (fun h=>by rw [hg h];rfl) hsrc q.by_ (by simpa using (xP hb).1) (by simpa using (xP hb).2);have e1:(k.map c).isEmpty=k.isEmpty:=by cases k <;> rfl
 rw [e1,llm,<- lla,<- List.map_append] at h;exact h
theorem EvA.appF (k:List α) {b ver n:Nat} (q:SlT P t e ag w zs m) (hv:EC P u=true) (hx:ρ x=Go.Proofs.YtpkhamajimidnaaGreatDoor.hS false b ver w n) (hn:n=l.length) (hk:H[b]? = some (bE false ver w e (l.map c))) (hsrc:bK P H w (ρ y) (k.map c)) (hb:ja (l.length+k.length) m=true) :
  EvA P ρ (.call ⟨.builtin .append,#[x,y],#[t,u]⟩) H (Go.Proofs.YtpkhamajimidnaaGreatDoor.hS false b (ver+1) w (l++k).length) (H.set b (bE false (ver+1) w e ((l++k).map c))):=
 EvA.appM (g:=false) k q hv hx hn hk nofun hsrc hb
theorem bK.fz [Inhabited α] (hx:ρ y=Go.Proofs.YtpkhamajimidnaaGreatDoor.eL c l) (hc:∀ x,(c x).length=w):bK P H w (ρ y) (l.map c):=by
 rw [hx];exact bK.eL hc
theorem bK.none (hx:ρ y = .nil):bK P H w (ρ y) (([]:List α).map c):=by
 rw [hx];exact bK.nil
theorem EvA.callT {cl:Call} {f:Operand} {g:FuncId} {KQ:List AV} {r:AV} (hc:cl.callee = .value f) (hf:ρ f = .fn (.func g) []) (h:ax P g KQ r) (hz:FzL 0 H (cl.args.toList.map ρ) KQ) (hd:dry 9 r=true):EvA P ρ (.call cl) H r H:=
 EvA.call hc hf (List.append_nil _) (h.tmp hz.spec.1 hz.spec.2 hd)
theorem EvA.mkO (k:List α) (rows:List (List AV)) {b n:Nat} {parts:Array (Nat×Operand)} (q:SlT P t e ag w zs m) (hr:lu (parts.toList.map fun p=>(ρ p.2).cells)=some rows) (hn:(Mj 0 w&&Mk (n*w) 16777216&&(parts.toList.map (·.1)==Ml n))=true) (hk:rows=k.map c) (hc:∀ x,(c x).length=w) (hlen:k.length=n) (hb:H.length=b) :
  EvA P ρ (.buildSlice t n parts) H (Go.Proofs.YtpkhamajimidnaaGreatDoor.hS false b 0 w k.length) (H++[bE false 0 w e (k.map c)]):=by
 have h:=EvA.bslice (P:=P) (ρ:=ρ) (H:=H) q.u q.ty q.z q.zl rows hr hn (by rw [hk,List.all_map,Mi];intro x _;simp [hc]);rw [hlen];subst hk hb;exact h
theorem EvA.mkN (v:α) {bl:Nat} {a b:Int} (q:SlT P t e ag w zs m) (hx:ρ x = .v (.int .i64 a)) (hy:ρ y = .v (.int .i64 b)) (hq:0<=a/\a<=b/\b*(m:Int)<=140737488355328/\b<=140737488355328) (hab:a=b) (hv:zs=c v) (hbl:H.length=bl) :
  EvA P ρ (.makeSlice t x y) H (Go.Proofs.YtpkhamajimidnaaGreatDoor.hS false bl 0 w (Mx a.toNat v).length) (H++[bE false 0 w e ((Mx a.toNat v).map c)]):=by
 have h:=EvA.mslice (P:=P) (ρ:=ρ) (H:=H) q.u q.ty q.z q.zl q.pos hx hy m q.by_ hq;subst hab hbl;rw [List.length_replicate,List.map_replicate,<- hv];exact h
end
section
variable {P:Program} {ρ:Operand->AV} {H:AH} {x y:Operand} {t u e d:TypeId}
theorem Ad {c:Cx} {l:LI} {vs:List Value} (h:xL c 1 (l.map cY) vs):vs=l.map (Value.int .u8):=by
 obtain ⟨h1,h2,h3⟩:=h;apply MH;intro i;rcases MJ i l.length with hlt | hge
 ·have hr:(l.map cY)[i]? = some (cY l[i]):=by rw [My,geq hlt];rfl
  obtain ⟨u,g1,_,g3⟩:=h3 i _ 0 _ hr rfl;obtain ⟨rfl,_⟩:=fS g3;simp only [Nat.mul_one,Nat.add_zero] at g1;rw [g1,My,geq hlt]
  rfl
 have hl:vs.length=l.length:=by simpa using h1
 rw [gen (by omega),gen (by simpa using hge)]
theorem EvA.b2s {l:LI} (hs:P.underlying t=some (.slice e)) (he:P.underlying e=some (.int .u8)) (hd:P.underlying d=some .string) (hsl:∀ (c:Cx) (v:Value),c.rel (ρ x) v->∃ A n cap,v = .slice A n cap) (hsrc:bK P H 1 (ρ x) (l.map cY)) :
  EvA P ρ (.convert t d x) H (St (strOfNums l)) H:=fun o ho c a K Q hH hr hxs hK=>by
 have h1:=hxs x (by rw [ho];simp [Op.operands]);obtain ⟨A,n,cap,hv⟩:=hsl c _ h1;obtain ⟨vs,hvs⟩:=hsrc c _ hH hr h1;rw [hv] at hvs;have hvl:=Ad hvs.is;have hlen:=hvs.len c.w;have hn:n=l.length:=by
  simp [Builtin.lenOf] at hlen;simpa using hlen
 subst hn;have hrun:(Conv.bytesToString (.slice A l.length cap)).run P c.w = .ok (.string (strOfNums l)) c.w:=by
  cases A with
  | none=>
   have hc:=hvs.cells c.w rfl;simp only [Builtin.firstCells,Sem.run_pure] at hc;injection hc with hc;have : vs=[]:=by simpa using congrArg Array.toList hc.symm
   rw [this] at hvl;have : l=[]:=by cases l with | nil=>rfl | cons b l=>cases hvl
   subst this
   rfl
  | some ad=>
   have hc:=hvs.cells c.w rfl;simp only [Builtin.firstCells,llm,Nat.mul_one] at hc;rw [hvl] at hc;rw [run_bytesToString c.w ad l.length cap l hc,foldl_push_bytes];simp [strOfNums,ByteArray.empty,ByteArray.emptyWithCapacity]
   rfl
 unfold Oper.wp;have : (execOp a.eval o).run P c.w = .ok (.value (.string (strOfNums l))) c.w:=by
  rw [execOp,ho];simp only [hv];exact nQ _ ((run_convert_bytes_string c.w t d e A _ cap hs he hd).trans hrun)
 rw [this];exact hK _ c hH hr (Ext.refl c) (bT rfl)
theorem CS {α:Type} [Inhabited α] {f:α->List AV} {l:List α} (hx:ρ x=eL f l):∀ (c:Cx) (v:Value),c.rel (ρ x) v->∃ A n cap,v = .slice A n cap:=fun c v h=>by
 rw [hx] at h;have := pu h
 cases this
 exact ⟨_,_,_,rfl⟩
inductive FzRows (m:Nat) (H:AH):List (List AV)->List (List AV)->Prop
 | nil:FzRows m H [] []
 | cons {a b:List AV} {l k:List (List AV)} (h:FzL m H a b) (t:FzRows m H l k):FzRows m H (a::l) (b::k)
inductive StlRows (m:Nat) (H:AH):List (List AV)->List (List AV)->Prop
 | nil:StlRows m H [] []
 | cons {a b:List AV} {l k:List (List AV)} (h:StlL m H a b) (t:StlRows m H l k):StlRows m H (a::l) (b::k)
theorem StlRows.spec {m:Nat} {l k:List (List AV)} (h:StlRows m H l k):l.length=k.length/\∀ (i:Nat) (c d:List AV),l[i]? = some c->k[i]? = some d->StlL m H c d:=by
 induction h with
 | nil=>exact ⟨rfl,fun i c d h=>by simp at h⟩
 | cons h t ih=>
  refine ⟨by simp [ih.1],fun i c d h1 h2=>?_⟩
  cases i with
  | zero=>
   simp only [Mm,sie] at h1 h2;subst h1 h2;exact h
  | succ i=>exact ih.2 i c d (by simpa using h1) (by simpa using h2)
theorem FzRows.spec {m:Nat} {l k:List (List AV)} (h:FzRows m H l k):l.length=k.length/\∀ (i:Nat) (c d:List AV),l[i]? = some c->k[i]? = some d->FzL m H c d:=by
 induction h with
 | nil=>exact ⟨rfl,fun i c d h=>by simp at h⟩
 | cons h t ih=>
  refine ⟨by simp [ih.1],fun i c d h1 h2=>?_⟩
  cases i with
  | zero=>
   simp only [Mm,sie] at h1 h2;subst h1 h2;exact h
  | succ i=>exact ih.2 i c d (by simpa using h1) (by simpa using h2)
theorem StlRows.same {α:Type} {m:Nat} {f:α->List AV} (hf:∀ x,(f x).all (isF 9)=true):∀ l:List α,StlRows m H (l.map f) (l.map f)
 | [] => .nil
 | a::l=>by
  refine .cons ?_ (StlRows.same hf l);have key:∀ r:List AV,(∀ a∈r,isF 9 a=true)->StlL m H r r:=by
   intro r
   induction r with
   | nil=>exact fun _ => .nil
   | cons b r ih=>exact fun h => .cons (.fz (.of_isF 9 b (h b (by simp)))) (ih fun a ha=>h a (by simp [ha]))
  exact key _ (Mi.1 (hf a))
theorem StlRows.rep {α:Type} [Inhabited α] {m:Nat} {f:α->List AV}:∀ n:Nat,StlRows m H (Mx n [.nil]) ((Mx n ([]:List α)).map (cL f))
 | 0 => .nil
 | n+1 => .cons (.cons (.fz .nil0) .nil) (StlRows.rep n)
theorem StlRows.app {m:Nat} {l k l' k':List (List AV)} (h:StlRows m H l k) (h':StlRows m H l' k'):StlRows m H (l++l') (k++k'):=by
 induction h with
 | nil=>exact h'
 | cons h t ih=>exact .cons h ih
theorem StayB.rows {m:Nat} {g:Bool} {ver s:Nat} {ty:TypeId} {rows xn:List (List AV)} (h:StlRows m H rows xn):StayB m H (bE g ver s ty rows) (bE g ver s ty xn):=by
 cases g with
 | true=>exact .dead
 | false=>exact .same h.spec.1 fun i r r0 hr hr0=>(h.spec.2 i r r0 hr hr0).spec
theorem StayB.snoc {α:Type} {m:Nat} {ver s:Nat} {ty:TypeId} {f:α->List AV} {l k:List α} {r:List (List AV)} (hf:∀ x,(f x).all (isF 9)=true) (h:StlRows m H r (k.map f)):StayB m H (bE false ver s ty (l.map f++r)) (bE false ver s ty ((l++k).map f)):=
 .rows (by rw [List.map_append];exact (StlRows.same hf l).app h)
theorem Fz.rows {α:Type} [Inhabited α] {m b ver s n:Nat} {ty:TypeId} {f:α->List AV} {l:List α} {rows:List (List AV)} (hm:Mk m b=true) (hk:H[b]? = some (bE false ver s ty rows)) (hn:n=rows.length) (h:FzRows m H rows (l.map f)):Fz m H (hS false b ver s n) (eL f l):=by
 obtain ⟨h1,h2⟩:=h.spec;have hl:rows.length=l.length:=by simpa using h1
 subst hn;unfold eL;rw [<- hl];refine .hs (k:=⟨ver,s,ty,rows⟩) (nlb hm) hk rfl rfl (by simp) (fun i r hi hr=>?_) (fun i r j c d hi hr hc hd=>?_)
 ·rw [Mr] at hr;have hi':i<l.length:=by omega
  have := (h2 i r (f (l.getD i default)) hr (vI hi')).spec.1;exact this
 rw [Mr] at hr;have hi':i<l.length:=by omega
 exact (h2 i r (f (l.getD i default)) hr (vI hi')).spec.2 j c d hc hd
theorem EvA.mkZ {ag:Bool} {w m:Nat} {zs:List AV} {bl:Nat} {a b:Int} (q:SlT P t e ag w zs m) (hx:ρ x = .v (.int .i64 a)) (hy:ρ y = .v (.int .i64 b)) (hq:0<=a/\a<=b/\b*(m:Int)<=140737488355328/\b<=140737488355328) (hab:a=b) (hbl:H.length=bl) :
  EvA P ρ (.makeSlice t x y) H (Go.Proofs.YtpkhamajimidnaaGreatDoor.hS false bl 0 w a.toNat) (H++[bE false 0 w e (Mx a.toNat zs)]):=by
 have h:=EvA.mslice (P:=P) (ρ:=ρ) (H:=H) q.u q.ty q.z q.zl q.pos hx hy m q.by_ hq;subst hab hbl;exact h
theorem EvA.appR {ag:Bool} {w m:Nat} {zs:List AV} {g:Bool} {b ver n n':Nat} {rows rows':List (List AV)} {a:List AV} {news:List (List AV)} (q:SlT P t e ag w zs m) (hv:EC P u=true) (hx:ρ x=Go.Proofs.YtpkhamajimidnaaGreatDoor.hS g b ver w n) (hk:H[b]? = some (bE g ver w e rows)) (hn:n=rows.length) (hg:g=true->rows=[])
  (hsrc:bK P H w (ρ y) (a::news)) (hb:ja (n+(a::news).length) m=true) (hr:rows++(a::news)=rows') (hn':n+(a::news).length=n') :
  EvA P ρ (.call ⟨.builtin .append,#[x,y],#[t,u]⟩) H (Go.Proofs.YtpkhamajimidnaaGreatDoor.hS false b (ver+1) w n') (H.set b (bE false (ver+1) w e rows')):=
 EvA.app q.u hv q.ty q.z q.zl q.pos hx hk hn hg hsrc q.by_ (xP hb).1 (xP hb).2 hr hn'
theorem bK.raw {w b ver n:Nat} {ty:TypeId} {rows:List (List AV)} (hx:ρ y=Go.Proofs.YtpkhamajimidnaaGreatDoor.hS false b ver w n) (hk:H[b]? = some (bE false ver w ty rows)) (hn:n=rows.length):bK P H w (ρ y) rows:=by
 rw [hx];exact bK.hS hk hn nofun
theorem EvA.mkR {ag:Bool} {w m:Nat} {zs:List AV} {b n:Nat} {parts:Array (Nat×Operand)} (rows:List (List AV)) (q:SlT P t e ag w zs m) (hr:lu (parts.toList.map fun p=>(ρ p.2).cells)=some rows) (hn:(Mj 0 w&&Mk (n*w) 16777216&&(parts.toList.map (·.1)==Ml n))=true)
  (hl:rows.all (fun row=>row.length==w)=true) (hb:H.length=b):EvA P ρ (.buildSlice t n parts) H (Go.Proofs.YtpkhamajimidnaaGreatDoor.hS false b 0 w n) (H++[bE false 0 w e rows]):=by
 subst hb;exact EvA.bslice q.u q.ty q.z q.zl rows hr hn hl
def nilK {α:Type} (e:Bool) (A B:Option α):Option α:=open Classical in bif e then (if A=B then A else none) else B
theorem CU {α:Type} {e:Bool} {A B:Option α} {r:α} (h:nilK e A B=some r):(e=true->A=some r)/\B=some r:=by
 unfold nilK at h
 cases e with
 | true=>
  simp only [cond_true] at h
  split at h
  ·rename_i he;exact ⟨fun _=>h,he ▸ h⟩
  cases h
 | false=>exact ⟨nofun,h⟩
end
section
variable {P:Program} {ρ:Operand->AV} {H:AH} {x y:Operand} {t u e d:TypeId}
theorem EO.settle {o:Oper} {k:ABlk} {r r0:AV} (h:EO P o ρ H k r) (hz:Fz H.length (H++[some k]) r r0):OpS P o ρ H r0 H:=by
 intro c a K Q hH hr hx hK;obtain ⟨cs,v,h1,h2,h3⟩:=h c a hH hr hx;subst hH;let c':=c.new k cs;have hsz:c'.w.heap.size=c.w.heap.size+1:=by simp [c',Cx.new]
 have hnew:∀ g,c'.all c.H.length g↔c.fz g\/g=c.w.heap.size:=by
  intro g
  constructor
  ·rintro (hg | ⟨b,k',hb,hl,rfl⟩)
   ·exact .inl hg
   rcases Cx.new_live hl with ⟨rfl,_⟩ | ⟨hlt,_⟩
   ·exact .inr (by simp [c',Cx.new])
   omega
  rintro (hg | rfl)
  ·exact .inl hg
  exact .inr ⟨c.H.length,k,Mo _,Cx.new_live_new c k cs,by simp [c',Cx.new]⟩
 let c2:Cx:={ w:=c'.w,fz:=c'.all c.H.length,H:=c.H,φ:=c.φ };have hkeep:∀ g,g<c.w.heap.size->c2.w.heap[g]? = c.w.heap[g]? := fun g hg=>Below.heap_alloc _ _ _ hg;have hx2:Ext c c2:=by
  refine ⟨rfl,rfl,rfl,by show _<=c'.w.heap.size;omega,fun g hg _=>hkeep g hg,fun g hg => .inl hg,fun g hg=>?_,Mo _,fun _ _ h=>h,fun b ver y hb hy=>?_,fun b k' hl => .inr ⟨b,k',hl,rfl⟩⟩
  ·rcases (hnew g).1 hg with hg | rfl
   ·exact .inl hg
   exact .inr (.inl (Mo _))
  obtain ⟨k',hl,rfl,o',hc,hx'⟩:=Cx.hd_some hy;have hl':c.live b k':=hl;exact (Cx.hd_of hl' (by rw [<- hkeep _ (hr.live_lt hl')];exact hc)).trans hx'
 have hr2:HRel c2:=by
  refine ⟨fun g hg=>Cx.all_lt h2 hg,fun b k' hl=>?_,hr.inj,hr.glx hx2⟩;have hl':c.live b k':=hl;obtain ⟨cs',fr,hB⟩:=hr.blk b k' hl';refine ⟨cs',fr,⟨(hkeep _ (hr.live_lt hl')).trans hB.at_,fun hz=>?_,hB.pos,hB.free,hB.fits,hB.len,fun i row j a' g1 g2=>?_⟩⟩
  ·rcases (hnew _).1 hz with hz | hz
   ·exact hB.nf hz
   have := hr.live_lt hl';have e1:(c2.φ b).1=(c.φ b).1:=rfl;omega
  obtain ⟨u,g3,g4,g5⟩:=hB.rel i row j a' g1 g2;exact ⟨u,g3,g4,g5.ext hr hx2⟩
 unfold Oper.wp;rw [h1];exact hK v c2 rfl hr2 hx2 (.fr (Fz.sound (c:=c') h2 hz v h3))
theorem Kz.newF {op:Op} {r0:AV} (k:ABlk) (r:Nat->AV) (h:∀ o:Oper,o.op=op->∀ G,EO P o ρ G k (r G.length)) (hz:∀ (m:Nat) (G:AH),G.length=m->Fz m (G++[some k]) (r m) r0):Kz P ρ op r0:=fun o ho G=>(h o ho G).settle (hz _ G rfl)
theorem Kz.bxF (cs:List AV) (hx:(ρ x).cells=some cs) (hn:(Mj 0 cs.length)=true) (hF:cs.all (isF 9)=true):Kz P ρ (.box t x) (.fp cs 0):=
 .newF ⟨0,cs.length,t,[cs]⟩ (fun n => .hp n 0 cs.length 0 0) (fun _ ho _=>AU ho hx (nlb hn)) fun m G hG=>by
  refine .hp (k:=⟨0,cs.length,t,[cs]⟩) (r:=cs) (Mo _) (by rw [<- hG];simp) rfl rfl rfl rfl fun j c d hc hd=>?_;obtain ⟨rfl,hm⟩:=dS hc hd;exact .of_isF 9 _ (Mi.1 hF _ hm)
theorem Kz.mkF {α:Type} [Inhabited α] {c:α->List AV} {ag:Bool} {w m:Nat} {zs:List AV} {n:Nat} {parts:Array (Nat×Operand)} (k:List α) (rows:List (List AV)) (q:SlT P t e ag w zs m) (hr:lu (parts.toList.map fun p=>(ρ p.2).cells)=some rows) (hn:(Mj 0 w&&Mk (n*w) 16777216&&(parts.toList.map (·.1)==Ml n))=true) (hk:rows=k.map c) (hc:∀ x,(c x).length=w) (hF:∀ x,(c x).all (isF 9)=true) (hlen:k.length=n) :
  Kz P ρ (.buildSlice t n parts) (eL c k):=by
 subst hk;simp only [bae,beq_iff_eq] at hn;have hz:=Io q.z (q.zl.trans q.ty.cells.symm);refine .newF ⟨0,P.cellsOf e,e,k.map c⟩ (fun b => .hs b 0 (P.cellsOf e) 0 n) (fun o ho G=>pz ho q.u hr (by rw [q.ty.cells];exact nlb hn.1.1) (by rw [q.ty.cells];exact nlb hn.1.2) hn.2 hz q.z.one (fun row hrow=>by
  obtain ⟨x,_,rfl⟩:=MM.1 hrow;rw [hc,q.ty.cells])) fun m G hG=>?_
 exact Fz.own (g:=false) (ver:=0) (l:=k) (f:=c) (ty:=e) (MU (Mo _)) (by rw [<- hG];simp [bE]) hlen.symm nofun hF
theorem li.mkT {f:FuncId} {fn:Func} {body:Code} {KQ:List AV} {H':AH} {r:AV} (hf:P.funcs[f]? = some fn) (hb:fn.body=some body) (hcall:gy P f=true) (hn:Mk KQ.length fn.ntmps=true)
 (hok:codeOk fn.ntmps body=true) {e0:Env} (hw:za (FP KQ) e0) (h:T P fn.ntmps H.length body (SQ H.length (Fin P fn fun r0 G=>r0=r/\G=H')) e0 H):li P f KQ H r H':=(dX.mkT hf hb hcall hn hok hw h.leaf).acall
theorem aR {S:Nat->Nat->Prop}:∀ (n:Nat) (a:AV),isF n a=true->Ren S a a
 | 0,_,h=>by cases h
 | n+1,a,h=>by
  cases a with
  | v x=>exact .v
  | nil=>exact .nil
  | sl k row=>exact .sl
  | fp row j=>exact .fp
  | agg cs=>
   simp only [isF,Mi] at h;exact .agg rfl (fun i c d hc hd=>by obtain ⟨rfl,hm⟩:=dS hc hd;exact aR n _ (h _ hm))
  | tup cs=>
   simp only [isF,Mi] at h;exact .tup rfl (fun i c d hc hd=>by obtain ⟨rfl,hm⟩:=dS hc hd;exact aR n _ (h _ hm))
  | fn f cs=>
   simp only [isF,Mi] at h;exact .fn rfl (fun i c d hc hd=>by obtain ⟨rfl,hm⟩:=dS hc hd;exact aR n _ (h _ hm))
  | ifc t x=>
   simp only [isF] at h;exact .ifc (aR n x h)
  | hs b q s o l=>cases h
  | hp b q s i j=>cases h
  | mp b s=>cases h
  | top=>cases h
def rV (k:ABlk):Prop:=∀ r∈k.rows,∀ a∈r,isF 9 a=true
theorem RenK.ofF {S:Nat->Nat->Prop} {k:ABlk} (h:rV k):RenK S k k:=⟨rfl,rfl,rfl,rfl,fun i r r' hr hr'=>by
 obtain ⟨rfl,hm⟩:=dS hr hr';exact ⟨rfl,fun j a a' ha ha'=>by
  obtain ⟨rfl,hm2⟩:=dS ha ha';exact aR 9 a (h r hm a hm2)⟩⟩
inductive RenL (S:Nat->Nat->Prop):List AV->List AV->Prop
 | nil:RenL S [] []
 | cons {a b:AV} {l k:List AV} (h:Ren S a b) (t:RenL S l k):RenL S (a::l) (b::k)
theorem RenL.spec {S:Nat->Nat->Prop} {l k:List AV} (h:RenL S l k):l.length=k.length/\∀ (i:Nat) (c d:AV),l[i]? = some c->k[i]? = some d->Ren S c d:=by
 induction h with
 | nil=>exact ⟨rfl,fun i c d h=>by simp at h⟩
 | cons h t ih=>
  refine ⟨by simp [ih.1],fun i c d h1 h2=>?_⟩
  cases i with
  | zero=>
   simp only [Mm,sie] at h1 h2;subst h1 h2;exact h
  | succ i=>exact ih.2 i c d (by simpa using h1) (by simpa using h2)
theorem li.one {f:FuncId} {as0 KQ:List AV} {r:AV} {k k':ABlk} (h:li P f as0 [some k] r [some k']) (b:Nat) (hb:H[b]? = some (some k)) (has:RenL (fun c i=>[b][i]? = some c) KQ as0) (hk:rV k) (hk':rV k') (hr:isF 9 r=true) :
  li P f KQ H r (H.set b (some k')):=by
 have hlt:b<H.length:=(ges hb).1;refine h.frame [b] (by simp) rfl (fun i c hi=>?_) has.spec.1 has.spec.2 ⟨by simp,by simp,fun i c hi hs hn=>?_,fun i c k0 hs hg=>?_,fun c hc hni=>?_⟩ (aR 9 r hr)
 ·cases i with
  | zero=>
   simp only [Mm,sie] at hi;subst hi;exact ⟨k,k,hb,rfl,.ofF hk⟩
  | succ i=>simp at hi
 ·cases i with
  | zero=>simp at hn
  | succ i=>simp at hi
 ·cases i with
  | zero=>
   simp only [Mm,sie] at hg;subst hg;have hc:c=b:=by
    rcases hs with hs | ⟨hs,_⟩
    ·simpa using hs.symm
    simp at hs
   subst hc;exact ⟨k',by simp [hlt],.ofF hk'⟩
  | succ i=>simp at hg
 rw [Ms];intro e;exact hni (by simp [e])
theorem CV {ver s:Nat} {ty:TypeId} {r:List AV} (h:r.all (isF 9)=true):rV ⟨ver,s,ty,[r]⟩:=fun q hq a ha=>by
 simp only [List.mem_singleton] at hq;subst hq;exact Mi.1 h a ha
open Classical in
def Ae {α:Type} (f:Nat->Option α):Option α:=if h:∃ r,∃ N,∀ n,N<=n->f n=some r then some h.choose else none
theorem nC {α:Type} {f:Nat->Option α} {r:α} (h:Ae f=some r):∃ n,f n=some r:=by
 unfold Ae at h
 split at h
 ·rename_i hx;injection h with h;obtain ⟨N,hN⟩:=hx.choose_spec;exact ⟨N,h ▸ hN N (Mo _)⟩
 cases h
theorem CX {α:Type} {f:Nat->Option α} {r:α} (N:Nat) (h:∀ n,N<=n->f n=some r):Ae f=some r:=by
 have hx:∃ r,∃ N,∀ n,N<=n->f n=some r:=⟨r,N,h⟩;unfold Ae;rw [dif_pos hx];obtain ⟨M,hM⟩:=hx.choose_spec;have h1:=hM (max M N) (by omega);have h2:=h (max M N) (by omega);rw [h1] at h2;exact h2
theorem Fz.fpL {m b ver s i j:Nat} {ty:TypeId} {rows:List (List AV)} {r row':List AV} (hm:Mk m b=true) (hk:H[b]? = some (some ⟨ver,s,ty,rows⟩)) (hi:rows[i]? = some r) (h:FzL m H r row'):Fz m H (.hp b ver s i j) (.fp row' j):=
 .hp (nlb hm) hk rfl rfl hi h.spec.1 h.spec.2
end
def agree (F:List Nat) (G H:AH):Prop:=G.length=H.length/\∀ b∈F,G[b]? = H[b]?
def mU (P:Program) (o:Oper) (ρ:Operand->AV) (H:AH) (r:AV) (H':AH) (F:List Nat):Prop:=
 H'.length=H.length/\(∀ b,b∉F->H'[b]? = H[b]?)/\∀ G,agree F G H->∃ G',G'.length=G.length/\(∀ b∈F,G'[b]? = H'[b]?)/\(∀ b,b∉F->G'[b]? = G[b]?)/\OpS P o ρ G r G'
section
variable {P:Program} {o:Oper} {ρ:Operand->AV} {H H':AH} {r:AV} {F:List Nat}
theorem mU.op (h:mU P o ρ H r H' F):OpS P o ρ H r H':=by
 obtain ⟨h1,h2,h3⟩:=h;obtain ⟨G',g1,g2,g3,g4⟩:=h3 H ⟨rfl,fun _ _=>rfl⟩;have : G'=H':=by
  apply MH;intro b
  by_cases hb:b∈F
  ·exact g2 b hb
  rw [g3 b hb,h2 b hb]
 exact this ▸ g4
theorem mU.congr {ρ':Operand->AV} (h:mU P o ρ H r H' F) (he:∀ x∈o.op.operands,ρ x=ρ' x):mU P o ρ' H r H' F:=by
 obtain ⟨h1,h2,h3⟩:=h;refine ⟨h1,h2,fun G hG=>?_⟩;obtain ⟨G',g1,g2,g3,g4⟩:=h3 G hG;exact ⟨G',g1,g2,g3,g4.congr he⟩
theorem mU.at_ {G:AH} (h:mU P o ρ H r H' F) (hG:agree F G H):∃ G',G'.length=G.length/\(∀ b∈F,G'[b]? = H'[b]?)/\(∀ b,b∉F->G'[b]? = G[b]?)/\mU P o ρ G r G' F:=by
 obtain ⟨h1,h2,h3⟩:=h;obtain ⟨G',g1,g2,g3,g4⟩:=h3 G hG;refine ⟨G',g1,g2,g3,g1,g3,fun K hK=>?_⟩;obtain ⟨K',k1,k2,k3,k4⟩:=h3 K ⟨hK.1.trans hG.1,fun b hb=>(hK.2 b hb).trans (hG.2 b hb)⟩;exact ⟨K',k1,fun b hb=>(k2 b hb).trans (g2 b hb).symm,k3,k4⟩
abbrev Fp:=List Nat×Bool
def lC (a b:Fp):Bool:=a.1.all (fun x => !b.1.contains x)||(!a.2 && !b.2)
def EF (P:Program) (ops:Array Oper) (fp:Nat->Fp) (Q:Env->AH->Prop):Nat->Array Bool->Env->AH->Prop
 | 0,listed,e,H=>Region.ready .any ops listed=[]/\Q e H
 | fuel+1,listed,e,H=>(Region.ready .any ops listed=[]->Q e H) /\
  ∀ i∈Region.ready .any ops listed,∃ o r H',ops[i]? = some o/\mU P o (rho e) H r H' (fp i).1/\((fp i).2=false->H'=H)/\EF P ops fp Q fuel (listed.setIfInBounds i true) (rG e o.dst r) H'
theorem BP {ops:Array Oper} {fp:Nat->Fp} {Q:Env->AH->Prop} {i:Nat} {oi:Oper} {r:AV} (hi:ops[i]? = some oi) :
  ∀ (fuel:Nat) (listed:Array Bool) (e:Env) (H Hi:AH),
   (∀ (j:Nat) (oj:Oper),ops[j]? = some oj->j≠i->listed.getD j true=false->(∀ ed∈oj.after,Region.binds .any ed=true->ed.on≠i)->oi.apart ops oj=true/\lC (fp i) (fp j)=true) ->
   i∈Region.ready .any ops listed->mU P oi (rho e) H r Hi (fp i).1->((fp i).2=false->Hi=H)->EF P ops fp Q fuel (listed.setIfInBounds i true) (rG e oi.dst r) Hi->EF P ops fp Q (fuel+1) listed e H:=by
 intro fuel
 induction fuel with
 | zero=>
  intro listed e H Hi _ hr hy hro hA;refine ⟨fun h=>(by rw [h] at hr;cases hr),fun j hj=>?_⟩
  by_cases hji:j=i
  ·subst hji;exact ⟨oi,r,Hi,hi,hy,hro,hA⟩
  have := ready_mono hj hji;rw [hA.1] at this
  cases this
 | succ fuel ih=>
  intro listed e H Hi hfree hr hy hro hA;refine ⟨fun h=>(by rw [h] at hr;cases hr),fun j hj=>?_⟩
  by_cases hji:j=i
  ·subst hji;exact ⟨oi,r,Hi,hi,hy,hro,hA⟩
  obtain ⟨oj,q,Hj,hoj,hsj,hroj,hAj⟩:=hA.2 j (ready_mono hj hji);obtain ⟨hjun,oj',hoj',hall⟩:=mem_ready.1 hj;rw [hoj] at hoj';injection hoj' with hoj';subst hoj';have hnot:∀ ed∈oj.after,Region.binds .any ed=true->ed.on≠i:=fun ed he hb heq=>by
   have h1:=hall ed he hb;have h0:=(mem_ready.1 hr).1;rw [heq] at h1;rcases MJ i listed.size with h' | h'
   ·simp [h'] at h0 h1;rw [h0] at h1;cases h1
   simp [MR h'] at h1
  obtain ⟨hap,hcm⟩:=hfree j oj hoj hji hjun hnot;obtain ⟨h1,h2,h3⟩:=Oper.apart_spec hap;have ej:=rS (e:=e) (r:=r) h1;have ei:=rS (e:=e) (oi:=oj) (r:=q) h3;have hsj':=hsj.congr ej;have hfree':∀ (k:Nat) (ok:Oper),ops[k]? = some ok->k≠i->(listed.setIfInBounds j true).getD k true=false->(∀ ed∈ok.after,Region.binds .any ed=true->ed.on≠i)->oi.apart ops ok=true/\lC (fp i) (fp k)=true:=fun k ok hk hki hun hno=>by
   refine hfree k ok hk hki ?_ hno
   by_cases hjk:j=k
   ·subst hjk;exact hjun
   rw [getD_set_ne true hjk] at hun;exact hun
  have fin:∀ Hj',mU P oj (rho e) H q Hj' (fp j).1->((fp j).2=false->Hj'=H)->mU P oi (rho e) Hj' r Hj (fp i).1->((fp i).2=false->Hj=Hj')->∃ o r' H',ops[j]? = some o/\mU P o (rho e) H r' H' (fp j).1/\((fp j).2=false->H'=H)/\EF P ops fp Q (fuel+1) (listed.setIfInBounds j true) (rG e o.dst r') H':=fun Hj' s1 s1' s2 s2'=>by
   refine ⟨oj,q,Hj',hoj,s1,s1',ih (listed.setIfInBounds j true) (rG e oj.dst q) Hj' Hj hfree' (ready_mono hr (Ne.symm hji)) (s2.congr fun x hx=>(ei x hx).symm) s2' ?_⟩;rw [Array.setIfInBounds_comm _ _ hji,wC (fun d hd=>fun hd'=>h2 d (by simpa using hd') (by simpa using hd))];exact hAj
  simp only [lC,Bool.or_eq_true,bae,Bool.not_eq_true',Mi,List.contains_eq_mem,decide_eq_false_iff_not] at hcm;rcases hcm with hdis | ⟨w1,w2⟩
  ·have hag:agree (fp j).1 H Hi:=⟨hy.1.symm,fun b hb=>(hy.2.1 b (fun hbi=>hdis b hbi hb)).symm⟩;obtain ⟨Hj',a1,a2,a3,a4⟩:=hsj'.at_ hag;have hag2:agree (fp i).1 Hj' H:=⟨a1,fun b hb=>a3 b (hdis b hb)⟩;obtain ⟨K,b1,b2,b3,b4⟩:=hy.at_ hag2;have hKH:K=Hj:=by
    apply MH;intro b
    by_cases hbi:b∈(fp i).1
    ·rw [b2 b hbi,hsj'.2.1 b (hdis b hbi)]
    rw [b3 b hbi]
    by_cases hbj:b∈(fp j).1
    ·exact a2 b hbj
    rw [a3 b hbj,hsj'.2.1 b hbj,hy.2.1 b hbi]
   subst hKH;refine fin Hj' a4 (fun hw=>?_) b4 (fun hw=>?_)
   ·apply MH;intro b
    by_cases hbj:b∈(fp j).1
    ·rw [a2 b hbj,hroj hw,hy.2.1 b (fun hbi=>hdis b hbi hbj)]
    exact a3 b hbj
   apply MH;intro b
   by_cases hbi:b∈(fp i).1
   ·rw [b2 b hbi,hro hw,a3 b (hdis b hbi)]
   exact b3 b hbi
  obtain rfl:=hro w1;obtain rfl:=hroj w2;exact fin _ hsj' (fun _=>rfl) hy (fun _=>rfl)
def Jf (ops:Array Oper) (fp:Nat->Fp):Bool:=
 Region.lexB .any ops&&ops.all (fun o=>o.guard.isNone) &&
 (Ml ops.size).all fun i=>(Ml ops.size).all fun j=>decide (j<=i)||lC (fp i) (fp j)||match ops[j]? with
  | some oj=>oj.after.any fun ed=>Region.binds .any ed&&ed.on==i
  | none=>true
def TF (P:Program) (fp:Nat->Fp):Nat->List Oper->(Env->AH->Prop)->Env->AH->Prop
 | _,[],K,e,H=>K e H
 | k,o::rest,K,e,H=>∃ r H',mU P o (rho e) H r H' (fp k).1/\((fp k).2=false->H'=H)/\TF P fp (k+1) rest K (rG e o.dst r) H'
theorem CY {ops:Array Oper} {fp:Nat->Fp} {Q:Env->AH->Prop} (hc:Jf ops fp=true):∀ (l:List Oper) (k:Nat) (listed:Array Bool) (e:Env) (H:AH),(∀ j,l[j]? = ops[k+j]?)->listed.size=ops.size->(∀ j,j<k->listed.getD j true=true) ->
  Region.lexFrom .any ops l.length k listed=true->TF P fp k l Q e H->EF P ops fp Q l.length listed e H
 | [],k,listed,e,H,_,_,_,hB,h=>⟨by simpa [Region.lexFrom] using hB,h⟩
 | o::l,k,listed,e,H,hl,hsz,hbef,hB,h=>by
  have h0:ops[k]? = some o:=by simpa using (hl 0).symm
  have hk:k<ops.size:=(MO.1 h0).1;simp only [llc,Region.lexFrom,bae] at hB;obtain ⟨⟨hr,hf⟩,hB'⟩:=hB;obtain ⟨r,H',hs,hro,hK⟩:=h;refine BP h0 l.length listed e H H' (fun j oj hj hne hun hno=>⟨Region.free_spec h0 hf j oj hj hne hun hno,?_⟩) (by simpa using hr) hs hro
   (CY hc l (k+1) _ _ _ (fun j=>by have := hl (j+1);simpa [MG,Mv 1 j] using this) (by simpa using hsz) (fun j hj=>?_) hB' hK)
  ·have hjs:j<ops.size:=(MO.1 hj).1;have hkj : ¬ j<=k:=fun hle=>by
    have := hbef j (by omega);rw [this] at hun
    cases hun
   simp only [Jf,bae,Mi,List.mem_range] at hc;have := hc.2 k hk j hjs;simp only [hj,Bool.or_eq_true,dte,hkj,false_or] at this;rcases this with h1 | h1
   ·exact h1
   rw [Array.any_eq_true'] at h1;obtain ⟨ed,h2,h3⟩:=h1;simp only [bae,beq_iff_eq] at h3;exact absurd h3.2 (hno ed h2 h3.1)
  by_cases e:j=k
  ·subst e;simp [hsz,hk]
  rw [getD_set_ne true (Ne.symm e)];exact hbef j (by omega)
theorem tE {nt:Nat} {ops:Array Oper} {fp:Nat->Fp} {Q:Exit->Env->AH->Prop} (hd:CI nt ops.toList=true) (hg:ops.all (fun o=>o.guard.isNone)=true):∀ (fuel:Nat) (listed:Array Bool) (e:Env) (H:AH),EF P ops fp (Q .normal) fuel listed e H ->
  ∀ (c c0:Cx) (a:Act),c.H=H->Ext c0 c->SRel c nt e a->wpAny P .any ops (Ih nt c0 Q) fuel listed a c.w
 | 0,listed,e,H,h,c,c0,a,hH,hx,hs=>⟨h.1,trivial,c,e,rfl,hx,hs,hH ▸ h.2⟩
 | fuel+1,listed,e,H,h,c,c0,a,hH,hx,hs=>by
  refine ⟨fun hr=>⟨trivial,c,e,rfl,hx,hs,hH ▸ h.1 hr⟩,fun i hi=>?_⟩;obtain ⟨o,r,H',ho,hst,_,hA⟩:=h.2 i hi;have hm:o∈ops.toList:=by rw [ME];exact MF ho
  have hgn:o.guard=none:=by
   rw [Array.all_eq_true] at hg;obtain ⟨hlt,rfl⟩:=MO.1 ho;simpa using hg i hlt
  have hw:Region.wanted o (yielded ops a.tmps)=true:=by simp [Region.wanted,hgn]
  unfold wpOp;simp only [ho];rw [if_pos hw];refine .inl (hst.op c a _ _ hH hs.heap (fun x _=>hs.rho x) fun v c' hH' hr' hx' hv=>?_);exact tE hd hg fuel _ _ H' hA c' c0 _ hH' (hx.trans hx') (hs.put o.dst (mG hd hm) hx' hr' hv)
end
section
variable {P:Program} {nt b0:Nat} {Q:Exit->Env->AH->Prop} {e:Env} {H H':AH} {r:AV}
theorem T.drawF {i:Nat} {ops:Array Oper} (fp:Nat->Fp) (hm:P.follows .mixedOrders=true) (hc:Jf ops fp=true) (h:TF P fp 0 ops.toList (Q .normal) e H):T P nt b0 (.region i ops true) Q e H:=by
 intro hok c c0 a hH hb hx hs;simp only [codeOk] at hok;have hc':=hc;simp only [Jf,bae,Region.lexB] at hc';refine wp_region_any hm ?_;have hlex:=CY hc ops.toList 0 (MN ops.size false) e H (fun j=>by simp) (by simp) (fun j hj=>absurd hj (by omega)) (by simpa using hc'.1.1.2) h;have := tE hok hc'.1.2 ops.toList.length _ e H hlex c.drew c0 a hH (hx.trans c.drew_ext) ⟨hs.size,hs.defers,fun t=>(hs.rel t).ext hs.heap c.drew_ext,Cx.drew_rel hs.heap⟩;rw [MV] at this;exact this
variable {d:Tmp} {op:Op} {ty:TypeId} {pos:String} {af:Array Edge} {en:List (Nat×AV)} {fp:Nat->Fp} {i:Nat} {K:Env->AH->Prop} {l:List Oper}
theorem TF.nil {k:Nat} (h:K e H):TF P fp k [] K e H:=h
theorem Af {o:Oper} {ρ:Operand->AV} (hv:Kz P ρ o.op r):mU P o ρ H r H []:=⟨rfl,fun _ _=>rfl,fun G _=>⟨G,rfl,fun _ h=>(by cases h),fun _ _=>rfl,hv o rfl G⟩⟩
theorem Ag {o:Oper} {ρ:Operand->AV} {F:List Nat} (hv:∀ G,agree F G H->EvA P ρ o.op G r G):mU P o ρ H r H F:=⟨rfl,fun _ _=>rfl,fun G hG=>⟨G,rfl,hG.2,fun _ _=>rfl,hv G hG o rfl⟩⟩
theorem CZ {o:Oper} {ρ:Operand->AV} {F:List Nat} (b:Nat) (X:Option ABlk) (hb:b<H.length) (hv:∀ G,agree (b::F) G H->EvA P ρ o.op G r (G.set b X)):mU P o ρ H r (H.set b X) (b::F):=by
 refine ⟨by simp,fun c hc=>Ms (fun h=>hc (by simp [h])),fun G hG=>⟨G.set b X,by simp,fun c hc=>?_,fun c hc=>Ms (fun h=>hc (by simp [h])),hv G hG o rfl⟩⟩
 by_cases e:c=b
 ·subst e;rw [MK (by rw [hG.1];exact hb),MK hb]
 rw [Ms (Ne.symm e),Ms (Ne.symm e)];exact hG.2 c hc
theorem fN (hc:fp i=([],false)) (hv:Kz P (rho (ak en)) op r) (h:TF P fp (i+1) l K (ak ((d,r)::en)) H):TF P fp i (⟨some d,op,ty,pos,af,none⟩::l) K (ak en) H:=
 ⟨r,H,by rw [hc];exact Af hv,fun _=>rfl,h⟩
theorem fR (F:List Nat) (hc:fp i=(F,false)) (hv:∀ G,agree F G H->EvA P (rho (ak en)) op G r G) (h:TF P fp (i+1) l K (ak ((d,r)::en)) H):TF P fp i (⟨some d,op,ty,pos,af,none⟩::l) K (ak en) H:=
 ⟨r,H,by rw [hc];exact Ag hv,fun _=>rfl,h⟩
theorem fW (b:Nat) (F:List Nat) {X:Option ABlk} (hc:fp i=(b::F,true)) (hb:Mj b H.length=true) (hv:∀ G,agree (b::F) G H->EvA P (rho (ak en)) op G r (G.set b X)) (h:TF P fp (i+1) l K (ak ((d,r)::en)) (H.set b X)):TF P fp i (⟨some d,op,ty,pos,af,none⟩::l) K (ak en) H:=
 ⟨r,H.set b X,by rw [hc];exact CZ b X (nlb hb) hv,fun h=>(by rw [hc] at h;cases h),h⟩
theorem fV (b:Nat) (F:List Nat) {X:Option ABlk} (hc:fp i=(b::F,true)) (hb:Mj b H.length=true) (hv:∀ G,agree (b::F) G H->EvA P (rho (ak en)) op G r (G.set b X)) (h:TF P fp (i+1) l K (ak en) (H.set b X)):TF P fp i (⟨none,op,ty,pos,af,none⟩::l) K (ak en) H:=
 ⟨r,H.set b X,by rw [hc];exact CZ b X (nlb hb) hv,fun h=>(by rw [hc] at h;cases h),h⟩
theorem agree.a0 {b:Nat} {F:List Nat} {G:AH} (h:agree (b::F) G H) {x:Option ABlk} (hx:H[b]? = some x):G[b]? = some x:=(h.2 b (by simp)).trans hx
theorem agree.a1 {b c:Nat} {F:List Nat} {G:AH} (h:agree (c::b::F) G H) {x:Option ABlk} (hx:H[b]? = some x):G[b]? = some x:=(h.2 b (by simp)).trans hx
theorem agree.a2 {a b c:Nat} {F:List Nat} {G:AH} (h:agree (a::c::b::F) G H) {x:Option ABlk} (hx:H[b]? = some x):G[b]? = some x:=(h.2 b (by simp)).trans hx
end
section
variable {P:Program} {ρ:Operand->AV} {H:AH} {x y:Operand} {t e:TypeId}
theorem FRel.move {w w':World} {fz fz':Nat->Prop} {a:AV} {v:Value} (h:FRel w fz a v) (hf:∀ g,fz g->w'.heap[g]? = w.heap[g]? /\ fz' g/\g<w'.heap.size):FRel w' fz' a v:=by
 induction h with
 | v h=>exact .v h
 | agg hl h1 _ ih=>exact .agg hl h1 ih
 | tup hl _ ih=>exact .tup hl ih
 | nil=>exact .nil
 | @sl n cap s g o row a us hc hm ha hr hu h1 _ ih=>
  refine .sl (g:=g) (o:=o) us hc hm (fun hn=>?_) hr (fun i j c hi hj=>?_) h1 ih
  ·obtain ⟨e,hg,hlt⟩:=ha hn;exact ⟨e,(hf g hg).2.1,(hf g hg).2.2⟩
  obtain ⟨_,hg,hlt⟩:=ha (by omega);rw [World.cell?_of_block (w:=w) (hf g hg).1];exact hu i j c hi hj
 | @fp row j g o us hg hlt hu h1 _ ih=>
  refine .fp us (hf g hg).2.1 (hf g hg).2.2 (fun j c hj=>?_) h1 ih;rw [World.cell?_of_block (w:=w) (hf g hg).1];exact hu j c hj
 | ifc _ ih=>exact .ifc ih
 | fn hl _ ih=>exact .fn hl ih
theorem EO.at_ {o:Oper} {k:ABlk} {r r0:AV} {b:Nat} (h:EO P o ρ H k r) (hb:H[b]? = some none) (hF:rV k) (hr0:(∃ n,r = .hs H.length k.ver k.s 0 n/\r0 = .hs b k.ver k.s 0 n)\/∃ i j,r = .hp H.length k.ver k.s i j/\r0 = .hp b k.ver k.s i j):OpS P o ρ H r0 (H.set b (some k)):=by
 intro c a K Q hH hr hx hK;obtain ⟨cs,v,h1,h2,h3⟩:=h c a hH hr hx;subst hH;have hN:=Cx.new_live_new c k cs;obtain ⟨cs',fr,hB⟩:=h2.blk _ _ hN;have hφ:(c.new k cs).φ c.H.length=(c.w.heap.size,0):=if_pos rfl;have hcs:cs'=cs:=by
  have hat:=hB.at_;rw [hφ] at hat;have h4:(c.new k cs).w.heap[c.w.heap.size]? = some (.cells cs k.ty (0,0)):=heap_alloc_new _ _;simp only at hat;rw [h4] at hat
  cases fr with
  | none=>
   injection hat with hat
   cases hat
  | some fr=>
   injection hat with hat;injection hat with hat;exact hat.symm
 subst hcs;have hfit:=hB.fits;rw [hφ] at hfit;simp only [Mr] at hfit;have hrel:=Cx.newAt_rel (c:=c) (b:=b) (k:=k) (cs:=cs') hr hb hB.pos hfit hB.len (fun i row j a' g1 g2=>by
  obtain ⟨u,g3,g4,g5⟩:=hB.rel i row j a' g1 g2;rw [hφ] at g3;simp only [Mr] at g3;refine ⟨u,g3,g4,.fr ?_⟩;have hf:=tj 9 a' u (hF row (MW g1) a' (MW g2)) g5;exact hf.move fun g hg=>⟨(Below.heap_alloc _ _ _ (hr.lt g hg)).symm,hg,hr.lt g hg⟩)
 have hl2:=Cx.newAt_self (c:=c) (k:=k) (cs:=cs') hb;have hφ2:(c.newAt b k cs').φ b=(c.w.heap.size,0):=if_pos rfl;have hh2:(c.newAt b k cs').hd b k.ver=some ⟨c.w.heap.size,0,k.s,k.rows.length,cs'.size⟩:=by
  have := Cx.hd_of hl2 (o:=.cells cs' k.ty (0,0)) (by rw [hφ2];exact heap_alloc_new _ _);rw [hφ2] at this;exact this
 have hborn:(c.newAt b k cs').born b k.ver:=by
  unfold Cx.born;rw [show (c.newAt b k cs').H[b]? = some (some k) from hl2];exact Mo _
 unfold Oper.wp;rw [h1];refine hK v (c.newAt b k cs') rfl hrel (Cx.newAt_ext hr hb) ?_;rcases hr0 with ⟨n,rfl,rfl⟩ | ⟨i,j,rfl,rfl⟩
 ·cases h3 with
  | fr h=>cases h
  | hs hb' hc hm h0 hx'=>
   have h5:=hx' _ (Cx.new_hd c k cs');refine .hs hborn hc hm h0 fun x hx=>?_;rw [hh2] at hx;injection hx with hx;subst hx;exact h5
 cases h3 with
 | fr h=>cases h
 | hp hb' hx'=>
  have h5:=hx' _ (Cx.new_hd c k cs');refine .hp hborn fun x hx=>?_;rw [hh2] at hx;injection hx with hx;subst hx;exact h5
theorem EvA.alR {zs:List AV} (b:Nat) (z:TyZ P t zs) (hn:(Mj 0 zs.length)=true) (hF:zs.all (isF 9)=true) (hb:H[b]? = some none):EvA P ρ (.alloc t) H (.hp b 0 zs.length 0 0) (H.set b (some ⟨0,zs.length,t,[zs]⟩)):=fun o ho=>by
 have hz:=z.z;have ho':=z.one
 cases hi:P.info? t with
 | none=>rw [hi] at hz;cases hz
 | some i=>
  rw [hi] at hz ho'
  cases hzz:i.zero with
  | none=>simp [hzz] at hz
  | some zv=>
   simp only [MC,hzz,Mq,sie] at hz ho';have h:=xK (P:=P) (ρ:=ρ) (H:=H) ho hi hzz (by rw [hz];exact nlb hn) ho';rw [hz] at h;exact h.at_ hb (CV hF) (.inr ⟨0,0,rfl,rfl⟩)
end
section
variable {P:Program} {nt b0:Nat} {Q:Exit->Env->AH->Prop} {H:AH} {ops:Array Oper} {l:List Oper} {d:Tmp} {x y:Operand} {t u e:TypeId} {ty:TypeId} {pos:String} {af:Array Edge} {en:List (Nat×AV)} {α:Type} [Inhabited α] {c:α->List AV} {xs:List α}
theorem C0 (w:World) (dd:Nat) (A:Option Addr) (n cap:Nat) (hu:P.underlying t=some (.slice e)):(Op.equalIn (dd+1) t (.slice A n cap) (.slice none 0 0)).run P w = .ok A.isNone w:=by
 cases A <;> simp [Op.equalIn,ay hu]
theorem qo (w:World) (A:Option Addr) (n cap:Nat) (hu:P.underlying t=some (.slice e)):(Op.equal t (.slice A n cap) (.slice none 0 0)).run P w = .ok A.isNone w:=C0 w 9999 A n cap hu
theorem C8 {C:Cx} {v:Value} (h:C.rel (eL c xs) v):∃ A n cap,v = .slice A n cap/\(A=none->xs=[]):=by
 have h:=pu h;unfold eL at h;generalize hn:xs.length=n at h
 cases h with
 | @sl _ cap s g o row a us hc hm ha hs hu2 h1 h3=>
  refine ⟨_,_,_,rfl,fun hA=>?_⟩;subst hA;rcases Nat.eq_zero_or_pos n with h0 | h0
  ·exact List.eq_nil_of_length_eq_zero (hn.trans h0)
  obtain ⟨h,_⟩:=ha h0
  cases h
theorem J8 (neq:Bool) (hu:P.underlying t=some (.slice e)) (hx:rho (ak en) x=eL c xs) (hy:rho (ak en) y = .nil) (h1:xs=[]->TO P nt b0 ops l Q (ak ((d,Bo (!neq))::en)) H) (h2:TO P nt b0 ops l Q (ak ((d,Bo neq)::en)) H) :
  TO P nt b0 ops (⟨some d,.binOp (bif neq then .neq else .eql) t x y u,ty,pos,af,none⟩::l) Q (ak en) H:=by
 intro hd k hl hn C c0 a hH hb hex hr;have ox:=hr.rho x;have oy:=hr.rho y;rw [hx] at ox;rw [hy] at oy;obtain ⟨A,n,cap,hv,hA⟩:=C8 ox;have hv2:=dC oy;have hrun:(execOp a.eval (⟨some d,.binOp (bif neq then .neq else .eql) t x y u,ty,pos,af,none⟩:Oper)).run P C.w = .ok (.value (.bool (A.isNone != neq))) C.w:=by
  have e1:∀ op,execOp a.eval (⟨some d,.binOp op t x y u,ty,pos,af,none⟩:Oper)=(do pure (Next.value (<- (do eqGuard op t x y (a.eval x) (a.eval y);binOp op t (a.eval x) (a.eval y)))):Sem Next):=fun op=>by rw [execOp]
  rw [e1];refine nQ _ ?_;rw [hv,hv2]
  cases neq
  ·simp only [cond_false,Bool.bne_false];have : (eqGuard .eql t x y (.slice A n cap) (.slice none 0 0)).run P C.w = .ok () C.w:=by simp [eqGuard]
   simp only [Sem.run_bind,this,Result.andThen_ok,binOp,qo C.w A n cap hu,Sem.run_pure]
  simp only [cond_true,Bool.bne_true];have : (eqGuard .neq t x y (.slice A n cap) (.slice none 0 0)).run P C.w = .ok () C.w:=by simp [eqGuard]
  simp only [Sem.run_bind,this,Result.andThen_ok,binOp,qo C.w A n cap hu,Sem.run_pure]
 have h0:ops[k]? = some (⟨some d,.binOp (bif neq then .neq else .eql) t x y u,ty,pos,af,none⟩:Oper):=by simpa using (hl 0).symm
 have ho:(⟨some d,.binOp (bif neq then .neq else .eql) t x y u,ty,pos,af,none⟩:Oper)∈ops.toList:=by rw [ME];exact MF h0
 have hl':∀ j,l[j]? = ops[k+1+j]? := fun j=>by have := hl (j+1);simpa [MG,Mv 1 j] using this
 simp only [llc] at hn;simp only [llc,MI,wpOps,h0];rw [if_pos (tq.free (ops:=ops) (e:=ak en) rfl nt C a hr)];refine .inl ?_;unfold Oper.wp;rw [hrun];have fin:TO P nt b0 ops l Q (ak ((d,Bo (A.isNone != neq))::en)) H:=by
  cases A with
  | none=>have := h1 (hA rfl);cases neq <;> exact this
  | some ad=>cases neq <;> exact h2
 exact fin hd (k+1) hl' (by omega) C c0 _ hH hb hex (hr.put (some d) (mG hd ho) (Ext.refl C) hr.heap (bT rfl))
omit [Inhabited α] in
end
set_option maxRecDepth 100000
section
variable {P:Program}
def OpG (P:Program) (o:Oper) (ρ:Operand->AV) (H:AH) (R:AV->AH->Prop):Prop:=
 ∀ (c:Cx) (a:Act) (K:Act->World->Prop) (Q:Exit->Act->World->Prop),c.H=H->HRel c->(∀ x∈o.op.operands,c.rel (ρ x) (a.eval x)) ->
  (∀ v c' r,R r c'.H->HRel c'->Ext c c'->c'.rel r v->K (a.put o.dst v) c'.w)->o.wp P a c.w K Q
theorem Bc {o:Oper} {ρ:Operand->AV} {cl:Call} {f:Operand} {g:FuncId} {nO:List AV} {H:AH} {R:AV->AH->Prop} (ho:o.op = .call cl) (hc:cl.callee = .value f) (hf:ρ f = .fn (.func g) nO) (h:dX P g (cl.args.toList.map ρ++nO) H R):OpG P o ρ H R:=by
 intro c a K Q hH hr hxs hK;have hf1:=hf ▸ hxs f (by rw [ho];simp [Op.operands,Call.operands,hc]);obtain ⟨vs,he,hl,hrel⟩:=vV hf1;have hargs:zr c (cl.args.toList.map ρ++nO) (cl.args.map a.eval++vs):=by
  refine ⟨by simp [hl],fun i q v hq hv=>?_⟩;rcases MJ i cl.args.size with hlt | hge
  ·rw [gal (by simpa using hlt),My,ML,Mt hlt] at hq;rw [MS (by simpa using hlt),Array.getElem?_map,Mt hlt] at hv;simp only [Mq,sie] at hq hv;subst hq hv;refine hxs _ ?_;rw [ho];simp [Op.operands,Call.operands]
  rw [gar (by simpa using hge)] at hq;rw [Array.getElem?_append_right (by simpa using hge)] at hv;simp only [llm,MV,Array.size_map] at hq hv;exact hrel _ q v hq hv
 have hrun:(execOp a.eval o).run P c.w = .ok (.enter g (cl.args.map a.eval++vs)) c.w:=by
  rw [execOp,ho];simp only [resolve,hc,he,Deferred.ofValue,Sem.run_bind,Sem.run_pure,Result.andThen_ok,invoke];have := pE h.1 (cl.args.map a.eval++vs) c.w;simpa using this
 unfold Oper.wp;rw [hrun,Oper.upon_enter];refine (h.2 c _ hH hr hargs).mono fun e w' ⟨v,c',r,he,hw,hR,hr',hx,hv⟩ => ?_;subst he hw;exact hK v c' r hR hr' hx hv
theorem TO.runG {nt b0:Nat} {Q:Exit->Env->AH->Prop} {e:Env} {H:AH} {ops:Array Oper} {o:Oper} {l:List Oper} {R:AV->AH->Prop} (hw:tq ops e o true) (hv:OpG P o (rho e) H R) (h:∀ r H',R r H'->TO P nt b0 ops l Q (rG e o.dst r) H'):TO P nt b0 ops (o::l) Q e H:=by
 intro hd k hl hn c c0 a hH hb hx hr;have h0:ops[k]? = some o:=by simpa using (hl 0).symm
 have ho:o∈ops.toList:=by rw [ME];exact MF h0
 have hl':∀ j,l[j]? = ops[k+1+j]? := fun j=>by have := hl (j+1);simpa [MG,Mv 1 j] using this
 simp only [llc] at hn;simp only [llc,MI,wpOps,h0];rw [if_pos (hw nt c a hr)];refine .inl (hv c a _ _ hH hr.heap (fun x _=>hr.rho x) fun v c' r hR hr' hx' hv=>?_);exact h r c'.H hR hd (k+1) hl' (by omega) c' c0 _ rfl hb (hx.trans hx') (hr.put o.dst (mG hd ho) hx' hr' hv)
def Iq (w:Nat) (ty:TypeId) (mk:AV->AV) (n:Nat) (rows:List (List AV)) (m:Nat) (H:AH):AV->AH->Prop:=fun r G=>∃ g ver,(g=true->n=0)/\r=mk (hS g m ver w n)/\G=H++[bE g ver w ty rows]
theorem dX.own {f:FuncId} {KQ:List AV} {H:AH} {w:Nat} {ty:TypeId} {mk:AV->AV} {n:Nat} {rows:List (List AV)} (h:dX P f KQ [] (Iq w ty mk n rows 0 [])) (has:KQ.all (isF 9)=true) (hk:∀ r∈rows,∀ a∈r,isF 9 a=true)
  (hmk:∀ (S:Nat->Nat->Prop) (a b:AV),Ren S a b->Ren S (mk a) (mk b)) (m:Nat) (hm:H.length=m):dX P f KQ H (Iq w ty mk n rows m H):=by
 subst hm;refine h.frame [] (by simp) rfl (fun i c hi=>by simp at hi) rfl (fun i c d hc hd=>?_) fun r0 G0 ⟨g,ver,hg,hr0,hG0⟩ => ?_
 ·obtain ⟨rfl,hm⟩:=dS hc hd;exact aR 9 c (Mi.1 has _ hm)
 subst hr0 hG0;have key:∀ i b,sg [] H.length i b->i<1->b=H.length:=fun i b hs hi=>by
  rcases hs with hs | ⟨_,hs⟩
  ·simp at hs
  rw [hs];simp;omega
 refine ⟨_,_,⟨by simp,by simp,fun i b hi hs hn=>?_,fun i b k0 hs hk0=>?_,fun b hb _=>gal hb⟩,hmk _ _ _ ?_,⟨g,ver,hg,rfl,rfl⟩⟩
 ·simp only [MP,List.length_singleton] at hi;obtain rfl:=key i b hs hi;obtain rfl:i=0:=by omega
  simp only [MP,Mm,sie] at hn;simp [hn]
 ·have hi:i<1:=by
   have := (ges hk0).1;simpa using this
  obtain rfl:=key i b hs hi;obtain rfl:i=0:=by omega
  simp only [MP,Mm,sie] at hk0;refine ⟨k0,by simp [hk0],.ofF fun r hr a ha=>?_⟩
  cases g with
  | true=>cases hk0
  | false=>
   obtain rfl:=osl hk0;exact hk r hr a ha
 cases g with
 | true=>exact .nil
 | false=>exact .hs (.inr ⟨MB _,by simp⟩)
def J9 (w:Nat) (ty:TypeId) (mk:AV->AV) (n:Nat) (rows:List (List AV)):AV->AH->Prop:=fun r G=>∃ b g ver,(g=true->n=0)/\r=mk (hS g b ver w n)/\(g=false->G[b]? = some (some ⟨ver,w,ty,rows⟩))
theorem dX.mkO {f:FuncId} {fn:Func} {body:Code} {KQ:List AV} {w:Nat} {ty:TypeId} {mk:AV->AV} {n:Nat} {rows:List (List AV)} (hf:P.funcs[f]? = some fn) (hb:fn.body=some body) (hcall:gy P f=true) (hn:Mk KQ.length fn.ntmps=true)
  (hok:codeOk fn.ntmps body=true) {e0:Env} (hw:za (FP KQ) e0) (hmk:∀ (S:Nat->Nat->Prop) (a b:AV),Ren S a b->Ren S (mk a) (mk b)) (hk:∀ r∈rows,∀ a∈r,isF 9 a=true)
  (h:T P fn.ntmps 0 body (Fin P fn (J9 w ty mk n rows)) e0 []):dX P f KQ [] (Iq w ty mk n rows 0 []):=by
 have hB:=dX.mkT (H:=[]) hf hb hcall hn hok hw h;refine ⟨hB.1,fun c vs hH hr hall=>(hB.2 c vs hH hr hall).mono fun e w' ⟨v,c1,r,he,hw',⟨b,g,ver,hg,hr0,hG⟩,hr1,hx,hv⟩ => ?_⟩;subst hr0 hw';have hni:∀ b k,¬ c.live b k:=fun b k hl=>by
  have hl':c.H[b]? = some (some k):=hl;rw [hH] at hl';simp at hl'
 have hnb:∀ b ver,¬ c.born b ver:=fun b ver hb=>by
  have hlt:=fB hb;rw [hH] at hlt;simp at hlt
 cases g with
 | true=>
  let c2:Cx:={ w:=c1.w,fz:=c1.fz,H:=[none],φ:=c1.φ };refine ⟨v,c2,mk .nil,he,rfl,⟨true,ver,hg,rfl,rfl⟩,⟨hr1.lt,fun b k hl=>?_,fun b b' k k' hl _ _=>?_,hr1.gl⟩,⟨hx.os,hx.tape,hx.output,hx.size,fun g hg _=>hx.keep g hg fun b k hl=>absurd hl (hni b k),hx.fz,hx.qE,?_,fun b ver hb=>absurd hb (hnb b ver),fun b ver x hb=>absurd hb (hnb b ver),fun b k hl=>?_⟩,?_⟩
  ·exact absurd (show ([none]:AH)[b]? = some (some k) from hl) (by cases b <;> simp)
  ·exact absurd (show ([none]:AH)[b]? = some (some k) from hl) (by cases b <;> simp)
  ·rw [hH];exact MB _
  ·exact absurd (show ([none]:AH)[b]? = some (some k) from hl) (by cases b <;> simp)
  exact Ren.rel (c1:=c1) (c2:=c2) (S:=fun _ _=>False) (Mo _) (fun g hg _=>⟨rfl,hg⟩) (fun _ _ _ hS=>hS.elim) (fun _ _ _ _ hS=>hS.elim) (hmk _ _ _ .nil) v hv
 | false=>
  have hG:=hG rfl;let c2:Cx:={ w:=c1.w,fz:=c1.fz,H:=[some ⟨ver,w,ty,rows⟩],φ:=fun _=>c1.φ b };have l2:∀ {i k},c2.live i k->i=0/\k=⟨ver,w,ty,rows⟩:=fun {i k} hl=>by
   have hl':([some ⟨ver,w,ty,rows⟩]:AH)[i]? = some (some k):=hl
   match i with
   | 0=>exact ⟨rfl,by simpa using hl'.symm⟩
   | i+1=>simp at hl'
  have hl1:c1.live b ⟨ver,w,ty,rows⟩:=hG;obtain ⟨cs,fr,hB⟩:=hr1.blk b _ hl1;have hrel:∀ a a',Ren (fun x y=>x=b/\y=0) a a'->∀ v,c1.rel a v->c2.rel a' v:=fun a a' hra=>by
   refine Ren.rel (c1:=c1) (c2:=c2) (Mo _) (fun g hg _=>⟨rfl,hg⟩) (fun x y q hS hb=>?_) (fun x y q z hS hb hz=>?_) hra
   ·obtain ⟨rfl,rfl⟩:=hS;exact pF hb (fun hd=>by rw [hG] at hd;cases hd) fun k hk=>⟨_,rfl,by rw [hG] at hk;cases hk;rfl⟩
   obtain ⟨rfl,rfl⟩:=hS;refine qR hz rfl rfl fun k hk=>⟨_,hG,?_⟩;obtain ⟨_,rfl⟩:=l2 hk;exact ⟨rfl,rfl,rfl⟩
  refine ⟨v,c2,mk (hS false 0 ver w n),he,rfl,⟨false,ver,hg,rfl,rfl⟩,⟨hr1.lt,fun i k hl=>?_,fun i j k k' hi hj hne=>?_,hr1.gl⟩,⟨hx.os,hx.tape,hx.output,hx.size,fun g hg _=>hx.keep g hg fun b k hl=>absurd hl (hni b k),hx.fz,hx.qE,?_,fun b ver hb=>absurd hb (hnb b ver),fun b ver x hb=>absurd hb (hnb b ver),fun i k hl=>?_⟩,?_⟩
  ·obtain ⟨rfl,rfl⟩:=l2 hl;exact ⟨cs,fr,(RenK.ofF (S:=fun x y=>x=b/\y=0) (k:=⟨ver,w,ty,rows⟩) hk).blk hB rfl rfl hB.nf hrel⟩
  ·obtain ⟨rfl,_⟩:=l2 hi;obtain ⟨rfl,_⟩:=l2 hj;exact absurd rfl hne
  ·rw [hH];exact MB _
  ·obtain ⟨rfl,rfl⟩:=l2 hl;exact hx.fH b _ hl1
  exact hrel _ _ (hmk _ _ _ (.hs ⟨rfl,rfl⟩)) v hv
end
section
variable {P:Program} {nt b0:Nat} {Q:Exit->Env->AH->Prop} {en:List (Nat×AV)} {H:AH} {ops:Array Oper} {l:List Oper} {d:Tmp} {t:TypeId} {pos:String} {af:Array Edge}
theorem oG {cl:Call} {f:Operand} {g:FuncId} {nO KQ:List AV} {w m:Nat} {ty:TypeId} {mk:AV->AV} {n:Nat} {rows:List (List AV)} (hc:cl.callee = .value f) (hf:rho (ak en) f = .fn (.func g) nO) (ha:cl.args.toList.map (rho (ak en))++nO=KQ)
  (h:dX P g KQ H (Iq w ty mk n rows m H)) (k:∀ g ver,(g=true->n=0)->TO P nt b0 ops l Q (ak ((d,mk (hS g m ver w n))::en)) (H++[bE g ver w ty rows])):TO P nt b0 ops (⟨some d,.call cl,t,pos,af,none⟩::l) Q (ak en) H:=by
 subst ha;exact TO.runG (.free rfl) (Bc rfl hc hf h) fun r H' ⟨g,ver,hg,hr,hH⟩=>by
  subst hr hH;exact k g ver hg
theorem ownB {G:AH} {b:Nat} {g:Bool} {ver w:Nat} {ty:TypeId} {rows:List (List AV)} (h:G[b]? = some (bE g ver w ty rows)):g=false->G[b]? = some (some ⟨ver,w,ty,rows⟩):=by
 rintro rfl;exact h
theorem wH {α:Type} {f:α->List AV} {l:List α} (hf:∀ x,(f x).all (isF 9)=true):∀ r∈l.map f,∀ a∈r,isF 9 a=true:=fun r hr a ha=>by
 obtain ⟨x,_,rfl⟩:=MM.1 hr;exact Mi.1 (hf x) a ha
theorem Bd (S:Nat->Nat->Prop) (a b:AV) (h:Ren S a b):Ren S a b:=h
end
structure Reid (b0:Nat) (S:Nat->Nat->Prop) (H H0:AH):Prop where
 fwd:∀ i j j',S i j->S i j'->j=j'
 inj:∀ i i' j,S i j->S i' j->i=i'
 low:∀ i,i<b0->S i i
 len:b0<=H0.length
 back:∀ j k0,H0[j]? = some (some k0)->∃ i k,S i j/\H[i]? = some (some k)/\RenK S k k0
 keep:∀ i j k,S i j->H[i]? = some (some k)->∃ k0,H0[j]? = some (some k0)
open Classical in
theorem Reid.state {nt b0:Nat} {S:Nat->Nat->Prop} {H0:AH} {c c0:Cx} {e e0:Env} {a:Act} (h:Reid b0 S c.H H0) (hx:Ext c0 c) (hs:SRel c nt e a) (hb:c0.H.length<=b0) (he:∀ t,Ren S (e t) (e0 t)) :
  ∃ c',c'.w=c.w/\Ext c0 c'/\SRel c' nt e0 a/\c'.H=H0:=by
 let φ':Nat->Nat×Nat:=fun j=>if hj:∃ i,S i j then c.φ (Classical.choose hj) else (0,0);have φe:∀ {i j},S i j->φ' j=c.φ i:=fun {i j} hS=>by
  have hj:∃ i,S i j:=⟨i,hS⟩;show (if hj:∃ i,S i j then c.φ (Classical.choose hj) else (0,0))=_;rw [dif_pos hj,h.inj _ _ _ (Classical.choose_spec hj) hS]
 let c':Cx:={ w:=c.w,fz:=c.fz,H:=H0,φ:=φ' };have ver:∀ {i j k k0},S i j->c.H[i]? = some (some k)->H0[j]? = some (some k0)->RenK S k k0:=fun {i j k k0} hS hk hk0=>by
  obtain ⟨i',k',h1,h2,h3⟩:=h.back j k0 hk0;obtain rfl:=h.inj _ _ _ h1 hS;rw [hk] at h2;injection h2 with h2;injection h2 with h2;subst h2;exact h3
 have hb1:∀ i j ver',S i j->c.born i ver'->c'.born j ver':=fun i j ver' hS hbn=>by
  have hlt:=fB hbn;refine pF hbn (fun hd=>?_) fun k hk=>?_
  ·unfold Cx.born at hbn;rw [hd] at hbn;exact hbn.elim
  obtain ⟨k0,hk0⟩:=h.keep i j k hS hk;exact ⟨k0,hk0,(ver hS hk hk0).ver⟩
 have hh1:∀ i j ver' x,S i j->c.born i ver'->c'.hd j ver'=some x->c.hd i ver'=some x:=fun i j ver' x hS _ hhd=>by
  refine qR hhd (φe hS) rfl fun k0 hk0=>?_;obtain ⟨i',k,h1,h2,h3⟩:=h.back j k0 hk0;obtain rfl:=h.inj _ _ _ h1 hS;exact ⟨k,h2,h3.ver.symm,h3.s.symm,h3.len⟩
 have hrel:∀ x y,Ren S x y->∀ v,c.rel x v->c'.rel y v:=fun x y hra=>Ren.rel (c1:=c) (c2:=c') (Mo _) (fun g hg _=>⟨rfl,hg⟩) hb1 hh1 hra;have hr':HRel c':=by
  refine ⟨hs.heap.lt,fun j k0 hl=>?_,fun j j' k0 k0' hl hl' hne=>?_,hs.heap.gl⟩
  ·obtain ⟨i,k,h1,h2,h3⟩:=h.back j k0 hl;obtain ⟨cs,fr,hB⟩:=hs.heap.blk i k h2;exact ⟨cs,fr,h3.blk hB (φe h1) rfl hB.nf hrel⟩
  obtain ⟨i,k,h1,h2,_⟩:=h.back j k0 hl;obtain ⟨i',k',h1',h2',_⟩:=h.back j' k0' hl';show (φ' j).1≠(φ' j').1;rw [φe h1,φe h1'];refine hs.heap.inj i i' k k' h2 h2' fun e=>hne ?_;subst e;exact h.fwd _ _ _ h1 h1'
 refine ⟨c',rfl,⟨hx.os,hx.tape,hx.output,hx.size,hx.keep,hx.fz,hx.qE,Nat.le_trans hb h.len,fun b v hbn=>hb1 b b v (h.low b (Nat.lt_of_lt_of_le (fB hbn) hb)) (hx.born b v hbn),fun b v x hbn hhd=>?_,fun j k0 hl=>?_⟩,⟨hs.size,hs.defers,fun t=>hrel _ _ (he t) _ (hs.rel t),hr'⟩,rfl⟩
 ·exact hx.hd b v x hbn (hh1 b b v x (h.low b (Nat.lt_of_lt_of_le (fB hbn) hb)) (hx.born b v hbn) hhd)
 obtain ⟨i,k,h1,h2,_⟩:=h.back j k0 hl;show _<=(φ' j).1\/∃ b0 k0,c0.live b0 k0/\(c0.φ b0).1=(φ' j).1;rw [φe h1];exact hx.fH i k h2
section
variable {P:Program} {nt b0:Nat} {Q:Exit->Env->AH->Prop} {e e0:Env} {H H0:AH} {S:Nat->Nat->Prop}
end
abbrev NG:=Nat->Bool×Nat×Nat
def NG.put (gh:NG) (i:Nat) (x:Bool×Nat×Nat):NG:=fun j=>bif Nat.beq j i then x else gh j
section
variable {α:Type}
def Jg (gh:NG) (w i n:Nat):List AV:=[hS (gh i).1 (gh i).2.1 (gh i).2.2 w n]
def uK (gh:NG) (w:Nat) (l:List (List α)):List (List AV):=(Ml l.length).map fun i=>Jg gh w i (l.getD i []).length
theorem wI (gh:NG) (w:Nat) (l:List (List α)):(uK gh w l).length=l.length:=by simp [uK]
theorem wJ {gh:NG} {w:Nat} {l:List (List α)} {i:Nat} (h:i<l.length):(uK gh w l)[i]? = some (Jg gh w i (l.getD i []).length):=by simp [uK,h]
theorem yz (gh:NG) (i:Nat) (x:Bool×Nat×Nat):gh.put i x i=x:=by simp [NG.put]
theorem wK {gh:NG} {i j:Nat} (x:Bool×Nat×Nat) (h:j≠i):gh.put i x j=gh j:=by
 unfold NG.put;rw [show Nat.beq j i=false from Bool.eq_false_iff.2 fun e=>h (MQ e)]
 rfl
structure NK (m:Nat) (H:AH) (gh:NG) (w:Nat) (ty:TypeId) (f:α->List AV) (l:List (List α)):Prop where
 at_:∀ i,i<l.length->m<=(gh i).2.1/\H[(gh i).2.1]? = some (bE (gh i).1 (gh i).2.2 w ty ((l.getD i []).map f))
 nil_:∀ i,i<l.length->(gh i).1=true->l.getD i []=[]
 sep:∀ i j,i<l.length->j<l.length->i≠j->(gh i).2.1≠(gh j).2.1
variable {m:Nat} {H H':AH} {gh:NG} {w:Nat} {ty:TypeId} {f:α->List AV} {l:List (List α)}
theorem NK.low (h:NK m H gh w ty f l) (he:∀ b,m<=b->b<H.length->H'[b]? = H[b]?):NK m H' gh w ty f l:=
 ⟨fun i hi=>⟨(h.at_ i hi).1,by
  rw [he _ (h.at_ i hi).1 (ges (h.at_ i hi).2).1];exact (h.at_ i hi).2⟩,h.nil_,h.sep⟩
theorem NK.set (h:NK m H gh w ty f l) {i:Nat} (hi:i<l.length) {g:Bool} {ver:Nat} {r:List α} (hg:g=true->r=[]):NK m (H.set (gh i).2.1 (bE g ver w ty (r.map f))) (gh.put i (g,(gh i).2.1,ver)) w ty f (l.set i r):=by
 refine ⟨fun j hj=>?_,fun j hj hn=>?_,fun j k hj hk hne=>?_⟩
 ·have hj':j<l.length:=by simpa using hj
  by_cases e:i=j
  ·subst e;rw [yz];refine ⟨(h.at_ i hi).1,?_⟩;rw [MK (ges (h.at_ i hi).2).1];simp [hi]
  rw [wK _ (fun h=>e h.symm)];refine ⟨(h.at_ j hj').1,?_⟩;rw [Ms (h.sep i j hi hj' e),(h.at_ j hj').2];simp [Ms e]
 ·have hj':j<l.length:=by simpa using hj
  by_cases e:i=j
  ·subst e;rw [yz] at hn;simp [hi,hg hn]
  rw [wK _ (fun h=>e h.symm)] at hn;have := h.nil_ j hj' hn;simpa [Ms e] using this
 have hj':j<l.length:=by simpa using hj
 have hk':k<l.length:=by simpa using hk
 have key:∀ q,(gh.put i (g,(gh i).2.1,ver) q).2.1=(gh q).2.1:=fun q=>by
  by_cases e:q=i
  ·subst e;rw [yz]
  rw [wK _ e]
 rw [key,key];exact h.sep j k hj' hk' hne
theorem NK.fz [Inhabited α] (h:NK m H gh w ty f l) {b ver n:Nat} {to:TypeId} (hb:H[b]? = some (bE false ver 1 to (uK gh w l))) (hn:n=l.length) (hf:∀ x,(f x).all (isF 9)=true):Fz 0 H (hS false b ver 1 n) (eL (cL f) l):=by
 subst hn;have e0:∀ i,i<l.length->l.getD i default=l.getD i []:=fun i hi=>by simp [hi]
 refine .hs (k:=⟨ver,1,to,uK gh w l⟩) (MB _) hb rfl rfl (by simp [wI]) (fun i r hi hr=>?_) (fun i r j c d hi hr hc hd=>?_)
 ·rw [Mr,wJ hi] at hr;obtain rfl:=osl hr
  rfl
 rw [Mr,wJ hi] at hr;obtain rfl:=osl hr
 match j with
 | 0=>
  obtain rfl:=osl hc;obtain rfl:=osl hd;rw [e0 i hi];exact Fz.own (MU (MB _)) (h.at_ i hi).2 rfl (h.nil_ i hi) hf
 | j+1=>simp [Jg] at hc
end

section
variable {P:Program} {α:Type}
def Jw (w:Nat) (ty to:TypeId) (f:α->List AV) (mk:AV->AV) (l:List (List α)) (m:Nat) (H:AH):AV->AH->Prop:=fun r G=>
 ∃ ver gh,r=mk (hS false m ver 1 l.length)/\G=H++[some ⟨ver,1,to,uK gh w l⟩]++(Ml l.length).map (fun i=>bE (gh i).1 (gh i).2.2 w ty ((l.getD i []).map f)) /\
  ∀ i,i<l.length->(gh i).2.1=m+1+i/\((gh i).1=true->l.getD i []=[])
theorem Jw.nk {w:Nat} {ty to:TypeId} {f:α->List AV} {l:List (List α)} {m ver:Nat} {H:AH} {gh:NG} (hm:H.length=m) (h:∀ i,i<l.length->(gh i).2.1=m+1+i/\((gh i).1=true->l.getD i []=[])) :
  NK (m+1) (H++[some ⟨ver,1,to,uK gh w l⟩]++(Ml l.length).map (fun i=>bE (gh i).1 (gh i).2.2 w ty ((l.getD i []).map f))) gh w ty f l:=by
 refine ⟨fun i hi=>⟨by rw [(h i hi).1];omega,?_⟩,fun i hi=>(h i hi).2,fun i j hi hj hne=>by rw [(h i hi).1,(h j hj).1];omega⟩;rw [(h i hi).1,gar (by simp [hm])];simp [hm,hi]
def SxN (b:Nat) (gh:NG) (n:Nat) (i j:Nat):Prop:=(i=b/\j=0)\/∃ q,q<n/\i=(gh q).2.1/\j=q+1
def ghN (gh:NG):NG:=fun q=>((gh q).1,q+1,(gh q).2.2)
theorem Reid.own {w:Nat} {ty to:TypeId} {f:α->List AV} {l:List (List α)} {b ver:Nat} {gh:NG} {G:AH} (hb:G[b]? = some (some ⟨ver,1,to,uK gh w l⟩)) (hN:NK 0 G gh w ty f l) (hne:∀ i,i<l.length->(gh i).2.1≠b) (hf:∀ x,(f x).all (isF 9)=true) :
  Reid 0 (SxN b gh l.length) G ([]++[some ⟨ver,1,to,uK (ghN gh) w l⟩]++(Ml l.length).map (fun i=>bE ((ghN gh) i).1 ((ghN gh) i).2.2 w ty ((l.getD i []).map f))):=by
 have g0:∀ (x:Option ABlk) (K:AH),([]++[x]++K)[0]? = some x:=fun x K=>rfl;have g1:∀ q,q<l.length->([]++[some ⟨ver,1,to,uK (ghN gh) w l⟩]++(Ml l.length).map (fun i=>bE ((ghN gh) i).1 ((ghN gh) i).2.2 w ty ((l.getD i []).map f)):AH)[q+1]? = some (bE (gh q).1 (gh q).2.2 w ty ((l.getD q []).map f)):=fun q hq=>by simp [hq,ghN]
 refine ⟨fun i j j' h1 h2=>?_,fun i i' j h1 h2=>?_,fun i hi=>by omega,MB _,fun j k0 hk=>?_,fun i j k hS hk=>?_⟩
 ·rcases h1 with ⟨rfl,rfl⟩ | ⟨q,hq,rfl,rfl⟩ <;> rcases h2 with ⟨c1,rfl⟩ | ⟨q',hq',c1,rfl⟩
  ·rfl
  ·exact absurd c1.symm (hne q' hq')
  ·exact absurd c1 (hne q hq)
  by_cases e:q=q'
  ·rw [e]
  exact absurd c1 (hN.sep q q' hq hq' e)
 ·rcases h1 with ⟨rfl,rfl⟩ | ⟨q,hq,rfl,rfl⟩ <;> rcases h2 with ⟨rfl,c2⟩ | ⟨q',hq',rfl,c2⟩
  ·rfl
  ·omega
  ·omega
  obtain rfl:q=q':=by omega
  rfl
 ·match j with
  | 0=>
   rw [g0] at hk;obtain rfl:=osl (osl hk);refine ⟨b,_,.inl ⟨rfl,rfl⟩,hb,rfl,rfl,rfl,by simp [wI],fun i r r' hr hr' => ?_⟩;have hi:i<l.length:=by
    have := (ges hr).1
    rwa [wI] at this
   rw [wJ hi] at hr hr';obtain rfl:=osl hr;obtain rfl:=osl hr';refine ⟨rfl,fun j a a' ha ha' => ?_⟩
   match j with
   | 0=>
    obtain rfl:=osl ha;obtain rfl:=osl ha';show Ren _ (hS (gh i).1 (gh i).2.1 (gh i).2.2 w _) (hS (gh i).1 (i+1) (gh i).2.2 w _)
    cases hg:(gh i).1 with
    | true=>exact .nil
    | false=>exact .hs (.inr ⟨i,hi,rfl,rfl⟩)
   | j+1=>simp [Jg] at ha
  | q+1=>
   have hq:q<l.length:=by
    have := (ges hk).1;simp at this;omega
   rw [g1 q hq] at hk;refine ⟨(gh q).2.1,k0,.inr ⟨q,hq,rfl,rfl⟩,(hN.at_ q hq).2.trans hk,.ofF fun r hr a ha=>?_⟩
   cases hg:(gh q).1 with
   | true=>rw [hg] at hk;cases hk
   | false=>
    rw [hg] at hk;obtain rfl:=osl (osl hk);exact wH hf r hr a ha
 rcases hS with ⟨rfl,rfl⟩ | ⟨q,hq,rfl,rfl⟩
 ·exact ⟨_,rfl⟩
 rw [g1 q hq,<- (hN.at_ q hq).2];exact ⟨k,hk⟩
end
def KF (K:AH):Prop:=∀ (i:Nat) (k:ABlk),K[i]? = some (some k)->rV k
section
variable {P:Program} {nt b0:Nat} {Q:Exit->Env->AH->Prop} {en:List (Nat×AV)} {H:AH} {ops:Array Oper} {l:List Oper} {d:Tmp} {t:TypeId} {pos:String} {af:Array Edge} {α:Type}
end
def Dp (b N:Nat) (i j:Nat):Prop:=i≠b/\i<N/\j=i
theorem Reid.drop {b0 b N:Nat} {H:AH} (hN:H.length=N) (h0:b0<=b) (hlt:b<N) (hR:∀ i k,i≠b->H[i]? = some (some k)->RenK (Dp b N) k k):Reid b0 (Dp b N) H (H.set b none):=by
 refine ⟨fun i j j' h1 h2=>by rw [h1.2.2,h2.2.2],fun i i' j h1 h2=>by rw [<- h1.2.2,h2.2.2],fun i hi=>⟨by omega,by omega,rfl⟩,by simp [hN];omega,fun j k0 hk=>?_,fun i j k hS hk=>?_⟩
 ·have hj:j<N:=by
   have := (ges hk).1;simpa [hN] using this
  by_cases e:j=b
  ·subst e;rw [MK (by omega)] at hk
   cases hk
  rw [Ms (fun h=>e h.symm)] at hk;exact ⟨j,k0,⟨e,hj,rfl⟩,hk,hR j k0 e hk⟩
 obtain ⟨h1,h2,rfl⟩:=hS;exact ⟨k,by rw [Ms (fun h=>h1 h.symm)];exact hk⟩
section
variable {α:Type} {m:Nat} {H:AH} {gh:NG} {w:Nat} {ty:TypeId} {f:α->List AV} {l:List (List α)}
theorem NK.nil {m:Nat} {H:AH} {gh:NG}:NK m H gh w ty f ([]:List (List α)):=⟨fun i hi=>absurd hi (by simp),fun i hi=>absurd hi (by simp),fun i j hi=>absurd hi (by simp)⟩
theorem NK.lt (h:NK m H gh w ty f l) {i:Nat} (hi:i<l.length):(gh i).2.1<H.length:=(ges (h.at_ i hi).2).1
end
end
end Go.Proofs.YtpkhamajimidnaaGreatDoor
