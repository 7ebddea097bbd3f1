/- Texts joined. No conditions. -/
import Derived.Test.YtabfkkjdfhbngaaGreatDoorProg
import Derived.Test.YtabfkkjdfhbngaaGreatDoorV10
namespace Go.Proofs.YtabfkkjdfhbngaaGreatDoor
noncomputable section
open _root_.Inhabited renaming default -> QW
open _root_.Bool renaming true -> QX
open _root_.Bool renaming false -> QY
open _root_.Option renaming some -> QZ
open _root_.Option renaming none -> Q0
open _root_.Go.Proofs.Tryz
open _root_.Go.Proofs.Tryz renaming prog -> Q4
open _root_.Option renaming bind_eq_some_iff -> Wt
open _root_.Nat renaming eq_of_beq_eq_true -> Wu
open _root_.List renaming eq_nil_of_length_eq_zero -> Wv
set_option maxHeartbeats 4000000
open Go.RowKit
def LB (en:List<|Nat×AV):List Nat->Option (List<|Nat×AV)
 | []=>QZ []
 | t::l=>match Fv en t with
  | some v=>(match LB en l with
   | some r=>QZ ((t,v)::r)
   | none=>Q0)
  | none=>Q0
theorem Hk {en:List (Nat×AV)}:∀ {l:List Nat} {r:List (Nat×AV)},LB en l=QZ r->CV (ai en) (ai r)
 | [],r,h=>by
  obtain rfl:=osl h;exact wkN
 | t::l,r,h=>by
  unfold LB at h
  split at h
  ·rename_i v hv
   split at h
   ·rename_i r' hr;obtain rfl:=osl h;exact QD (wA hv)<|Hk hr
   cases h
  cases h
section
variable {P:Program} {nt b0:Nat} {Q:Exit->Env->AH->Prop} {H H':AH} {x:Operand} {ops:Array Oper} {l:List Oper} {d:Tmp} {op:Op} {ty:TypeId} {pos:String} {af:Array Edge} {en:List (Nat×AV)} {v:AV} {c:Prop} {b ver uA j:Nat} {k':ABlk} {w q:Bool} {fp:Nat->Fp} {i:Nat} {K:Env->AH->Prop}
theorem hM (hy:dL ops.toList (ai en) j = .v (.bool q)) (hq:q=w) (h:opE en x=QZ v) (k:TO P nt b0 ops l Q (ai ((d,v)::en)) H):TO P nt b0 ops (⟨QZ d,.move x,ty,pos,af,QZ (j,w)⟩::l) Q (ai en) H:=gN hy hq (QE.mv _<|fF h) k
theorem hR (hy:dL ops.toList (ai en) j = .v (.bool q)) (hq:q=w) (h:opE en x=QZ v) (k:TO P nt b0 ops l Q (ai ((d,v)::en)) H):TO P nt b0 ops (⟨QZ d,.assign x,ty,pos,af,QZ (j,w)⟩::l) Q (ai en) H:=gN hy hq (QE.asg _<|fF h) k
theorem hPT {y z:Operand} {u:Bool} (hc:opE en x=QZ (.v<|.bool u)) (hu:u=QX) (h:opE en y=QZ v) (k:TO P nt b0 ops l Q (ai ((d,v)::en)) H):TO P nt b0 ops (⟨QZ d,.pick x y z,ty,pos,af,Q0⟩::l) Q (ai en) H:=oN (QE.pickT (fF hc) hu _<|fF h) k
theorem hPF {y z:Operand} {u:Bool} (hc:opE en x=QZ (.v<|.bool u)) (hu:u=QY) (h:opE en z=QZ v) (k:TO P nt b0 ops l Q (ai ((d,v)::en)) H):TO P nt b0 ops (⟨QZ d,.pick x y z,ty,pos,af,Q0⟩::l) Q (ai en) H:=oN (QE.pickF (fF hc) hu _<|fF h) k
theorem tM (h:opE en x=QZ v) (hc:fp i=([],QY)) (k:TG P ops fp (i+1) l K (ai ((d,v)::en)) H):TG P ops fp i (⟨QZ d,.move x,ty,pos,af,Q0⟩::l) K (ai en) H:=tN hc (QE.mv _<|fF h) k
theorem tA (h:opE en x=QZ v) (hc:fp i=([],QY)) (k:TG P ops fp (i+1) l K (ai ((d,v)::en)) H):TG P ops fp i (⟨QZ d,.assign x,ty,pos,af,Q0⟩::l) K (ai en) H:=tN hc (QE.asg _<|fF h) k
theorem tgM (hy:dL ops.toList (ai en) j = .v (.bool q)) (hq:q=w) (h:opE en x=QZ v) (hc:fp i=([],QY)) (k:TG P ops fp (i+1) l K (ai ((d,v)::en)) H):TG P ops fp i (⟨QZ d,.move x,ty,pos,af,QZ (j,w)⟩::l) K (ai en) H:=tgN hy hq hc (QE.mv _<|fF h) k
theorem tPT {y z:Operand} {u:Bool} (hc:opE en x=QZ (.v<|.bool u)) (hu:u=QX) (h:opE en y=QZ v) (hf:fp i=([],QY)) (k:TG P ops fp (i+1) l K (ai ((d,v)::en)) H):TG P ops fp i (⟨QZ d,.pick x y z,ty,pos,af,Q0⟩::l) K (ai en) H:=tN hf (QE.pickT (fF hc) hu _<|fF h) k
theorem tPF {y z:Operand} {u:Bool} (hc:opE en x=QZ (.v<|.bool u)) (hu:u=QY) (h:opE en z=QZ v) (hf:fp i=([],QY)) (k:TG P ops fp (i+1) l K (ai ((d,v)::en)) H):TG P ops fp i (⟨QZ d,.pick x y z,ty,pos,af,Q0⟩::l) K (ai en) H:=tN hf (QE.pickF (fF hc) hu _<|fF h) k
variable {cls:Nat->Xc} {lx:List Nat}
theorem xM (h0:ops[i]? = QZ ⟨QZ d,.move x,ty,pos,af,Q0⟩) (h:opE en x=QZ v) (hc:cls i=(QY,[])) (k:TX P ops cls lx K (ai ((d,v)::en)) H):TX P ops cls (i::lx) K (ai en) H:=xN h0 hc (QE.mv _<|fF h) k
theorem xAs (h0:ops[i]? = QZ ⟨QZ d,.assign x,ty,pos,af,Q0⟩) (h:opE en x=QZ v) (hc:cls i=(QY,[])) (k:TX P ops cls lx K (ai ((d,v)::en)) H):TX P ops cls (i::lx) K (ai en) H:=xN h0 hc (QE.asg _<|fF h) k
variable [Tab P]
theorem tN' (h:evN P (rho<|ai en) op=QZ (Q0,v)) (hc:fp i=([],QY)) (k:TG P ops fp (i+1) l K (ai ((d,v)::en)) H):TG P ops fp i (⟨QZ d,op,ty,pos,af,Q0⟩::l) K (ai en) H:=tN hc (uM h trivial) k
theorem tG' (h:evN P (rho<|ai en) op=QZ (QZ c,v)) (hf:fp i=([],QY)) (hc:c) (k:TG P ops fp (i+1) l K (ai ((d,v)::en)) H):TG P ops fp i (⟨QZ d,op,ty,pos,af,Q0⟩::l) K (ai en) H:=tN hf (uM h hc) k
theorem tL' (h:evL P (rho<|ai en) H op=QZ (b,uA,ver,v)) (hv:uA=ver) (hf:fp i=([b],QY)) (k:TG P ops fp (i+1) l K (ai ((d,v)::en)) H):TG P ops fp i (⟨QZ d,op,ty,pos,af,Q0⟩::l) K (ai en) H:=tR [b] hf (λG hG=>Kr h hv G hG) k
theorem Qk (hy:dL ops.toList (ai en) j = .v (.bool q)) (hq:q=w) (h:evN P (rho<|ai en) op=QZ (Q0,v)) (hc:fp i=([],QY)) (k:TG P ops fp (i+1) l K (ai ((d,v)::en)) H):TG P ops fp i (⟨QZ d,op,ty,pos,af,QZ (j,w)⟩::l) K (ai en) H:=tgN hy hq hc (uM h trivial) k
theorem Pp (hy:dL ops.toList (ai en) j = .v (.bool q)) (hq:q=w) (h:evN P (rho<|ai en) op=QZ (QZ c,v)) (hf:fp i=([],QY)) (hc:c) (k:TG P ops fp (i+1) l K (ai ((d,v)::en)) H):TG P ops fp i (⟨QZ d,op,ty,pos,af,QZ (j,w)⟩::l) K (ai en) H:=tgN hy hq hf (uM h hc) k
theorem xN' (h0:ops[i]? = QZ ⟨QZ d,op,ty,pos,af,Q0⟩) (h:evN P (rho<|ai en) op=QZ (Q0,v)) (hc:cls i=(QY,[])) (k:TX P ops cls lx K (ai ((d,v)::en)) H):TX P ops cls (i::lx) K (ai en) H:=xN h0 hc (uM h trivial) k
theorem xG' (h0:ops[i]? = QZ ⟨QZ d,op,ty,pos,af,Q0⟩) (h:evN P (rho<|ai en) op=QZ (QZ c,v)) (hf:cls i=(QY,[])) (hc:c) (k:TX P ops cls lx K (ai ((d,v)::en)) H):TX P ops cls (i::lx) K (ai en) H:=xN h0 hf (uM h hc) k
end
theorem T.cl {P:Program} {nt b0:Nat} {Q:Exit->Env->AH->Prop} {en en':List (Nat×AV)} {H:AH} {x:Code} (l:List Nat) (h:LB en l=QZ en') (k:T P nt b0 x Q (ai en') H):T P nt b0 x Q (ai en) H:=k.weak<|Hk h
theorem T.drawP {P:Program} {nt b0:Nat} {Q:Exit->Env->AH->Prop} {e:Env} {H:AH} {i:Nat} {ops:Array Oper} (hm:P.follows .mixedOrders=QX) (hc:Oc ops (λ_=>([],QY))=QX) (h:TF P (λ_=>([],QY)) 0 ops.toList (Q .normal) e H):T P nt b0 (.region i ops QX) Q e H:=T.drawF _ hm hc h
def slq (P:Program) [Tab P] (t:TypeId):Option (TypeId×TI):=match tq P t with
 | some ⟨.slice e,_,_,_,_⟩=>(match tq P e with
  | some ⟨u,ag,n,zs,m⟩=>bif Nat.blt 0 n then QZ (e,⟨u,ag,n,zs,m⟩) else Q0
  | none=>Q0)
 | _=>Q0
theorem Fw {P:Program} [Tab P] {t e:TypeId} {x:TI} (h:slq P t=QZ (e,x)):SlT P t e x.ag x.n x.zs x.m:=by
 unfold slq at h
 split at h
 ·rename_i hz
  split at h
  ·rename_i u ag n zs m hy
   cases hb:Nat.blt 0 n with
   | true=>
    rw [hb] at h;obtain ⟨rfl,rfl⟩:=Prod.mk.inj<|osl h;exact (kE hz).sl (kE hy) rfl hb
   | false=>rw [hb] at h;cases h
  cases h
 cases h
def Pq (P:Program) [Tab P] (t:TypeId):Bool:=match tq P t with
 | some ⟨.slice _,_,_,_,_⟩=>QX
 | some ⟨.string,_,_,_,_⟩=>QX
 | _=>QY
theorem Ku {P:Program} [Tab P] {t:TypeId} (h:Pq P t=QX):Hm P t=QX:=by
 unfold Pq at h
 split at h
 ·rename_i hz;simp only [Hm,(kE hz).u]
 ·rename_i hz;simp only [Hm,(kE hz).u]
 cases h
section
variable {P:Program} [Tab P] {nt b0:Nat} {Q:Exit->Env->AH->Prop} {H:AH} {x y:Operand} {ops:Array Oper} {l:List Oper} {d:Tmp} {op:Op} {ty:TypeId} {pos:String} {af:Array Edge} {en:List (Nat×AV)} {fp:Nat->Fp} {i:Nat} {K:Env->AH->Prop}
variable {t u e e':TypeId} {z:TI} {α:Type} [Inhabited α] {c:α->List AV} {k xs:List α} {g:Bool} {b ver n w j q:Nat} {v:α} {a:AV}
theorem eK (hq:slq P t=QZ (e,z)) (hx:((opE en x).bind AV.cells)=QZ (c v)) (k:TO P nt b0 ops l Q (ai ((d,eL c [v])::en)) H) (hc:∀ x,(c x).length=z.n) (hF:∀ x,(c x).all (isF 9)=QX) (hn:Nat.ble z.n 16777216=QX):TO P nt b0 ops (⟨QZ d,.buildSlice t 1 #[(0,x)],ty,pos,af,Q0⟩::l) Q (ai en) H:=by
 obtain ⟨a,ha,hx⟩:=Wt.1 hx;have hs:=Fw hq;exact oN (QE.mkF [v] [c v] hs (by simp [fF ha,hx,kQ]) (by simp [hs.pos,hn]) rfl hc hF rfl) k
theorem fK (hq:slq P t=QZ (e,z)) (hx:((opE en x).bind AV.cells)=QZ (c v)) (hf:fp i=([],QY)) (k:TF P fp (i+1) l K (ai ((d,eL c [v])::en)) H) (hc:∀ x,(c x).length=z.n) (hF:∀ x,(c x).all (isF 9)=QX) (hn:Nat.ble z.n 16777216=QX):TF P fp i (⟨QZ d,.buildSlice t 1 #[(0,x)],ty,pos,af,Q0⟩::l) K (ai en) H:=by
 obtain ⟨a,ha,hx⟩:=Wt.1 hx;have hs:=Fw hq;exact fN hf (QE.mkF [v] [c v] hs (by simp [fF ha,hx,kQ]) (by simp [hs.pos,hn]) rfl hc hF rfl) k
theorem eP (hq:slq P t=QZ (e,z)) (hu:Pq P u=QX) (hx:opE en x=QZ (hS g b ver z.n n)) (hy:opE en y=QZ (eL c [v])) (hk:H[b]? = QZ (bE g ver z.n e<|xs.map c)) (hn:n=xs.length) (hg:g=QX->xs=[]) (hc:∀ x,(c x).length=z.n) (hb:bq (xs.length+1) z.m=QX)
  (k:TO P nt b0 ops l Q (ai ((d,hS QY b (ver+1) z.n (xs++[v]).length)::en))<|H.set b<|bE QY (ver+1) z.n e<|(xs++[v]).map c):TO P nt b0 ops (⟨QZ d,.call ⟨.builtin .append,#[x,y],#[t,u]⟩,ty,pos,af,Q0⟩::l) Q (ai en) H:=
 oA (EvA.app1 v (Fw hq) (Ku hu) (fF hx) hn hk hg (bh.fz (l:=[v]) (fF hy) hc) hb) k
theorem eQ (hq:slq P t=QZ (e,z)) (hu:Pq P u=QX) (hx:opE en x=QZ (hS QY b ver z.n n)) (hy:opE en y=QZ (eL c k)) (hk:H[b]? = QZ (bE QY ver z.n e<|xs.map c)) (hn:n=xs.length) (hc:∀ x,(c x).length=z.n) (hb:bq (xs.length+k.length) z.m=QX)
  (kk:TO P nt b0 ops l Q (ai ((d,hS QY b (ver+1) z.n (xs++k).length)::en))<|H.set b<|bE QY (ver+1) z.n e<|(xs++k).map c):TO P nt b0 ops (⟨QZ d,.call ⟨.builtin .append,#[x,y],#[t,u]⟩,ty,pos,af,Q0⟩::l) Q (ai en) H:=
 oA (EvA.appF k (Fw hq) (Ku hu) (fF hx) hn hk (bh.fz (fF hy) hc) hb) kk
theorem eU (hq:slq P t=QZ (e,z)) (hx:opE en x=QZ (hS g b ver w n)) (hg:g=QX->n=0) (k:TO P nt b0 ops l Q (ai ((d,I n)::en)) H):TO P nt b0 ops (⟨QZ d,.call ⟨.builtin .len,#[x],#[t]⟩,ty,pos,af,Q0⟩::l) Q (ai en) H:=oN (QE.lenO (Fw hq) (fF hx) hg) k
theorem eW {s:Nat} {ag:Bool} {n:Nat} {uu:TypeDesc} {zs:List AV} {m:Nat} (hz:tq P t=QZ ⟨uu,ag,n,zs,m⟩) (hx:opE en x=QZ (.hp b ver s q j)) (hk:H[b]? = QZ (bE g ver s e'<|xs.map c)) (hg:g=QX->xs=[]) (hi:q<xs.length) (hp:Fu ag n (c<|xs.getD q QW) j okV=QZ (Q0,a)) (k:TO P nt b0 ops l Q (ai ((d,a)::en)) H):TO P nt b0 ops (⟨QZ d,.load t x,ty,pos,af,Q0⟩::l) Q (ai en) H:=by
 obtain ⟨a',ha,h'⟩:=wz hp;obtain ⟨_,rfl⟩:=cW h';exact oA (EvA.ldO _ (kE hz).ty (fF hx) hk hg hi ha) k
theorem fW' {s:Nat} {ag:Bool} {n:Nat} {uu:TypeDesc} {zs:List AV} {m:Nat} (hz:tq P t=QZ ⟨uu,ag,n,zs,m⟩) (hx:opE en x=QZ (.hp b ver s q j)) (hk:H[b]? = QZ (bE g ver s e'<|xs.map c)) (hf:fp i=([b],QY)) (hg:g=QX->xs=[]) (hi:q<xs.length) (hp:Fu ag n (c<|xs.getD q QW) j okV=QZ (Q0,a)) (k:TF P fp (i+1) l K (ai ((d,a)::en)) H):TF P fp i (⟨QZ d,.load t x,ty,pos,af,Q0⟩::l) K (ai en) H:=by
 obtain ⟨a',ha,h'⟩:=wz hp;obtain ⟨_,rfl⟩:=cW h';exact fR [b] hf (λG hG=>EvA.ldO _ (kE hz).ty (fF hx) (hG.a0 hk) hg hi ha) k
end
attribute [local irreducible] T TO TF TG TX QE EvA
theorem go {P Q:Prop} {α:Type} {x:Option α} {r:α} (h:x=some r) (k:Q) (c:x=some r->Q->P:=by
 intro h k;have f:=True.intro
 repeat first
  | refine eM rfl ?_
  | refine fM rfl rfl ?_
  | refine eN rfl ?_
  | refine eR rfl ?_
  | refine fA rfl rfl ?_
  | refine fN' rfl rfl ?_
  | refine T.sr ?_
  | refine TO.nil ?_
  | ((first | refine jD h ?_ | refine jW h ?_);clear h;intro g h;(first | refine eG rfl g ?_ | refine fG' rfl rfl g ?_ | refine hG rfl (by first | assumption | rfl) rfl g ?_ | refine xG' rfl rfl rfl g ?_ | refine tG' rfl rfl g ?_ | refine Pp rfl (by first | assumption | rfl) rfl rfl g ?_);replace f:=And.intro g f)
  | refine eG rfl (by first | assumption | decide) ?_
  | refine fG' rfl rfl (by first | assumption | decide) ?_
  | refine eA rfl ?_
  | refine eS rfl rfl rfl ?_
  | refine eL_ rfl rfl ?_
  | refine fL' rfl rfl rfl ?_
  | refine fS' rfl rfl rfl rfl ?_
  | (refine jL h ?_;clear h;intro g h;(first | refine eP rfl rfl rfl rfl rfl rfl (by first | assumption | exact λ_=>rfl | exact λx=>Bool.noConfusion x | exact λx=>List.eq_nil_of_length_eq_zero<|by simp_all) (λ_=>rfl) g ?_ | refine eQ rfl rfl rfl rfl rfl rfl (λ_=>rfl) g ?_);replace f:=And.intro g f)
  | refine eU rfl rfl (by first | exact I3 (by assumption) rfl | exact λx=>Bool.noConfusion x | assumption) ?_
  | refine eW rfl rfl rfl (by first | assumption | exact λ_=>rfl | exact λx=>Bool.noConfusion x | exact λx=>List.eq_nil_of_length_eq_zero<|by simp_all) (bA rfl<|by assumption) rfl ?_
  | refine fW' rfl rfl rfl rfl (by first | assumption | exact λ_=>rfl | exact λx=>Bool.noConfusion x | exact λx=>List.eq_nil_of_length_eq_zero<|by simp_all) (bA rfl<|by assumption) rfl ?_
  | refine hM rfl (by first | assumption | rfl) rfl ?_
  | refine hR rfl (by first | assumption | rfl) rfl ?_
  | refine hN rfl (by first | assumption | rfl) rfl ?_
  | refine hG rfl (by first | assumption | rfl) rfl (by first | assumption | decide) ?_
  | refine gS rfl (by first | assumption | rfl) ?_
  | refine gU rfl ?_
  | refine xM rfl rfl rfl ?_
  | refine xAs rfl rfl rfl ?_
  | refine xN' rfl rfl rfl ?_
  | refine xG' rfl rfl rfl (by first | assumption | decide) ?_
  | refine tM rfl rfl ?_
  | refine tA rfl rfl ?_
  | refine tN' rfl rfl ?_
  | refine tG' rfl rfl (by first | assumption | decide) ?_
  | refine tL' rfl rfl rfl ?_
  | refine tgM rfl (by first | assumption | rfl) rfl rfl ?_
  | refine Qk rfl (by first | assumption | rfl) rfl rfl ?_
  | refine Pp rfl (by first | assumption | rfl) rfl rfl (by first | assumption | decide) ?_
  | refine tgS rfl (by first | assumption | rfl) ?_
  | refine tgU rfl ?_
  | refine T.skip ?_
  | refine T.block ?_
  | refine T.region ?_
  | refine T.ret ?_
  | refine TF.nil ?_
  | refine TG.nil ?_
  | refine TX.nil ?_
  | ((first | refine jD h ?_ | refine jW h ?_);clear h;intro g h;(first | refine eG rfl (And.intro (by first | assumption | decide) g) ?_ | refine fG' rfl rfl (And.intro (by first | assumption | decide) g) ?_);replace f:=And.intro g f)
  | ((first | refine jD h ?_ | refine jW h ?_);clear h;intro g h;(first | refine jD h ?_ | refine jW h ?_);clear h;intro g' h;(first | refine eG rfl (And.intro g g') ?_ | refine fG' rfl rfl (And.intro g g') ?_);replace f:=And.intro g'<|And.intro g f)
 revert h
 revert f
 exact k):P:=c h k
theorem gs {P Q:Prop} {α:Type} {x:Option α} {r:α} (h:x=some r) (k:Q) (c:x=some r->Q->P:=by
 intro h k;refine T.seq ?_;refine go h λf h=>?_
 revert h
 revert f
 exact k):P:=c h k
theorem gz {P:Prop} {α:Type} {x:Option α} {r:α} (h:x=some r) (c:x=some r->P:=by
 intro h;refine go h λf h=>?_;obtain rfl:=QG h;exact vq rfl rfl rfl):P:=c h
theorem gi {P Q R:Prop} {α:Type} {x:Option α} {r:α} (h:x=some r) (k:Q) (l:R) (c:x=some r->Q->R->P:=by
 intro h k l;refine go h λf h=>?_;refine T.ifH rfl h (λq h=>?_) λq h=>?_
 ·revert q h;revert f;exact k
 revert q h;revert f;exact l):P:=c h k l
theorem QT {P Q R:Prop} {α:Type} {x:Option α} {r:α} (h:x=some r) (k:Q) (l:R) (c:x=some r->Q->R->P:=by
 intro h k l;refine T.seq ?_;refine go h λf h=>?_;refine T.ifH rfl h (λq h=>?_) λq h=>?_
 ·revert q h;revert f;exact k
 revert q h;revert f;exact l):P:=c h k l
theorem gp {P Q:Prop} {α:Type} {x:Option α} {r:α} (h:x=some r) (k:Q) (c:x=some r->Q->P:=by
 intro h k;refine go h λf h=>?_
 first | refine hPT rfl (by first | assumption | rfl) rfl ?_ | refine hPF rfl (by first | assumption | rfl) rfl ?_ | refine tPT rfl (by first | assumption | rfl) rfl rfl ?_ | refine tPF rfl (by first | assumption | rfl) rfl rfl ?_
 revert h
 revert f
 exact k):P:=c h k
theorem gj {P J:Prop} {α:Type} {x:Option α} {r:α} (h:x=some r) (j:J) (c:x=some r->J->P:=by
 intro h j;refine gp h λf h=>?_;obtain rfl:=QG h;exact j _ _ (kw rfl rfl)):P:=c h j
theorem stc {m:Nat} {H:AH} {en l:List (Nat×AV)} {t:Nat} {v a:AV} (hv:Fv en t=QZ v) (h:Stl m H v a) (w:∀ q,Stl m H (ai en q)<|ai l q):∀ q,Stl m H (ai en q) (ai ((t,a)::l) q):=aj ((wA hv).symm ▸ h) w
theorem stS {m:Nat} {H:AH} {g:Bool} {b ver s n:Nat} {a:AV} (ha:a=hS g b ver s n) (hb:Nat.blt b m=QX):Stl m H a (hS g b ver s n) := .eqv ha<|.hS hb
theorem QU {p:Prop} (c:p:=by
  first
    | exact kw rfl rfl
    | (refine n9 rfl ?_ ?_
       · repeat' first
           | exact .nil
           | refine .cons ?_ ?_
           | exact .list (λ_=>rfl)
           | exact .mp (λ_=>rfl)
           | refine .row ?_
           | exact .fz .nil0
           | exact .fz (.of_isF 9 _ rfl)
           | exact stS rfl rfl
           | exact .mp (nlb rfl)
           | exact .hs (nlb rfl)
           | exact .hp (nlb rfl)
           | exact .fz (Fz.own rfl rfl rfl (by first | assumption | exact λ_=>rfl | exact λx=>Bool.noConfusion x | exact λx=>List.eq_nil_of_length_eq_zero<|by simp_all) λ_=>rfl)
       repeat' first
         | exact aF
         | refine stc rfl ?_ ?_
         | exact .fz .nil0
         | exact .fz (.of_isF 9 _ rfl)
         | exact stS rfl rfl
         | exact .mp (nlb rfl)
         | exact .hs (nlb rfl)
         | exact .hp (nlb rfl)
         | exact .fz (Fz.own rfl rfl rfl (by first | assumption | exact λ_=>rfl | exact λx=>Bool.noConfusion x | exact λx=>List.eq_nil_of_length_eq_zero<|by simp_all) λ_=>rfl)
         | refine .fz (Fz.fpL rfl rfl rfl ?_)
         | exact .nil
         | refine .cons ?_ ?_
         | exact .of_isF 9 _ rfl)):p:=c
section
variable {P:Program} {nt b0:Nat} {Q:Exit->Env->AH->Prop} {e:Env} {H:AH} {S E G W:Type} {body x y:Code} {r:E} {step:S->Option (S ⊕ E)} {s0:S} {w:W} {A:Option S} {K:S->Option W}
theorem tL (h:aB step s0=QZ r) (g0:G) (inv:S->G->Prop) (slots:S->G->List (Nat×AV)) (heap:S->G->AH) (hi:inv s0 g0)
 (round:∀ s g z,step s=QZ z->inv s g->T P nt b0 body (GJ (FL b0 inv slots heap z)<|Leave Q r z) (ai<|slots s g) (heap s g)) (hs:dz b0 e H (ai<|slots s0 g0) (heap s0 g0):=by exact QU):T P nt b0 (.loop body) Q e H:=T.loop step inv slots heap g0 h hi hs round
theorem tT (h:aB step s0=QZ r) (g0:G) (slots:S->G->List (Nat×AV)) (heap:S->G->AH)
 (round:∀ s g z,step s=QZ z->T P nt b0 body (GJ (FL b0 (λ_ _=>True) slots heap z)<|Leave Q r z) (ai<|slots s g) (heap s g)) (hs:dz b0 e H (ai<|slots s0 g0) (heap s0 g0):=by exact QU):T P nt b0 (.loop body) Q e H:=T.loop step (λ_ _=>True) slots heap g0 h trivial hs λs g z hz _=>round s g z hz
theorem tU (h:aB step s0=QZ r) (slots:S->List (Nat×AV)) (heap:S->AH)
 (round:∀ s z,step s=QZ z->T P nt b0 body (GJ (FL b0 (λ_ (_:Unit)=>True) (λs _=>slots s) (λs _=>heap s) z)<|Leave Q r z) (ai<|slots s) (heap s)) (hs:dz b0 e H (ai<|slots s0) (heap s0):=by exact QU):T P nt b0 (.loop body) Q e H:=T.lU h slots heap hs round
theorem tJ (h:A.bind K=QZ w) (slots:S->G->List (Nat×AV)) (heap:S->G->AH)
 (J:∀ s g,K s=QZ w->T P nt b0 y Q (ai<|slots s g) (heap s g)) (k:∀ s,A=QZ s->T P nt b0 x (GJ (Pk b0 (λ_=>True) (slots s)<|heap s) Q) e H):T P nt b0 (.seq x y) Q e H:=T.jF h (λ_ _=>True) slots heap (λs g h _=>J s g h) k
end
def Ny (P:Program) [Tab P] (en:List<|Nat×AV) (H:AH):List ResultVar->Option (List AV)
 | []=>QZ []
 | .tmp t::l=>(match Fv en t,Ny P en H l with
  | some v,QZ r=>QZ (v::r)
  | _,_=>Q0)
 | .cell ad t::l=>(match tq P t,Fv en ad,Ny P en H l with
  | some ⟨_,ag,n,_,_⟩,QZ (.hp b ver s i j),QZ r=>(match H[b]? with
   | some (QZ ⟨uA,s',_,rows⟩)=>bif Nat.beq uA ver&&Nat.beq s' s then (match rows[i]? with
    | some row=>(match Fu ag n row j okV with
     | some (Q0,a)=>QZ (a::r)
     | _=>Q0)
    | none=>Q0) else Q0
   | _=>Q0)
  | _,_,_=>Q0)
theorem Er {P:Program} [Tab P] {en:List (Nat×AV)} {H:AH}:∀ {l:List ResultVar} {vs:List AV},Ny P en H l=QZ vs->ResL P (ai en) H l vs
 | [],vs,h=>by
  obtain rfl:=osl h;exact .nil
 | .tmp t::l,vs,h=>by
  unfold Ny at h
  split at h
  ·rename_i v r hv hr;obtain rfl:=osl h;exact .cons (.tmp<|wA hv)<|Er hr
  cases h
 | .cell ad t::l,vs,h=>by
  unfold Ny at h
  split at h
  ·rename_i b ver s i j r hz hv hr
   split at h
   ·rename_i uA s' _ rows hk
    cases hb:(Nat.beq uA ver&&Nat.beq s' s) with
    | true=>
     rw [hb] at h;simp only [cond_true] at h
     split at h
     ·rename_i row hrow
      split at h
      ·rename_i a ha;obtain ⟨a',ha',h'⟩:=wz ha;obtain ⟨_,rfl⟩:=cW h';obtain rfl:=osl h;rw [bae] at hb;exact .cons (.cell _ (kE hz).ty (wA hv) hk (Wu hb.1) (Wu hb.2) hrow ha')<|Er hr
      cases h
     cases h
    | false=>rw [hb] at h;cases h
   cases h
  cases h
theorem Qz {P:Program} [Tab P] {fn:Func} {R:AV->AH->Prop} {en:List (Nat×AV)} {G:AH} {vs:List AV} (h:Ny P en G fn.results.toList=QZ vs) (k:R (NH vs) G):Fin P fn R .ret (ai en) G := .ret (Er h) k
theorem QA {P:Program} [Tab P] {fn:Func} {R:AV->AH->Prop} {en:List (Nat×AV)} {G:AH} {vs:List AV} (h:Ny P en G fn.results.toList=QZ vs) (k:R (NH vs) G):Fin P fn R .normal (ai en) G := .normal (Er h) k
theorem gf {P:Prop} {α:Type} {x:Option α} {r:α} (h:x=some r) (c:x=some r->P:=by
 intro h;refine go h λf h=>?_;obtain rfl:=QG h
 repeat first | refine jh ?_ | refine ji ?_
 first | refine Qz rfl ?_ | refine QA rfl ?_
 repeat' first
   | exact .of_isF 9 _ rfl
   | exact .nil
   | exact .nil0
   | refine .cons ?_ ?_
   | exact Fz.own rfl rfl (by first | rfl | simp) (by first | assumption | exact λ_=>rfl | exact λx=>Bool.noConfusion x | exact λx=>List.eq_nil_of_length_eq_zero<|by simp_all) (λ_=>rfl)
   | refine .ifc ?_
   | refine .tupL ?_
   | refine .aggL ?_
   | refine Fz.fpL rfl rfl rfl ?_):P:=c h
theorem gk {P Q:Prop} {α:Type} {x:Option α} {r:α} (h:x=some r) (k:Q) (c:x=some r->Q->P:=by
 intro h k;refine go h λf h=>?_
 first
  | refine eK (c:=cI) rfl rfl ?_ (λ_=>rfl) (λ_=>rfl) rfl
  | refine eK (c:=cY) rfl rfl ?_ (λ_=>rfl) (λ_=>rfl) rfl
  | refine eK (c:=cS) rfl rfl ?_ (λ_=>rfl) (λ_=>rfl) rfl
  | refine eK (c:=cB) rfl rfl ?_ (λ_=>rfl) (λ_=>rfl) rfl
  | refine eK (c:=cL _) rfl rfl ?_ (λ_=>rfl) (λ_=>rfl) rfl
  | refine eK rfl rfl ?_ (λ_=>rfl) (λ_=>rfl) rfl
  | refine fK (c:=cI) rfl rfl rfl ?_ (λ_=>rfl) (λ_=>rfl) rfl
  | refine fK (c:=cY) rfl rfl rfl ?_ (λ_=>rfl) (λ_=>rfl) rfl
  | refine fK (c:=cS) rfl rfl rfl ?_ (λ_=>rfl) (λ_=>rfl) rfl
  | refine fK (c:=cB) rfl rfl rfl ?_ (λ_=>rfl) (λ_=>rfl) rfl
  | refine fK (c:=cL _) rfl rfl rfl ?_ (λ_=>rfl) (λ_=>rfl) rfl
  | refine fK rfl rfl rfl ?_ (λ_=>rfl) (λ_=>rfl) rfl
 refine go h λf' h=>?_
 revert h
 revert f'
 revert f
 exact k):P:=c h k
theorem gq {P Q:Prop} {α:Type} {x:Option α} {r:α} (h:x=some r) (k:Q) (c:x=some r->Q->P:=by
 intro h k;have f:=True.intro
 repeat first
  | refine eM rfl ?_
  | refine fM rfl rfl ?_
  | refine eN rfl ?_
  | refine eR rfl ?_
  | refine fA rfl rfl ?_
  | refine fN' rfl rfl ?_
  | refine TO.nil ?_
  | ((first | refine jD h ?_ | refine jW h ?_);clear h;intro g h;(first | refine eG rfl g ?_ | refine fG' rfl rfl g ?_ | refine hG rfl (by first | assumption | rfl) rfl g ?_ | refine xG' rfl rfl rfl g ?_ | refine tG' rfl rfl g ?_ | refine Pp rfl (by first | assumption | rfl) rfl rfl g ?_);replace f:=And.intro g f)
  | refine eG rfl (by first | assumption | decide) ?_
  | refine fG' rfl rfl (by first | assumption | decide) ?_
  | refine eA rfl ?_
  | refine eS rfl rfl rfl ?_
  | refine eL_ rfl rfl ?_
  | refine fL' rfl rfl rfl ?_
  | refine fS' rfl rfl rfl rfl ?_
  | (refine jL h ?_;clear h;intro g h;(first | refine eP rfl rfl rfl rfl rfl rfl (by first | assumption | exact λ_=>rfl | exact λx=>Bool.noConfusion x | exact λx=>List.eq_nil_of_length_eq_zero<|by simp_all) (λ_=>rfl) g ?_ | refine eQ rfl rfl rfl rfl rfl rfl (λ_=>rfl) g ?_);replace f:=And.intro g f)
  | refine eU rfl rfl (by first | exact I3 (by assumption) rfl | exact λx=>Bool.noConfusion x | assumption) ?_
  | refine eW rfl rfl rfl (by first | assumption | exact λ_=>rfl | exact λx=>Bool.noConfusion x | exact λx=>List.eq_nil_of_length_eq_zero<|by simp_all) (bA rfl<|by assumption) rfl ?_
  | refine fW' rfl rfl rfl rfl (by first | assumption | exact λ_=>rfl | exact λx=>Bool.noConfusion x | exact λx=>List.eq_nil_of_length_eq_zero<|by simp_all) (bA rfl<|by assumption) rfl ?_
  | refine hM rfl (by first | assumption | rfl) rfl ?_
  | refine hR rfl (by first | assumption | rfl) rfl ?_
  | refine hN rfl (by first | assumption | rfl) rfl ?_
  | refine hG rfl (by first | assumption | rfl) rfl (by first | assumption | decide) ?_
  | refine gS rfl (by first | assumption | rfl) ?_
  | refine gU rfl ?_
  | refine xM rfl rfl rfl ?_
  | refine xAs rfl rfl rfl ?_
  | refine xN' rfl rfl rfl ?_
  | refine xG' rfl rfl rfl (by first | assumption | decide) ?_
  | refine tM rfl rfl ?_
  | refine tA rfl rfl ?_
  | refine tN' rfl rfl ?_
  | refine tG' rfl rfl (by first | assumption | decide) ?_
  | refine tL' rfl rfl rfl ?_
  | refine tgM rfl (by first | assumption | rfl) rfl rfl ?_
  | refine Qk rfl (by first | assumption | rfl) rfl rfl ?_
  | refine Pp rfl (by first | assumption | rfl) rfl rfl (by first | assumption | decide) ?_
  | refine tgS rfl (by first | assumption | rfl) ?_
  | refine tgU rfl ?_
  | refine TF.nil ?_
  | refine TG.nil ?_
  | refine TX.nil ?_
  | ((first | refine jD h ?_ | refine jW h ?_);clear h;intro g h;(first | refine eG rfl (And.intro (by first | assumption | decide) g) ?_ | refine fG' rfl rfl (And.intro (by first | assumption | decide) g) ?_);replace f:=And.intro g f)
  | ((first | refine jD h ?_ | refine jW h ?_);clear h;intro g h;(first | refine jD h ?_ | refine jW h ?_);clear h;intro g' h;(first | refine eG rfl (And.intro g g') ?_ | refine fG' rfl rfl (And.intro g g') ?_);replace f:=And.intro g'<|And.intro g f)
 revert h
 revert f
 exact k):P:=c h k
set_option maxRecDepth 100000
noncomputable instance:Tab Q4:=⟨[.m Tryz.underlying2 QY 1 [I (0:Int)] 8,.m Tryz.underlying3 QY 1 [I (0:Int)] 8,.m Tryz.underlying4 QY 1 [Bo QY] 1,.m Tryz.underlying5 QY 1 [Y (0:Int)] 1,.m Tryz.underlying6 QY 1 [Y (0:Int)] 1,.m Tryz.underlying9 QY 1 [St (⟨#[]⟩:BA)] 16,.m Tryz.underlying12 QY 1 [.v (.int .u64 (0:Int))] 8,.m Tryz.underlying21 QY 1 [.v (.int .i32 (0:Int))] 4,.m Tryz.underlying22 QY 1 [.nil] 24,.m Tryz.underlying23 QY 1 [.nil] 24,.m Tryz.underlying24 QY 1 [.nil] 24,.m Tryz.underlying25 QY 1 [.nil] 24,.m Tryz.underlying27 QX 2 [.nil,.nil] 48,.m Tryz.underlying34 QY 1 [.nil] 24,.m Tryz.underlying51 QY 1 [.nil] 24,.m Tryz.underlying52 QY 1 [.nil] 24,.m Tryz.underlying57 QY 1 [.nil] 24,.m Tryz.underlying60 QX 5 [I (0:Int),I (0:Int),I (0:Int),Bo QY,Bo QY] 32,.m Tryz.underlying73 QY 1 [.nil] 24,.m Tryz.underlying79 QX 4 [I (0:Int),I (0:Int),I (0:Int),I (0:Int)] 32,.m Tryz.underlying91 QY 1 [.v (.map Q0)] 8,.m Tryz.underlying93 QX 6 [.nil,.nil,.nil,.nil,.nil,.v (.map Q0)] 128,.m Tryz.underlying95 QX 3 [I (0:Int),I (0:Int),I (0:Int)] 24,.m Tryz.underlying108 QY 1 [.v (.int .u64 (0:Int))] 8,.m Tryz.underlying114 QY 1 [.nil] 24,.m Tryz.underlying116 QX 3 [I (0:Int),St (⟨#[]⟩:BA),.nil] 48,.m Tryz.underlying120 QX 4 [I (0:Int),I (0:Int),St (⟨#[]⟩:BA),.nil] 56,.m Tryz.underlying138 QY 1 [.nil] 24,.m Tryz.underlying140 QX 6 [.nil,.nil,.nil,.nil,.nil,.nil] 144,.m Tryz.underlying151 QY 1 [.nil] 24,.m Tryz.underlying157 QX 2 [.nil,I (0:Int)] 32,.m Tryz.underlying162 QY 1 [I (0:Int)] 8,.m Tryz.underlying168 QY 1 [.v (.int .u32 (0:Int))] 4,.m Tryz.underlying170 QY 1 [.v (.int .u64 (0:Int))] 8,.m Tryz.underlying174 QX 2 [St (⟨#[]⟩:BA),Bo QY] 24,.m Tryz.underlying184 QX 3 [Y (0:Int),Y (0:Int),Y (0:Int)] 3,.m Tryz.underlying185 QX 9 [Y (0:Int),Y (0:Int),Y (0:Int),Y (0:Int),Y (0:Int),Y (0:Int),Y (0:Int),Y (0:Int),Y (0:Int)] 9,.m Tryz.underlying187 QX 16 [.nil,Y (0:Int),Y (0:Int),Y (0:Int),Y (0:Int),Y (0:Int),Y (0:Int),Y (0:Int),Y (0:Int),Y (0:Int),Y (0:Int),Y (0:Int),Y (0:Int),Y (0:Int),Y (0:Int),Y (0:Int)] 40,.m Tryz.underlying189 QX 16 [.nil,Y (0:Int),Y (0:Int),Y (0:Int),Y (0:Int),Y (0:Int),Y (0:Int),Y (0:Int),Y (0:Int),Y (0:Int),Y (0:Int),Y (0:Int),Y (0:Int),Y (0:Int),Y (0:Int),Y (0:Int)] 40,.m Tryz.underlying216 QY 1 [.v (.int .u64 (0:Int))] 8,.m Tryz.underlying277 QX 2 [Y (0:Int),Y (0:Int)] 2,.m Tryz.underlying288 QY 1 [Y (0:Int)] 1,.m Tryz.underlying289 QY 1 [Y (0:Int)] 1,.m Tryz.underlying291 QY 1 [.v (.int .i32 (0:Int))] 4,.m Tryz.underlying292 QY 1 [.v (.int .i32 (0:Int))] 4,.m Tryz.underlying15 QY 1 [.v (.pointer Q0)] 8,.m Tryz.underlying16 QY 1 [.v (.pointer Q0)] 8,.m Tryz.underlying17 QY 1 [.v (.pointer Q0)] 8,.m Tryz.underlying84 QY 1 [.v (.pointer Q0)] 8,.m Tryz.underlying89 QY 1 [.v (.pointer Q0)] 8,.m Tryz.underlying137 QY 1 [.v (.pointer Q0)] 8,.m Tryz.underlying172 QY 1 [.v (.pointer Q0)] 8,.m Tryz.underlying183 QY 1 [.v (.pointer Q0)] 8,.m Tryz.underlying196 QY 1 [.v (.pointer Q0)] 8,.m Tryz.underlying220 QY 1 [.v (.pointer Q0)] 8,.m Tryz.underlying242 QY 1 [.v (.pointer Q0)] 8,.m Tryz.underlying247 QY 1 [.v (.pointer Q0)] 8,.m Tryz.underlying298 QY 1 [.v (.pointer Q0)] 8]⟩
theorem wK (x:QH) {q} (h:iI x=QZ q):ax Q4 80 [.agg (QH.c x)] (Bo q):=by
 refine pM func80 Z (by kernel_rfl) Z<|go h λ_ h=>?_;refine eF Z Z Z<|go h λ_ h=>?_;refine TO.jB h 4 (λs1=>[(10,Bo s1)]) (λs1=>[]) (λs1 q2 h js1=>?_) (λs1 q2 h js1=>?_) λs1 h=>?_
 ·exact gj h js1
 ·exact gj h js1
 exact gz h
theorem vJ (x:QH) {q} (h:gH x=QZ q):ax Q4 81 [.agg (QH.c x)] (Bo q):=by
 refine pM func81 Z (by kernel_rfl) Z<|go h λ_ h=>?_;refine eF Z Z Z<|go h λ_ h=>?_;refine TO.jB h 4 (λs1=>[(10,Bo s1),(1,.fp (QH.c x) 0)]) (λs1=>[]) (λs1 q2 h js1=>?_) (λs1 q2 h js1=>?_) λs1 h=>?_
 ·exact gj h js1
 ·exact gj h js1
 refine go h λ_ h=>?_;refine TO.jB h 4 (λs3=>[(15,Bo s3)]) (λs3=>[]) (λs3 q4 h js3=>?_) (λs3 q4 h js3=>?_) λs3 h=>?_
 ·exact gj h js3
 ·exact gj h js3
 exact gz h
theorem mh (p:List<|List QH) {q} (h:gI p=QZ q):ax Q4 30 [eL (cL QH.c) p] (eL QJ.c q):=by
 refine pM func30 Z (by kernel_rfl) Z<|jI ?_;refine gq h λ_ h=>?_;refine jH<|T.reserve ?_;refine go h λ_ h=>?_;refine T.jF (G:=(Bool×Nat)) h (λs1 gh=>(gh.1=QX->s1=[])) (λs1 gh=>[(3,hS gh.1 0 gh.2 5 s1.length),(0,eL (cL QH.c) p)]) (λs1 gh=>[bE gh.1 gh.2 5 60 (s1.map QJ.c)]) (λs1 gh h n17=>?_) λs1 h=>?_
 ·obtain ⟨b16,u15⟩:=gh;refine T.jF (G:=(Bool×Nat)) h (λs18 gh=>(gh.1=QX->s18=[])) (λs18 gh=>[(3,hS gh.1 0 gh.2 5 s18.length)]) (λs18 gh=>[bE gh.1 gh.2 5 60 (s18.map QJ.c)]) (λs18 gh h n59=>?_) λs18 h=>?_
  ·obtain ⟨b58,u57⟩:=gh;exact gf h
  refine go h λ_ h=>?_;refine tL h (b16,u15) (λs24 gh=>(gh.1=QX->s24.1=[])) (λs24 gh=>[(21,I s24.2),(20,I (p.length:Int)),(19,eL (cL QH.c) p),(3,hS gh.1 0 gh.2 5 s24.1.length)]) (λs24 gh=>[bE gh.1 gh.2 5 60 (s24.1.map QJ.c)]) n17 λs24 gh ws24 h n28=>?_;obtain ⟨b27,u26⟩:=gh;refine go h λ_ h=>?_;refine jH ?_;refine jN Z h (λq29 h=>?_) λq29 h=>?_
  ·refine go h λ_ h=>?_;refine T.jF (G:=(Bool×Nat)) h (λs30 gh=>(gh.1=QX->s30=[])) (λs30 gh=>[(21,I s24.2),(20,I (p.length:Int)),(19,eL (cL QH.c) p),(3,hS gh.1 0 gh.2 5 s30.length)]) (λs30 gh=>[bE gh.1 gh.2 5 60 (s30.map QJ.c)]) (λs30 gh h n55=>?_) λs30 h=>?_
   ·obtain ⟨b54,u53⟩:=gh;refine go h λ_ h=>?_;obtain rfl:=QG h;exact ⟨(s30,(s24.2+V)),(b54,u53),Z,n55,QU⟩
   refine go h λ_ h=>?_;refine tL h (b27,u26) (λs37 gh=>(gh.1=QX->s37.1=[])) (λs37 gh=>[(28,I s37.2),(27,I ((J p s24.2).length:Int)),(26,eL QH.c<|J p s24.2),(5,I s24.2),(21,I s24.2),(20,I (p.length:Int)),(19,eL (cL QH.c) p),(3,hS gh.1 0 gh.2 5 s37.1.length)]) (λs37 gh=>[bE gh.1 gh.2 5 60 (s37.1.map QJ.c)]) n28 λs37 gh ws37 h n41=>?_;obtain ⟨b40,u39⟩:=gh;refine go h λ_ h=>?_;refine jH ?_;refine jN Z h (λq42 h=>?_) λq42 h=>?_
   ·refine go h λ_ h=>?_;refine T.jF (G:=(Bool×Nat)) h (λs43 gh=>(gh.1=QX->s43=[])) (λs43 gh=>[(3,hS gh.1 0 gh.2 5 s43.length),(28,I s37.2),(27,I ((J p s24.2).length:Int)),(26,eL QH.c<|J p s24.2),(5,I s24.2),(21,I s24.2),(20,I (p.length:Int)),(19,eL (cL QH.c) p)]) (λs43 gh=>[bE gh.1 gh.2 5 60 (s43.map QJ.c)]) (λs43 gh h n51=>?_) λs43 h=>?_
    ·obtain ⟨b50,u49⟩:=gh;refine go h λ_ h=>?_;obtain rfl:=QG h;exact ⟨(s43,(s37.2+V)),(b50,u49),Z,n51,QU⟩
    refine gi h (λ_ q45 h=>?_) λ_ q45 h=>?_
    ·refine jP (dG [dF,dF,dF,dF,([1],QY),([1],QY),dF,([1],QY),dF,dF,dF,([0],QX),dF]) (by kernel_rfl) (by kernel_rfl)<|go h λ_ h=>?_;refine fC h (λ_=>wK _) Z Z Z Z Z λv46 _ h=>(go h λ_ h=>?_);refine fC h (λ_=>vJ _) Z Z Z Z Z λv47 _ h=>(go h λ_ h=>?_);refine fN Z (QE.mkF (c:=QJ.c) ([(⟨s24.2,s37.2,(J (J p s24.2) s37.2).Loc,v46,v47⟩:QJ)]:List QJ) [[I s24.2,I s37.2,I ((J (J p s24.2) s37.2).Loc),Bo v46,Bo v47]] Mf Z Z Z qD QJ.isF Z)<|jL h λg48 h=>fW 0 [] Z Z (λG hG=>EvA.app1 (g:=b40) (l:=s37.1) (⟨s24.2,s37.2,(J (J p s24.2) s37.2).Loc,v46,v47⟩:QJ) Mf (by kernel_rfl) Z Z (hG.a0 Z) n41 (bh.fz (l:=([(⟨s24.2,s37.2,(J (J p s24.2) s37.2).Loc,v46,v47⟩:QJ)]:List QJ)) Z qD) g48) ?_;refine go h λ_ h=>?_
     cases h
     exact ⟨(QY,u39+1),nofun,QU⟩
    refine go h λ_ h=>?_
    cases h
    exact ⟨(b40,u39),n41,QU⟩
   refine jM<|lX h λh=>?_
   cases h
   exact ⟨(b40,u39),n41,QU⟩
  refine jM<|lX h λh=>?_
  cases h
  exact ⟨(b27,u26),n28,QU⟩
 refine go h λ_ h=>?_;refine tL h (QX,0) (λs7 gh=>(gh.1=QX->s7.1=[])) (λs7 gh=>[(9,I s7.2),(3,hS gh.1 0 gh.2 5 s7.1.length),(0,eL (cL QH.c) p)]) (λs7 gh=>[bE gh.1 gh.2 5 60 (s7.1.map QJ.c)]) qD λs7 gh ws7 h n11=>?_;obtain ⟨b10,u9⟩:=gh;refine go h λ_ h=>?_;refine jH ?_;refine jN Z h (λq12 h=>?_) λq12 h=>?_
 ·refine go h λ_ h=>?_;refine gs h λ_ h=>?_;refine oN (QE.mkF (c:=QJ.c) ([(⟨(-1:Int),s7.2,s7.2,QY,QX⟩:QJ)]:List QJ) [[I (-1:Int),I s7.2,I s7.2,Bo QY,Bo QX]] Mf Z Z Z qD QJ.isF Z)<|go h λ_ h=>?_;obtain rfl:=QG h;exact ⟨((s7.1++[(⟨(-1:Int),s7.2,s7.2,QY,QX⟩:QJ)]),(s7.2+V)),(QY,u9+1),Z,nofun,QU⟩
 refine jM<|lX h λh=>?_
 cases h
 exact ⟨(b10,u9),n11,QU⟩
theorem rJ (list:List QJ) (loc:Int) {q} (h:gY list loc=QZ q):ax Q4 32 [eL QJ.c list,I loc] (eL cI q):=by
 refine pM func32 Z (by kernel_rfl) Z<|jI ?_;refine gq h λ_ h=>?_;refine jH<|T.reserve ?_;refine go h λ_ h=>?_;refine T.jF (G:=(Bool×Nat)) h (λs1 gh=>(gh.1=QX->s1=[])) (λs1 gh=>[(5,hS gh.1 0 gh.2 1 s1.length)]) (λs1 gh=>[bE gh.1 gh.2 1 3 (s1.map cI)]) (λs1 gh h n25=>?_) λs1 h=>?_
 ·obtain ⟨b24,u23⟩:=gh;exact gf h
 refine go h λ_ h=>?_;refine tL h (QX,0) (λs7 gh=>(gh.1=QX->s7.1=[])) (λs7 gh=>[(10,I s7.2),(9,I (list.length:Int)),(8,eL QJ.c list),(5,hS gh.1 0 gh.2 1 s7.1.length),(1,I loc)]) (λs7 gh=>[bE gh.1 gh.2 1 3 (s7.1.map cI)]) qD λs7 gh ws7 h n11=>?_;obtain ⟨b10,u9⟩:=gh;refine go h λ_ h=>?_;refine jH ?_;refine jN Z h (λq12 h=>?_) λq12 h=>?_
 ·refine go h λ_ h=>?_;refine T.jF (G:=(Bool×Nat)) h (λs13 gh=>(gh.1=QX->s13=[])) (λs13 gh=>[(5,hS gh.1 0 gh.2 1 s13.length),(10,I s7.2),(9,I (list.length:Int)),(8,eL QJ.c list),(1,I loc)]) (λs13 gh=>[bE gh.1 gh.2 1 3 (s13.map cI)]) (λs13 gh h n21=>?_) λs13 h=>?_
  ·obtain ⟨b20,u19⟩:=gh;refine go h λ_ h=>?_;obtain rfl:=QG h;exact ⟨(s13,(s7.2+V)),(b20,u19),Z,n21,QU⟩
  refine go h λ_ h=>?_;refine TO.jB h 5 (λs15=>[(22,Bo s15),(6,I s7.2),(10,I s7.2),(9,I (list.length:Int)),(8,eL QJ.c list),(5,hS b10 0 u9 1 s7.1.length),(1,I loc)]) (λs15=>[bE b10 u9 1 3 (s7.1.map cI),QZ ⟨0,5,60,[(QJ.c<|J list s7.2)]⟩]) (λs15 q16 h js15=>?_) (λs15 q16 h js15=>?_) λs15 h=>?_
  ·refine go h λ_ h=>?_;refine gA Z q16 (lh (I<|(J list s7.2).Loc) QS Z Z Z) ?_;exact gj h js15
  ·exact gj h js15
  refine gi h (λ_ q17 h=>?_) λ_ q17 h=>?_
  ·refine gk h λ_ _ h=>?_
   cases h
   exact ⟨(QY,u9+1),nofun,QU⟩
  refine go h λ_ h=>?_
  cases h
  exact ⟨(b10,u9),n11,QU⟩
 refine jM<|lX h λh=>?_
 cases h
 exact ⟨(b10,u9),n11,QU⟩
theorem gB (s:LI) (v:Int) {q} (h:aZ s v=QZ q):ax Q4 82 [eL cI s,I v] (I q):=by
 refine pM func82 Z (by kernel_rfl) Z<|go h λ_ h=>?_;obtain ⟨Ks1,es1,ws1,h,ks1⟩:=tX h;refine T.join (S:=Unit) (G:=Unit) (λs1=>Ks1 s1=QZ q) (λs1 gh=>True) (λs1 gh=>[]) (λs1 gh=>[]) (λs1 gh h hg=>?_) ?_
 ·clear ks1;subst es1;exact gz h
 refine go h λ_ h=>?_;refine tU h (λs4=>[(8,I s4),(7,I (s.length:Int)),(0,eL cI s),(1,I v)]) (λs4=>[]) λs4 ws4 h=>?_;refine go h λ_ h=>?_;refine jH ?_;refine jN Z h (λq6 h=>?_) λq6 h=>?_
 ·refine go h λ_ h=>?_;refine QT h (λ_ q8 h=>?_) λ_ q8 h=>?_
  ·refine go h λ_ h=>?_;refine lX h λh=>?_;obtain rfl:=QG h;replace h:=congrArg QZ (show _=_ from ks1);exact gz h
  refine go h λ_ h=>?_;exact lE h QU
 refine jM<|lX h λh=>?_
 cases h
 exact ⟨(),(),ks1,trivial,QU⟩
theorem qL (s:LI) (v:Int) {q} (h:cz s v=QZ q):ax Q4 31 [eL cI s,I v] (Bo q):=by
 refine pM func31 Z (by kernel_rfl) Z<|go h λ_ h=>?_;refine oC h (λ_=>gB _ _) Z Z Z Z λv1 _ h=>?_;exact gz h
theorem fw (s:LI) {q} (h:bz s=QZ q):fG Q4 33 [eL cI s] [] (Od 1 3 (λx=>x) q.length (q.map cI) 0 []):=by
 refine fG.mkO func33 Z (by kernel_rfl) Z (by kernel_rfl) (e0:=ai [(0,eL cI s)]) (QD Z wkN) GN (CJ qD)<|go h λ_ h=>?_;refine gs h λ_ h=>?_;refine Qm QY Tryz.underlying24 Z Z (λz1=>?_) ?_
 ·replace h:=(I5 h).1 (by rw [z1];rfl);refine go h λ_ h=>?_;refine T.cond Z (λ_=>?_) λq=>absurd (q.symm.trans Z) (by decide);refine go h λ_ h=>?_;obtain rfl:=QG h
  repeat (first|refine jh ?_|refine ji ?_)
  exact jQ (vs:=[.nil]) (.cons (.tmp Z) .nil) ⟨0,QX,0,λ_=>Z,Z,nofun⟩
 replace h:=(I5 h).2;refine go h λ_ h=>?_;refine T.cond Z (λq=>absurd (q.symm.trans Z)<|by decide) λ_=>?_;refine go h λ_ h=>?_;refine oA (EvA.mkO (c:=cI) ([]:LI) [] je Z Z Z qD Z Z)<|go h λ_ h=>?_;obtain rfl:=QG h
 repeat (first|refine jh ?_|refine ji ?_)
 exact jQ (vs:=[hS QY 0 (0+1) 1 ((([]:LI)++s).length)]) (.cons (.tmp Z) .nil) ⟨0,QY,0+1,nofun,Z,ownB Z⟩
theorem tC (s1_:LI) (s2_:LI) {q} (h:dH s1_ s2_=QZ q):ax Q4 35 [eL cI s1_,eL cI s2_] (Bo q):=by
 refine pM func35 Z (by kernel_rfl) Z<|go h λ_ h=>?_;refine QT h (λ_ q1 h=>?_) λ_ q1 h=>?_
 ·exact gz h
 refine go h λ_ h=>?_;obtain ⟨Ks2,es2,ws2,h,ks2⟩:=tX h;refine T.join (S:=Unit) (G:=Unit) (λs2=>Ks2 s2=QZ q) (λs2 gh=>True) (λs2 gh=>[]) (λs2 gh=>[]) (λs2 gh h hg=>?_) ?_
 ·clear ks2;subst es2;exact gz h
 refine go h λ_ h=>?_;refine tU h (λs5=>[(13,I s5),(12,I (s1_.length:Int)),(0,eL cI s1_),(1,eL cI s2_)]) (λs5=>[]) λs5 ws5 h=>?_;refine go h λ_ h=>?_;refine jH ?_;refine jN Z h (λq7 h=>?_) λq7 h=>?_
 ·refine go h λ_ h=>?_;refine gs h λ_ h=>?_;refine jH<|T.drawP (by kernel_rfl) (by kernel_rfl) ?_;refine gi h (λ_ q10 h=>?_) λ_ q10 h=>?_
  ·refine go h λ_ h=>?_;refine lX h λh=>?_;obtain rfl:=QG h;replace h:=congrArg QZ (show _=_ from ks2);exact gz h
  refine go h λ_ h=>?_;exact lE h QU
 refine jM<|lX h λh=>?_
 cases h
 exact ⟨(),(),ks2,trivial,QU⟩
theorem mo (p:List<|List QH) (x:QI) {q} (h:bH p x=QZ q):ax Q4 10 [eL (cL QH.c) p,.agg (QI.c x)] (Bo q):=by
 refine pM func10 Z (by kernel_rfl) Z<|go h λ_ h=>?_;refine eF Z Z Z<|go h λ_ h=>?_;refine gs h λ_ h=>?_;refine oC h (λ_=>vI _) Z Z Z Z λv1 _ h=>?_;refine gi h (λ_ q2 h=>?_) λ_ q2 h=>?_
 ·exact gz h
 refine go h λ_ h=>?_;refine oC h (λ_=>mh _) Z Z Z Z λv3 _ h=>(go h λ_ h=>?_);refine gs h λ_ h=>?_;refine TO.jB h 5 (λs4=>[(28,Bo s4),(5,eL QJ.c v3),(3,.fp (QI.c x) 0)]) (λs4=>[]) (λs4 q5 h js4=>?_) (λs4 q5 h js4=>?_) λs4 h=>?_
 ·exact gj h js4
 ·exact gj h js4
 refine gi h (λ_ q6 h=>?_) λ_ q6 h=>?_
 ·exact gz h
 refine go h λ_ h=>?_;obtain ⟨Ks7,es7,ws7,h,ks7⟩:=tX h;refine T.join (S:=Unit) (G:=Unit) (λs7=>Ks7 s7=QZ q) (λs7 gh=>True) (λs7 gh=>[(5,eL QJ.c v3),(3,.fp (QI.c x) 0)]) (λs7 gh=>[]) (λs7 gh h hg=>?_) ?_
 ·clear ks7;subst es7;obtain ⟨Ks27,es27,ws27,h,ks27⟩:=tX h;refine T.join (S:=Unit) (G:=Unit) (λs27=>Ks27 s27=QZ q) (λs27 gh=>True) (λs27 gh=>[]) (λs27 gh=>[]) (λs27 gh h hg=>?_) ?_
  ·clear ks27;subst es27;exact gz h
  refine go h λ_ h=>?_;refine tU h (λs30=>[(70,I s30),(69,I (x.Order.length:Int)),(68,eL (cL cI) x.Order),(5,eL QJ.c v3)]) (λs30=>[]) λs30 ws30 h=>?_;refine go h λ_ h=>?_;refine jH ?_;refine jN Z h (λq32 h=>?_) λq32 h=>?_
  ·refine go h λ_ h=>?_;refine gs h λ_ h=>?_;refine jB h λv34 cv34 h=>?_;refine oG Z Z Z ((fw (J x.Order s30) cv34).own Z (CJ qD) GN 0 Z) λg35 v36 n37=>?_;refine go h λ_ h=>?_;refine jB h λv38 cv38 h=>oA (EvA.call Z Z Z<|(Cr v34 g35 v36 (λx=>Wv<|n37 x) cv38).oneE Z (.cons (mQ Z) .nil) (CJ qD) (CJ qD) Z)<|go h λ_ h=>?_;refine oC h (λ_=>rJ _ _) Z Z Z Z λv39 _ h=>jB h λv40 cv40 h=>oA (EvA.callT Z Z (tC v38 v39 cv40) (.cons (Fz.own (g:=g35) (ver:=v36) (l:=v38) Z Z (zb cv38).symm (λx=>za ((λx=>Wv<|n37 x) x) cv38) qD)<|.cons (qC Z) .nil) Z)<|go h λ_ h=>?_;refine TO.jB h 6 (λs41=>[(91,Bo s41),(70,I s30),(69,I (x.Order.length:Int)),(68,eL (cL cI) x.Order),(5,eL QJ.c v3)]) (λs41=>[bE g35 v36 1 3 (v38.map cI)]) (λs41 q42 h js41=>?_) (λs41 q42 h js41=>?_) λs41 h=>?_
   ·exact gj h js41
   ·exact gj h js41
   refine gi h (λ_ q44 h=>?_) λ_ q44 h=>?_
   ·refine go h λ_ h=>?_;refine lX h λh=>?_;obtain rfl:=QG h;replace h:=congrArg QZ (show _=_ from ks27);exact gz h
   refine go h λ_ h=>?_;exact lE h QU
  refine jM<|lX h λh=>?_
  cases h
  exact ⟨(),(),ks27,trivial,QU⟩
 refine go h λ_ h=>?_;refine tU h (λs10=>[(31,I s10),(30,I (v3.length:Int)),(29,eL QJ.c v3),(5,eL QJ.c v3),(3,.fp (QI.c x) 0)]) (λs10=>[]) λs10 ws10 h=>?_;refine go h λ_ h=>?_;refine jH ?_;refine jN Z h (λq12 h=>?_) λq12 h=>?_
 ·refine go h λ_ h=>?_;refine gs h λ_ h=>?_;refine TO.jB h 3 (λs15=>[(47,Bo s15),(8,I<|J x.From s10),(6,I s10),(7,.hp 0 0 5 0 0),(31,I s10),(30,I (v3.length:Int)),(29,eL QJ.c v3),(5,eL QJ.c v3),(3,.fp (QI.c x) 0)]) (λs15=>[QZ ⟨0,5,60,[(QJ.c<|J v3 s10)]⟩]) (λs15 q16 h js15=>?_) (λs15 q16 h js15=>?_) λs15 h=>?_
  ·exact gj h js15
  ·exact gj h js15
  refine go h λ_ h=>?_;refine TO.jB h 17 (λs17=>[(65,Bo s17),(31,I s10),(30,I (v3.length:Int)),(29,eL QJ.c v3),(5,eL QJ.c v3),(3,.fp (QI.c x) 0)]) (λs17=>[QZ ⟨0,5,60,[(QJ.c<|J v3 s10)]⟩]) (λs17 q18 h js17=>?_) (λs17 q18 h js17=>?_) λs17 h=>?_
  ·exact gj h js17
  ·refine go h λ_ h=>?_;refine gA Z q18 (lh (Bo<|(J v3 s10).Reads) ty4 Z Z Z)<|go h λ_ h=>?_;refine TO.jB h 13 (λs19=>[(64,Bo s19),(51,Bo<|(J v3 s10).Reads),(50,Bo<|(J v3 s10).Reads),(49,.hp 0 0 5 0 3),(48,Bo s15),(31,I s10),(30,I (v3.length:Int)),(29,eL QJ.c v3),(5,eL QJ.c v3),(3,.fp (QI.c x) 0)]) (λs19=>[QZ ⟨0,5,60,[(QJ.c<|J v3 s10)]⟩]) (λs19 q20 h js19=>?_) (λs19 q20 h js19=>?_) λs19 h=>?_
   ·refine go h λ_ h=>?_;refine TO.jB h 8 (λs21=>[(63,Bo s21),(55,Bo<|(J x.From s10)==s10),(54,Bo<|(J x.From s10)==s10),(53,I s10),(52,I<|J x.From s10),(51,Bo<|(J v3 s10).Reads),(50,Bo<|(J v3 s10).Reads),(49,.hp 0 0 5 0 3),(48,Bo s15),(31,I s10),(30,I (v3.length:Int)),(29,eL QJ.c v3),(5,eL QJ.c v3),(3,.fp (QI.c x) 0)]) (λs21=>[QZ ⟨0,5,60,[(QJ.c<|J v3 s10)]⟩]) (λs21 q22 h js21=>?_) (λs21 q22 h js21=>?_) λs21 h=>?_
    ·refine go h λ_ h=>?_;refine gN Z q20 (QE.pickT Z q22 (Bo QX) Z) ?_
     cases h
     exact js21 _ _ QU
    ·refine go h λ_ h=>?_;refine gA Z q22 (lh (I<|(J v3 s10).Loc) QS Z Z Z)<|jB h λv23 cv23 h=>gN Z q22 (QE.call Z Z Z (rJ v3 ((J v3 s10).Loc) cv23) Z) ?_;refine go h λ_ h=>?_;refine jB h λv24 cv24 h=>gN Z q22 (QE.call Z Z Z (qL v23 (J x.From s10) cv24) Z)<|go h λ_ h=>?_;refine gN Z q20 (QE.pickF Z q22 (Bo<|!v24) Z) ?_
     cases h
     exact js21 _ _ QU
    refine gN Z q18 (QE.pickT Z q20 (Bo s21) Z) ?_
    cases h
    exact js19 _ _ QU
   ·refine go h λ_ h=>?_;refine gN Z q18 (QE.pickF Z q20 (Bo QY) Z) ?_
    cases h
    exact js19 _ _ QU
   exact gj h js17
  refine gi h (λ_ q25 h=>?_) λ_ q25 h=>?_
  ·refine go h λ_ h=>?_;refine lX h λh=>?_;obtain rfl:=QG h;replace h:=congrArg QZ (show _=_ from ks7);exact gz h
  refine go h λ_ h=>?_;exact lE h QU
 refine jM<|lX h λh=>?_
 cases h
 exact ⟨(),(),ks7,trivial,QU⟩
theorem Ao (x:QH) {q} (h:nB x=QZ q):ax Q4 130 [.agg (QH.c x)] (Bo q):=by
 refine pM func130 Z (by kernel_rfl) Z<|go h λ_ h=>?_;refine eF Z Z Z<|go h λ_ h=>?_;refine TO.jB h 4 (λs1=>[(10,Bo s1)]) (λs1=>[]) (λs1 q2 h js1=>?_) (λs1 q2 h js1=>?_) λs1 h=>?_
 ·exact gj h js1
 ·exact gj h js1
 exact gz h
theorem zC (x:QH) {q} (h:lH x=QZ q):ax Q4 131 [.agg (QH.c x)] (Bo q):=by
 refine pM func131 Z (by kernel_rfl) Z<|go h λ_ h=>?_;refine eF Z Z Z<|go h λ_ h=>?_;refine TO.jB h 4 (λs1=>[(10,Bo s1),(1,.fp (QH.c x) 0)]) (λs1=>[]) (λs1 q2 h js1=>?_) (λs1 q2 h js1=>?_) λs1 h=>?_
 ·exact gj h js1
 ·exact gj h js1
 refine go h λ_ h=>?_;refine TO.jB h 4 (λs3=>[(15,Bo s3)]) (λs3=>[]) (λs3 q4 h js3=>?_) (λs3 q4 h js3=>?_) λs3 h=>?_
 ·exact gj h js3
 ·exact gj h js3
 exact gz h
theorem gD (p:List<|List QH) {q} (h:cF p=QZ q):ax Q4 68 [eL (cL QH.c) p] (eL QJ.c q):=by
 refine pM func68 Z (by kernel_rfl) Z<|go h λ_ h=>?_;refine oA (EvA.mkO (c:=QJ.c) ([]:List QJ) [] Mf Z Z Z qD Z Z)<|go h λ_ h=>?_;refine tJ h (λs1 gh=>[(3,hS QY 0 gh 5 s1.length),(0,eL (cL QH.c) p)]) (λs1 gh=>[bE QY gh 5 60 (s1.map QJ.c)]) (λs1 u11 h=>?_) λs1 h=>?_
 ·refine tJ h (λs12 gh=>[(3,hS QY 0 gh 5 s12.length)]) (λs12 gh=>[bE QY gh 5 60 (s12.map QJ.c)]) (λs12 u39 h=>?_) λs12 h=>?_
  ·exact gf h
  refine go h λ_ h=>?_;refine tT h u11 (λs16 gh=>[(5,I s16.2),(3,hS QY 0 gh 5 s16.1.length),(0,eL (cL QH.c) p)]) (λs16 gh=>[bE QY gh 5 60 (s16.1.map QJ.c)]) λs16 u18 ws16 h=>?_;refine QT h (λ_ q19 h=>?_) λ_ q19 h=>?_
  ·refine go h λ_ h=>?_;refine tJ h (λs20 gh=>[(5,I s16.2),(3,hS QY 0 gh 5 s20.length),(0,eL (cL QH.c) p)]) (λs20 gh=>[bE QY gh 5 60 (s20.map QJ.c)]) (λs20 u37 h=>?_) λs20 h=>?_
   ·refine go h λ_ h=>?_;obtain rfl:=QG h;exact ⟨(s20,(s16.2+V)),u37,Z,trivial,QU⟩
   refine go h λ_ h=>?_;refine tT h u18 (λs24 gh=>[(6,I s24.2),(5,I s16.2),(3,hS QY 0 gh 5 s24.1.length),(0,eL (cL QH.c) p)]) (λs24 gh=>[bE QY gh 5 60 (s24.1.map QJ.c)]) λs24 u26 ws24 h=>?_;refine gs h λf h=>?_;obtain ⟨g27,_⟩:=f;refine jN Z h (λq28 h=>?_) λq28 h=>?_
   ·refine go h λ_ h=>?_;refine tJ h (λs29 gh=>[(3,hS QY 0 gh 5 s29.length),(6,I s24.2),(5,I s16.2),(0,eL (cL QH.c) p)]) (λs29 gh=>[bE QY gh 5 60 (s29.map QJ.c)]) (λs29 u35 h=>?_) λs29 h=>?_
    ·refine go h λ_ h=>?_;obtain rfl:=QG h;exact ⟨(s29,(s24.2+V)),u35,Z,trivial,QU⟩
    refine gi h (λ_ q31 h=>?_) λ_ q31 h=>?_
    ·refine T.cl [7,6,5,3,0] Z<|jP (dG [dF,dF,dF,dF,([1],QY),([1],QY),dF,([1],QY),dF,dF,dF,([0],QX),dF]) (by kernel_rfl) (by kernel_rfl) ?_;refine go h λ_ h=>?_;refine fC h (λ_=>Ao _) Z Z Z Z Z λv32 _ h=>(go h λ_ h=>?_);refine fC h (λ_=>zC _) Z Z Z Z Z λv33 _ h=>(go h λ_ h=>?_);refine fN Z (QE.mkF (c:=QJ.c) ([(⟨s16.2,s24.2,(J (J p s16.2) s24.2).Loc,v32,v33⟩:QJ)]:List QJ) [[I s16.2,I s24.2,I ((J (J p s16.2) s24.2).Loc),Bo v32,Bo v33]] Mf Z Z Z qD QJ.isF Z)<|jL h λg34 h=>fW 0 [] Z Z (λG hG=>EvA.app1 (g:=false) (l:=s24.1) (⟨s16.2,s24.2,(J (J p s16.2) s24.2).Loc,v32,v33⟩:QJ) Mf (by kernel_rfl) Z Z (hG.a0 Z) nofun (bh.fz (l:=([(⟨s16.2,s24.2,(J (J p s16.2) s24.2).Loc,v32,v33⟩:QJ)]:List QJ)) Z qD) g34) ?_;refine go h λ_ h=>?_
     cases h
     exact ⟨u26+1,trivial,QU⟩
    refine go h λ_ h=>?_
    cases h
    exact ⟨u26,trivial,QU⟩
   refine jM<|lX h λh=>?_
   cases h
   exact ⟨u26,trivial,QU⟩
  refine jM<|lX h λh=>?_
  cases h
  exact ⟨u18,trivial,QU⟩
 refine go h λ_ h=>?_;refine tT h 0 (λs5 gh=>[(4,I s5.2),(3,hS QY 0 gh 5 s5.1.length),(0,eL (cL QH.c) p)]) (λs5 gh=>[bE QY gh 5 60 (s5.1.map QJ.c)]) λs5 u7 ws5 h=>?_;refine QT h (λ_ q8 h=>?_) λ_ q8 h=>?_
 ·refine go h λ_ h=>?_;refine gs h λ_ h=>?_;refine oN (QE.mkF (c:=QJ.c) ([(⟨(-1:Int),s5.2,s5.2,QY,QX⟩:QJ)]:List QJ) [[I (-1:Int),I s5.2,I s5.2,Bo QY,Bo QX]] Mf Z Z Z qD QJ.isF Z)<|go h λ_ h=>?_;obtain rfl:=QG h;exact ⟨((s5.1++[(⟨(-1:Int),s5.2,s5.2,QY,QX⟩:QJ)]),(s5.2+V)),u7+1,Z,trivial,QU⟩
 refine jM<|lX h λh=>?_
 cases h
 exact ⟨u7,trivial,QU⟩
theorem iP (events:List QJ) (loc:Int) {q} (h:bR events loc=QZ q):ax Q4 70 [eL QJ.c events,I loc] (eL cI q):=by
 refine pM func70 Z (by kernel_rfl) Z<|go h λ_ h=>?_;refine oA (EvA.mkO (c:=cI) ([]:LI) [] je Z Z Z qD Z Z)<|go h λ_ h=>?_;refine tJ h (λs1 gh=>[(5,hS QY 0 gh 1 s1.length)]) (λs1 gh=>[bE QY gh 1 3 (s1.map cI)]) (λs1 u17 h=>?_) λs1 h=>?_
 ·exact gf h
 refine go h λ_ h=>?_;refine tT h 0 (λs5 gh=>[(6,I s5.2),(5,hS QY 0 gh 1 s5.1.length),(0,eL QJ.c events),(1,I loc)]) (λs5 gh=>[bE QY gh 1 3 (s5.1.map cI)]) λs5 u7 ws5 h=>?_;refine QT h (λ_ q8 h=>?_) λ_ q8 h=>?_
 ·refine go h λ_ h=>?_;refine tJ h (λs9 gh=>[(5,hS QY 0 gh 1 s9.length),(6,I s5.2),(0,eL QJ.c events),(1,I loc)]) (λs9 gh=>[bE QY gh 1 3 (s9.map cI)]) (λs9 u15 h=>?_) λs9 h=>?_
  ·refine go h λ_ h=>?_;obtain rfl:=QG h;exact ⟨(s9,(s5.2+V)),u15,Z,trivial,QU⟩
  refine go h λf h=>?_;obtain ⟨g10,_⟩:=f;refine TO.jB h 8 (λs11=>[(27,Bo s11),(6,I s5.2),(5,hS QY 0 u7 1 s5.1.length),(0,eL QJ.c events),(1,I loc)]) (λs11=>[bE QY u7 1 3 (s5.1.map cI)]) (λs11 q12 h js11=>?_) (λs11 q12 h js11=>?_) λs11 h=>?_
  ·exact gj h js11
  ·exact gj h js11
  refine gi h (λ_ q13 h=>?_) λ_ q13 h=>?_
  ·refine gk h λ_ _ h=>?_
   cases h
   exact ⟨u7+1,trivial,QU⟩
  refine go h λ_ h=>?_
  cases h
  exact ⟨u7,trivial,QU⟩
 refine jM<|lX h λh=>?_
 cases h
 exact ⟨u7,trivial,QU⟩
theorem kO (list:LI) (n:Int) {q} (h:fg list n=QZ q):ax Q4 69 [eL cI list,I n] (I q):=by
 refine pM func69 Z (by kernel_rfl) Z<|go h λ_ h=>?_;obtain ⟨Ks1,es1,ws1,h,ks1⟩:=tX h;refine T.join (S:=Unit) (G:=Unit) (λs1=>Ks1 s1=QZ q) (λs1 gh=>True) (λs1 gh=>[]) (λs1 gh=>[]) (λs1 gh h hg=>?_) ?_
 ·clear ks1;subst es1;exact gz h
 refine go h λ_ h=>?_;refine tU h (λs4=>[(5,I s4),(0,eL cI list),(1,I n)]) (λs4=>[]) λs4 ws4 h=>?_;refine QT h (λ_ q6 h=>?_) λ_ q6 h=>?_
 ·refine go h λ_ h=>?_;refine QT h (λ_ q8 h=>?_) λ_ q8 h=>?_
  ·refine go h λ_ h=>?_;refine lX h λh=>?_;obtain rfl:=QG h;replace h:=congrArg QZ (show _=_ from ks1);exact gz h
  refine go h λ_ h=>?_;exact lE h QU
 refine jM<|lX h λh=>?_
 cases h
 exact ⟨(),(),ks1,trivial,QU⟩
theorem Ap (list:LI) (writers:LI) {q} (h:nC list writers=QZ q):ax Q4 71 [eL cI list,eL cI writers] (Bo q):=by
 refine pM func71 Z (by kernel_rfl) Z<|go h λ_ h=>?_;obtain ⟨Ks1,es1,ws1,h,ks1⟩:=tX h;refine T.join (S:=Unit) (G:=Unit) (λs1=>Ks1 s1=QZ q) (λs1 gh=>True) (λs1 gh=>[(0,eL cI list),(1,eL cI writers)]) (λs1 gh=>[]) (λs1 gh h hg=>?_) ?_
 ·clear ks1;subst es1;obtain ⟨Ks7,es7,ws7,h,ks7⟩:=tX h;refine T.join (S:=Unit) (G:=Unit) (λs7=>Ks7 s7=QZ q) (λs7 gh=>True) (λs7 gh=>[]) (λs7 gh=>[]) (λs7 gh h hg=>?_) ?_
  ·clear ks7;subst es7;exact gz h
  refine go h λ_ h=>?_;refine tU h (λs10=>[(5,I s10),(0,eL cI list),(1,eL cI writers)]) (λs10=>[]) λs10 ws10 h=>?_;refine QT h (λ_ q12 h=>?_) λ_ q12 h=>?_
  ·refine go h λ_ h=>?_;refine gs h λ_ h=>?_;refine oC h (λ_=>kO _ _) Z Z Z Z λv14 _ h=>?_;refine gi h (λ_ q15 h=>?_) λ_ q15 h=>?_
   ·refine go h λ_ h=>?_;refine lX h λh=>?_;obtain rfl:=QG h;replace h:=congrArg QZ (show _=_ from ks7);exact gz h
   refine go h λ_ h=>?_;exact lE h QU
  refine jM<|lX h λh=>?_
  cases h
  exact ⟨(),(),ks7,trivial,QU⟩
 refine T.jU h (λs2=>[(19,Bo s2),(0,eL cI list),(1,eL cI writers)]) (λs2=>[]) (λs2 h=>?_) λs2 h=>?_
 ·refine jN Z h (λq6 h=>?_) λq6 h=>?_
  ·refine go h λ_ h=>?_;obtain rfl:=QG h;replace h:=congrArg QZ (show _=_ from ks1);exact gz h
  refine go h λ_ h=>?_
  cases h
  exact ⟨(),(),ks1,trivial,QU⟩
 refine T.drawG (λ_=>([],QY)) (by kernel_rfl) (by kernel_rfl)<|go h λ_ h=>?_;rcases yh h with ⟨q3,h⟩ | ⟨q3,h⟩
 ·refine gp h λ_ h=>?_;refine go h λ_ h=>?_
  cases h
  exact ⟨(),trivial,QU⟩
 refine gp h λ_ h=>?_;refine go h λ_ h=>?_
 cases h
 exact ⟨(),trivial,QU⟩
theorem yA (p:List<|List QH) (x:QI) {q} (h:gZ p x=QZ q):ax Q4 26 [eL (cL QH.c) p,.agg (QI.c x)] (Bo q):=by
 refine pM func26 Z (by kernel_rfl) Z<|go h λ_ h=>?_;refine eF Z Z Z<|go h λ_ h=>?_;refine gs h λ_ h=>?_;refine oC h (λ_=>jf _) Z Z Z Z λv1 _ h=>?_;refine gi h (λ_ q2 h=>?_) λ_ q2 h=>?_
 ·exact gz h
 refine go h λ_ h=>?_;refine oC h (λ_=>gD _) Z Z Z Z λv3 _ h=>(go h λ_ h=>?_);refine gs h λ_ h=>?_;refine TO.jB h 5 (λs4=>[(24,Bo s4),(5,eL QJ.c v3),(3,.fp (QI.c x) 0)]) (λs4=>[]) (λs4 q5 h js4=>?_) (λs4 q5 h js4=>?_) λs4 h=>?_
 ·exact gj h js4
 ·exact gj h js4
 refine gi h (λ_ q6 h=>?_) λ_ q6 h=>?_
 ·exact gz h
 refine go h λ_ h=>?_;obtain ⟨Ks7,es7,ws7,h,ks7⟩:=tX h;refine T.join (S:=Unit) (G:=Unit) (λs7=>Ks7 s7=QZ q) (λs7 gh=>True) (λs7 gh=>[(5,eL QJ.c v3),(3,.fp (QI.c x) 0)]) (λs7 gh=>[]) (λs7 gh h hg=>?_) ?_
 ·clear ks7;subst es7;obtain ⟨Ks31,es31,ws31,h,ks31⟩:=tX h;refine T.join (S:=Unit) (G:=Unit) (λs31=>Ks31 s31=QZ q) (λs31 gh=>True) (λs31 gh=>[]) (λs31 gh=>[]) (λs31 gh h hg=>?_) ?_
  ·clear ks31;subst es31;exact gz h
  refine go h λ_ h=>?_;refine tU h (λs34=>[(7,I s34),(5,eL QJ.c v3),(3,.fp (QI.c x) 0)]) (λs34=>[]) λs34 ws34 h=>?_;refine QT h (λ_ q36 h=>?_) λ_ q36 h=>?_
  ·refine go h λ_ h=>?_;refine gs h λ_ h=>?_;refine jH<|T.drawP (by kernel_rfl) (by kernel_rfl) ?_;refine go h λ_ h=>?_;refine fC h (λ_=>iP _ _) Z Z Z Z Z λv38 _ h=>fC h (λ_=>Ap _ _) Z Z Z Z Z λv39 _ h=>?_;refine gi h (λ_ q40 h=>?_) λ_ q40 h=>?_
   ·refine go h λ_ h=>?_;refine lX h λh=>?_;obtain rfl:=QG h;replace h:=congrArg QZ (show _=_ from ks31);exact gz h
   refine go h λ_ h=>?_;exact lE h QU
  refine jM<|lX h λh=>?_
  cases h
  exact ⟨(),(),ks31,trivial,QU⟩
 refine go h λ_ h=>?_;refine tU h (λs10=>[(6,I s10),(5,eL QJ.c v3),(3,.fp (QI.c x) 0)]) (λs10=>[]) λs10 ws10 h=>?_;refine QT h (λ_ q12 h=>?_) λ_ q12 h=>?_
 ·refine go h λ_ h=>?_;obtain ⟨Ks13,es13,ws13,h,ks13⟩:=tX h;refine T.join (S:=Unit) (G:=Unit) (λs13=>Ks13 s13=QZ ws10) (λs13 gh=>True) (λs13 gh=>[(6,I s10),(5,eL QJ.c v3),(3,.fp (QI.c x) 0)]) (λs13 gh=>[]) (λs13 gh h hg=>?_) ?_
  ·clear ks13;subst es13;refine go h λ_ h=>?_;exact lE h QU
  refine go h λ_ h=>?_;obtain ⟨Ks14,es14,ws14,h,ks14⟩:=tX h;refine T.join (S:=Unit) (G:=Unit) (λs14=>Ks14 s14=QZ ws13) (λs14 gh=>True) (λs14 gh=>[(6,I s10),(5,eL QJ.c v3),(3,.fp (QI.c x) 0)]) (λs14 gh=>[]) (λs14 gh h hg=>?_) ?_
  ·clear ks14;subst es14;refine go h λ_ h=>?_;refine TO.jB h 7 (λs23=>[(65,Bo s23),(6,I s10),(5,eL QJ.c v3),(3,.fp (QI.c x) 0)]) (λs23=>[]) (λs23 q24 h js23=>?_) (λs23 q24 h js23=>?_) λs23 h=>?_
   ·exact gj h js23
   ·exact gj h js23
   refine go h λ_ h=>?_;refine TO.jB h 8 (λs26=>[(74,Bo s26),(6,I s10),(5,eL QJ.c v3),(3,.fp (QI.c x) 0)]) (λs26=>[]) (λs26 q27 h js26=>?_) (λs26 q27 h js26=>?_) λs26 h=>?_
   ·exact gj h js26
   ·exact gj h js26
   refine gi h (λ_ q29 h=>?_) λ_ q29 h=>?_
   ·refine go h λ_ h=>?_;obtain rfl:=QG h;replace h:=congrArg QZ (show _=_ from ks13);refine lX h λh=>?_;obtain rfl:=QG h;replace h:=congrArg QZ (show _=_ from ks7);exact gz h
   refine go h λ_ h=>?_
   cases h
   exact ⟨(),(),ks13,trivial,QU⟩
  refine T.jU h (λs15=>[(51,Bo s15),(6,I s10),(5,eL QJ.c v3),(3,.fp (QI.c x) 0)]) (λs15=>[]) (λs15 h=>?_) λs15 h=>?_
  ·refine jN Z h (λq21 h=>?_) λq21 h=>?_
   ·refine go h λ_ h=>?_;obtain rfl:=QG h;replace h:=congrArg QZ (show _=_ from ks14);obtain rfl:=QG h;replace h:=congrArg QZ (show _=_ from ks13);refine lX h λh=>?_;obtain rfl:=QG h;replace h:=congrArg QZ (show _=_ from ks7);exact gz h
   refine go h λ_ h=>?_
   cases h
   exact ⟨(),(),ks14,trivial,QU⟩
  refine T.drawG (λ_=>([],QY)) (by kernel_rfl) (by kernel_rfl)<|go h λf h=>?_;obtain ⟨g16,_⟩:=f;rcases yh h with ⟨q17,h⟩ | ⟨q17,h⟩
  ·refine go h λ_ h=>?_;refine jB h λv18 cv18 h=>tgN Z q17 Z (QE.call Z Z Z (iP v3 ((J v3 s10).Loc) cv18) Z)<|go h λ_ h=>?_;refine jB h λv20 cv20 h=>tgN Z q17 Z (QE.call Z Z Z (kO v18 (J x.From s10) cv20) Z)<|gp h λ_ h=>?_;refine go h λ_ h=>?_
   cases h
   exact ⟨(),trivial,QU⟩
  refine gp h λ_ h=>?_;refine go h λ_ h=>?_
  cases h
  exact ⟨(),trivial,QU⟩
 refine jM<|lX h λh=>?_
 cases h
 exact ⟨(),(),ks7,trivial,QU⟩
theorem tE (x:QI) (loc:Int) (i:Int) (k_:Int) {q} (h:dB x loc i k_=QZ q):ax Q4 198 [.agg (QI.c x),I loc,I i,I k_] (Bo q):=by
 refine pM func198 Z (by kernel_rfl) Z<|go h λ_ h=>?_;refine eF Z Z Z<|go h λ_ h=>?_;refine jH<|T.drawP (by kernel_rfl) (by kernel_rfl) ?_;refine go h λf h=>?_;obtain ⟨g1,_⟩:=f;refine fC h (λ_=>kO _ _) Z Z Z Z Z λv2 _ h=>(go h λ_ h=>?_);refine fC h (λ_=>kO _ _) Z Z Z Z Z λv3 _ h=>?_;exact gz h
theorem Aq (list:List QH) (from_:Int) (to:Int) {q} (h:ko list from_ to=QZ q):ax Q4 199 [eL QH.c list,I from_,I to] (Bo q):=by
 refine pM func199 Z (by kernel_rfl) Z<|go h λ_ h=>?_;obtain ⟨Ks1,es1,ws1,h,ks1⟩:=tX h;refine T.join (S:=Unit) (G:=Unit) (λs1=>Ks1 s1=QZ q) (λs1 gh=>True) (λs1 gh=>[]) (λs1 gh=>[]) (λs1 gh h hg=>?_) ?_
 ·clear ks1;subst es1;exact gz h
 refine go h λ_ h=>?_;refine tU h (λs5=>[(7,I s5),(0,eL QH.c list),(2,I to)]) (λs5=>[]) λs5 ws5 h=>?_;refine QT h (λ_ q7 h=>?_) λ_ q7 h=>?_
 ·refine go h λ_ h=>?_;refine QT h (λ_ q9 h=>?_) λ_ q9 h=>?_
  ·refine go h λ_ h=>?_;refine lX h λh=>?_;obtain rfl:=QG h;replace h:=congrArg QZ (show _=_ from ks1);exact gz h
  refine go h λ_ h=>?_;exact lE h QU
 refine jM<|lX h λh=>?_
 cases h
 exact ⟨(),(),ks1,trivial,QU⟩
theorem Ct (p:List<|List QH) (x:QI) (events:List QJ) (name:BA) (i:Int) (k_:Int) {q} (h:df p x events name i k_=QZ q):ax Q4 133 [eL (cL QH.c) p,.agg (QI.c x),eL QJ.c events,St name,I i,I k_] (Bo q):=by
 let d1:=events.getD k_.toNat QW;let d0:=events.getD i.toNat QW;refine pM func133 Z (by kernel_rfl) Z<|go h λ_ h=>?_;refine eF Z Z Z<|go h λ_ h=>?_;refine TO.jB h 4 (λs3=>[(33,Bo s3),(14,.hp 1 0 5 0 0),(13,.hp 0 0 5 0 0),(7,.fp (QI.c x) 0),(0,eL (cL QH.c) p),(3,St name),(4,I i),(5,I k_)]) (λs3=>[QZ ⟨0,5,60,[(QJ.c d0)]⟩,QZ ⟨0,5,60,[(QJ.c d1)]⟩]) (λs3 q4 h js3=>?_) (λs3 q4 h js3=>?_) λs3 h=>?_
 ·refine go h λ_ h=>?_;refine gA Z q4 (lh (I<|d0.Thread) QS Z Z Z) ?_;exact gj h js3
 ·exact gj h js3
 refine go h λ_ h=>?_;obtain ⟨Ks5,es5,ws5,h,ks5⟩:=tX h;refine T.join (S:=Unit) (G:=Unit) (λs5=>Ks5 s5=QZ q) (λs5 gh=>True) (λs5 gh=>[(3,St name),(4,I i),(5,I k_)]) (λs5 gh=>[QZ ⟨0,5,60,[(QJ.c d0)]⟩,QZ ⟨0,5,60,[(QJ.c d1)]⟩]) (λs5 gh h hg=>?_) ?_
 ·clear ks5;subst es5;refine go h λ_ h=>?_;refine TO.jB h 4 (λs51=>[(188,Bo s51)]) (λs51=>[QZ ⟨0,5,60,[(QJ.c d0)]⟩,QZ ⟨0,5,60,[(QJ.c d1)]⟩]) (λs51 q52 h js51=>?_) (λs51 q52 h js51=>?_) λs51 h=>?_
  ·exact gj h js51
  ·exact gj h js51
  exact gz h
 refine gi h (λ_ q6 h=>?_) λ_ q6 h=>?_
 ·refine go h λ_ h=>?_;refine TO.jB h 6 (λs7=>[(44,Bo s7)]) (λs7=>[QZ ⟨0,5,60,[(QJ.c d0)]⟩,QZ ⟨0,5,60,[(QJ.c d1)]⟩]) (λs7 q8 h js7=>?_) (λs7 q8 h js7=>?_) λs7 h=>?_
  ·refine go h λ_ h=>?_;refine gA Z q8 (lh (I<|d0.Index) QS Z Z Z)<|go h λ_ h=>?_;refine gA Z q8 (lh (I<|d1.Index) QS Z Z Z) ?_;exact gj h js7
  ·exact gj h js7
  refine go h λ_ h=>?_;obtain rfl:=QG h;replace h:=congrArg QZ (show _=_ from ks5);exact gz h
 refine gi h (λ_ q9 h=>?_) λ_ q9 h=>?_
 ·refine go h λ_ h=>?_;obtain rfl:=QG h;replace h:=congrArg QZ (show _=_ from ks5);exact gz h
 refine gi h (λ_ q10 h=>?_) λ_ q10 h=>?_
 ·refine go h λ_ h=>?_;obtain rfl:=QG h;replace h:=congrArg QZ (show _=_ from ks5);exact gz h
 refine gi h (λ_ q11 h=>?_) λ_ q11 h=>?_
 ·refine go h λ_ h=>?_;refine TO.jB h 8 (λs12=>[(68,Bo s12)]) (λs12=>[QZ ⟨0,5,60,[(QJ.c d0)]⟩,QZ ⟨0,5,60,[(QJ.c d1)]⟩]) (λs12 q13 h js12=>?_) (λs12 q13 h js12=>?_) λs12 h=>?_
  ·exact gj h js12
  ·exact gj h js12
  refine go h λ_ h=>?_;obtain rfl:=QG h;replace h:=congrArg QZ (show _=_ from ks5);exact gz h
 refine gi h (λ_ q15 h=>?_) λ_ q15 h=>?_
 ·refine go h λ_ h=>?_;refine TO.jB h 3 (λs16=>[(76,Bo s16),(14,.hp 1 0 5 0 0),(13,.hp 0 0 5 0 0),(7,.fp (QI.c x) 0),(4,I i),(5,I k_)]) (λs16=>[QZ ⟨0,5,60,[(QJ.c d0)]⟩,QZ ⟨0,5,60,[(QJ.c d1)]⟩]) (λs16 q17 h js16=>?_) (λs16 q17 h js16=>?_) λs16 h=>?_
  ·refine go h λ_ h=>?_;refine gA Z q17 (lh (Bo<|d1.aH) ty4 Z Z Z) ?_;exact gj h js16
  ·exact gj h js16
  refine go h λ_ h=>?_;refine TO.jB h 6 (λs18=>[(83,Bo s18),(13,.hp 0 0 5 0 0),(7,.fp (QI.c x) 0),(4,I i),(5,I k_)]) (λs18=>[QZ ⟨0,5,60,[(QJ.c d0)]⟩,QZ ⟨0,5,60,[(QJ.c d1)]⟩]) (λs18 q19 h js18=>?_) (λs18 q19 h js18=>?_) λs18 h=>?_
  ·refine go h λ_ h=>?_;refine gA Z q19 (lh (I<|d0.Loc) QS Z Z Z)<|go h λ_ h=>?_;refine gA Z q19 (lh (I<|d1.Loc) QS Z Z Z) ?_;exact gj h js18
  ·exact gj h js18
  refine go h λ_ h=>?_;refine TO.jB h 7 (λs20=>[(91,Bo s20)]) (λs20=>[QZ ⟨0,5,60,[(QJ.c d0)]⟩,QZ ⟨0,5,60,[(QJ.c d1)]⟩]) (λs20 q21 h js20=>?_) (λs20 q21 h js20=>?_) λs20 h=>?_
  ·refine go h λ_ h=>?_;refine gA Z q21 (lh (I<|d0.Loc) QS Z Z Z)<|go h λ_ h=>?_;refine jB h λv22 cv22 h=>gN Z q21 (QE.call Z Z Z (tE x (d0.Loc) i k_ cv22) Z) ?_;exact gj h js20
  ·exact gj h js20
  refine go h λ_ h=>?_;obtain rfl:=QG h;replace h:=congrArg QZ (show _=_ from ks5);exact gz h
 refine gi h (λ_ q23 h=>?_) λ_ q23 h=>?_
 ·refine T.jU h (λs24=>[(12,Bo s24)]) (λs24=>[QZ ⟨0,5,60,[(QJ.c d0)]⟩,QZ ⟨0,5,60,[(QJ.c d1)]⟩]) (λs24 h=>?_) λs24 h=>?_
  ·refine go h λ_ h=>?_;obtain rfl:=QG h;replace h:=congrArg QZ (show _=_ from ks5);exact gz h
  refine T.cl [14,13,7,4,5] Z<|T.drawG (dG [dF,([0],QY),dF,dF,([1],QY),dF,dF,dF,([0],QY),dF,([1],QY),dF,dF,dF,dF,dF,dF,dF,dF,dF,dF,([0],QY),dF,dF,dF,dF,dF,dF,dF,dF,dF]) (by kernel_rfl) (by kernel_rfl) ?_;refine go h λ_ h=>?_;rcases yh h with ⟨q25,h⟩ | ⟨q25,h⟩
  ·refine go h λ_ h=>?_;refine tgR Z q25 [1] Z (λG hG=>EvA.loadhp (Bo<|d1.aH) ty4 Z (hG.a0 Z) Z Z Z Z)<|gp h λ_ h=>?_;refine go h λ_ h=>?_;rcases yh h with ⟨q26,h⟩ | ⟨q26,h⟩
   ·refine go h λ_ h=>?_;refine tgR Z q26 [0] Z (λG hG=>EvA.loadhp (I<|d0.Loc) QS Z (hG.a0 Z) Z Z Z Z)<|go h λ_ h=>?_;refine tgR Z q26 [1] Z (λG hG=>EvA.loadhp (I<|d1.Loc) QS Z (hG.a0 Z) Z Z Z Z)<|gp h λ_ h=>?_;refine go h λ_ h=>?_;rcases yh h with ⟨q27,h⟩ | ⟨q27,h⟩
    ·refine gp h λ_ h=>?_;refine go h λ_ h=>?_;rcases yh h with ⟨q28,h⟩ | ⟨q28,h⟩
     ·refine go h λ_ h=>?_;refine tgR Z q28 [0] Z (λG hG=>EvA.loadhp (I<|d0.Loc) QS Z (hG.a0 Z) Z Z Z Z)<|go h λ_ h=>?_;refine jB h λv30 cv30 h=>tgN Z q28 Z (QE.call Z Z Z (tE x (d0.Loc) (J x.From i) k_ cv30) Z)<|gp h λ_ h=>?_;refine go h λ_ h=>?_
      cases h
      exact ⟨(),trivial,QU⟩
     refine gp h λ_ h=>?_;refine go h λ_ h=>?_
     cases h
     exact ⟨(),trivial,QU⟩
    refine gp h λ_ h=>?_;refine gp h λ_ h=>?_;refine go h λ_ h=>?_
    cases h
    exact ⟨(),trivial,QU⟩
   refine gp h λ_ h=>?_;refine gp h λ_ h=>?_;refine gp h λ_ h=>?_;refine go h λ_ h=>?_
   cases h
   exact ⟨(),trivial,QU⟩
  refine gp h λ_ h=>?_;refine gp h λ_ h=>?_;refine gp h λ_ h=>?_;refine gp h λ_ h=>?_;refine go h λ_ h=>?_
  cases h
  exact ⟨(),trivial,QU⟩
 refine gi h (λ_ q31 h=>?_) λ_ q31 h=>?_
 ·refine T.jU h (λs32=>[(12,Bo s32)]) (λs32=>[QZ ⟨0,5,60,[(QJ.c d0)]⟩,QZ ⟨0,5,60,[(QJ.c d1)]⟩]) (λs32 h=>?_) λs32 h=>?_
  ·refine go h λ_ h=>?_;obtain rfl:=QG h;replace h:=congrArg QZ (show _=_ from ks5);exact gz h
  refine T.cl [15,14,13,0] Z<|T.drawG (dG [dF,dF,dF,([0],QY),dF,([1],QY),dF,dF,dF,dF,dF,([0],QY),dF,dF,dF,([0],QY),dF,([1],QY),dF,dF,dF]) (by kernel_rfl) (by kernel_rfl) ?_;refine go h λ_ h=>?_;rcases yh h with ⟨q33,h⟩ | ⟨q33,h⟩
  ·refine go h λ_ h=>?_;refine tgR Z q33 [0] Z (λG hG=>EvA.loadhp (I<|d0.Index) QS Z (hG.a0 Z) Z Z Z Z)<|go h λ_ h=>?_;refine tgR Z q33 [1] Z (λG hG=>EvA.loadhp (I<|d1.Index) QS Z (hG.a0 Z) Z Z Z Z)<|gp h λ_ h=>?_;refine go h λ_ h=>?_;rcases yh h with ⟨q34,h⟩ | ⟨q34,h⟩
   ·refine go h λ_ h=>?_;refine tgR Z q34 [0] Z (λG hG=>EvA.loadhp (I<|d0.Thread) QS Z (hG.a0 Z) Z Z Z Z)<|go h λ_ h=>?_;refine tgR Z q34 [0] Z (λG hG=>EvA.loadhp (I<|d0.Index) QS Z (hG.a0 Z) Z Z Z Z)<|go h λ_ h=>?_;refine tgR Z q34 [1] Z (λG hG=>EvA.loadhp (I<|d1.Index) QS Z (hG.a0 Z) Z Z Z Z)<|jB h λv36 cv36 h=>tgN Z q34 Z (QE.call Z Z Z (Aq (J p<|d0.Thread) (d0.Index) (d1.Index) cv36) Z) ?_;refine gp h λ_ h=>?_;refine go h λ_ h=>?_
    cases h
    exact ⟨(),trivial,QU⟩
   refine gp h λ_ h=>?_;refine go h λ_ h=>?_
   cases h
   exact ⟨(),trivial,QU⟩
  refine gp h λ_ h=>?_;refine gp h λ_ h=>?_;refine go h λ_ h=>?_
  cases h
  exact ⟨(),trivial,QU⟩
 refine gi h (λ_ q37 h=>?_) λ_ q37 h=>?_
 ·refine go h λ_ h=>?_;refine TO.jB h 4 (λs38=>[(154,Bo s38),(14,.hp 1 0 5 0 0)]) (λs38=>[QZ ⟨0,5,60,[(QJ.c d0)]⟩,QZ ⟨0,5,60,[(QJ.c d1)]⟩]) (λs38 q39 h js38=>?_) (λs38 q39 h js38=>?_) λs38 h=>?_
  ·refine go h λ_ h=>?_;refine gA Z q39 (lh (Bo<|d0.Reads) ty4 Z Z Z) ?_;exact gj h js38
  ·exact gj h js38
  refine go h λ_ h=>?_;refine TO.jB h 3 (λs40=>[(158,Bo s40),(14,.hp 1 0 5 0 0)]) (λs40=>[QZ ⟨0,5,60,[(QJ.c d0)]⟩,QZ ⟨0,5,60,[(QJ.c d1)]⟩]) (λs40 q41 h js40=>?_) (λs40 q41 h js40=>?_) λs40 h=>?_
  ·refine go h λ_ h=>?_;refine gA Z q41 (lh (Bo<|d1.Reads) ty4 Z Z Z) ?_;exact gj h js40
  ·exact gj h js40
  refine go h λ_ h=>?_;refine TO.jB h 4 (λs42=>[(163,Bo s42)]) (λs42=>[QZ ⟨0,5,60,[(QJ.c d0)]⟩,QZ ⟨0,5,60,[(QJ.c d1)]⟩]) (λs42 q43 h js42=>?_) (λs42 q43 h js42=>?_) λs42 h=>?_
  ·refine go h λ_ h=>?_;refine gA Z q43 (lh (Bo<|d1.aH) ty4 Z Z Z) ?_;exact gj h js42
  ·exact gj h js42
  refine go h λ_ h=>?_;obtain rfl:=QG h;replace h:=congrArg QZ (show _=_ from ks5);exact gz h
 refine gi h (λ_ q44 h=>?_) λ_ q44 h=>?_
 ·refine go h λ_ h=>?_;refine TO.jB h 4 (λs45=>[(172,Bo s45),(14,.hp 1 0 5 0 0)]) (λs45=>[QZ ⟨0,5,60,[(QJ.c d0)]⟩,QZ ⟨0,5,60,[(QJ.c d1)]⟩]) (λs45 q46 h js45=>?_) (λs45 q46 h js45=>?_) λs45 h=>?_
  ·refine go h λ_ h=>?_;refine gA Z q46 (lh (Bo<|d0.Reads) ty4 Z Z Z) ?_;exact gj h js45
  ·exact gj h js45
  refine go h λ_ h=>?_;refine TO.jB h 3 (λs47=>[(176,Bo s47),(14,.hp 1 0 5 0 0)]) (λs47=>[QZ ⟨0,5,60,[(QJ.c d0)]⟩,QZ ⟨0,5,60,[(QJ.c d1)]⟩]) (λs47 q48 h js47=>?_) (λs47 q48 h js47=>?_) λs47 h=>?_
  ·refine go h λ_ h=>?_;refine gA Z q48 (lh (Bo<|d1.aH) ty4 Z Z Z) ?_;exact gj h js47
  ·exact gj h js47
  refine go h λ_ h=>?_;refine TO.jB h 4 (λs49=>[(181,Bo s49)]) (λs49=>[QZ ⟨0,5,60,[(QJ.c d0)]⟩,QZ ⟨0,5,60,[(QJ.c d1)]⟩]) (λs49 q50 h js49=>?_) (λs49 q50 h js49=>?_) λs49 h=>?_
  ·refine go h λ_ h=>?_;refine gA Z q50 (lh (Bo<|d1.Reads) ty4 Z Z Z) ?_;exact gj h js49
  ·exact gj h js49
  refine go h λ_ h=>?_;obtain rfl:=QG h;replace h:=congrArg QZ (show _=_ from ks5);exact gz h
 refine go h λ_ h=>?_
 cases h
 exact ⟨(),(),ks5,trivial,QU⟩
theorem CO (p:List<|List QH) (x:QI) (name:BA) {q} (h:d9 p x name=QZ q):ax Q4 75 [eL (cL QH.c) p,.agg (QI.c x),St name] (eL cI q):=by
 refine pM func75 Z (by kernel_rfl) Z<|go h λ_ h=>?_;refine eF Z Z Z<|go h λ_ h=>?_;refine oC h (λ_=>gD _) Z Z Z Z λv1 _ h=>(go h λ_ h=>?_);refine oA (EvA.mkO (c:=cI) ([]:LI) [] je Z Z Z qD Z Z)<|go h λ_ h=>?_;refine tJ h (λs2 gh=>[(8,hS QY 0 gh 1 s2.length)]) (λs2 gh=>[bE QY gh 1 3 (s2.map cI)]) (λs2 u25 h=>?_) λs2 h=>?_
 ·exact gf h
 refine go h λ_ h=>?_;refine tT h 0 (λs6 gh=>[(9,I s6.2),(8,hS QY 0 gh 1 s6.1.length),(7,eL QJ.c v1),(4,.fp (QI.c x) 0),(0,eL (cL QH.c) p),(2,St name)]) (λs6 gh=>[bE QY gh 1 3 (s6.1.map cI)]) λs6 u8 ws6 h=>?_;refine QT h (λ_ q9 h=>?_) λ_ q9 h=>?_
 ·refine go h λ_ h=>?_;refine tJ h (λs10 gh=>[(8,hS QY 0 gh 1 s10.length),(9,I s6.2),(7,eL QJ.c v1),(4,.fp (QI.c x) 0),(0,eL (cL QH.c) p),(2,St name)]) (λs10 gh=>[bE QY gh 1 3 (s10.map cI)]) (λs10 u23 h=>?_) λs10 h=>?_
  ·refine go h λ_ h=>?_;obtain rfl:=QG h;exact ⟨(s10,(s6.2+V)),u23,Z,trivial,QU⟩
  refine go h λ_ h=>?_;refine T.jU h (λs11=>[(10,I s11),(9,I s6.2),(8,hS QY 0 u8 1 s6.1.length),(7,eL QJ.c v1),(4,.fp (QI.c x) 0),(0,eL (cL QH.c) p),(2,St name)]) (λs11=>[bE QY u8 1 3 (s6.1.map cI)]) (λs11 h=>?_) λs11 h=>?_
  ·refine gk h λ_ _ h=>?_
   cases h
   exact ⟨u8+1,trivial,QU⟩
  refine go h λ_ h=>?_;refine tU h (λs14=>[(11,I s14.1),(10,I s14.2),(9,I s6.2),(8,hS QY 0 u8 1 s6.1.length),(7,eL QJ.c v1),(4,.fp (QI.c x) 0),(0,eL (cL QH.c) p),(2,St name)]) (λs14=>[bE QY u8 1 3 (s6.1.map cI)]) λs14 ws14 h=>?_;refine QT h (λ_ q16 h=>?_) λ_ q16 h=>?_
  ·refine go h λ_ h=>?_;refine T.jU h (λs17=>[(10,I s17),(11,I s14.1),(9,I s6.2),(8,hS QY 0 u8 1 s6.1.length),(7,eL QJ.c v1),(4,.fp (QI.c x) 0),(0,eL (cL QH.c) p),(2,St name)]) (λs17=>[bE QY u8 1 3 (s6.1.map cI)]) (λs17 h=>?_) λs17 h=>?_
   ·refine go h λ_ h=>?_;exact lE h QU
   refine go h λ_ h=>?_;refine oC h (λ_=>Ct _ _ _ _ _ _) Z Z Z Z λv18 _ h=>?_;refine gi h (λ_ q19 h=>?_) λ_ q19 h=>?_
   ·refine go h λ_ h=>?_
    cases h
    exact ⟨(),trivial,QU⟩
   refine go h λ_ h=>?_
   cases h
   exact ⟨(),trivial,QU⟩
  refine jM<|lX h λh=>?_
  cases h
  exact ⟨(),trivial,QU⟩
 refine jM<|lX h λh=>?_
 cases h
 exact ⟨u8,trivial,QU⟩
theorem Ar (a:LI) (b:LI) {q} (h:nD a b=QZ q):ax Q4 76 [eL cI a,eL cI b] (eL cI q):=by
 refine pM func76 Z (by kernel_rfl) Z<|go h λ_ h=>?_;refine oA (EvA.mkO (c:=cI) ([]:LI) [] je Z Z Z qD Z Z)<|go h λ_ h=>?_;refine tJ h (λs1 gh=>[(5,hS QY 0 gh 1 s1.length)]) (λs1 gh=>[bE QY gh 1 3 (s1.map cI)]) (λs1 u13 h=>?_) λs1 h=>?_
 ·exact gf h
 refine go h λ_ h=>?_;refine tT h 0 (λs5 gh=>[(6,I s5.2),(5,hS QY 0 gh 1 s5.1.length),(0,eL cI a),(1,eL cI b)]) (λs5 gh=>[bE QY gh 1 3 (s5.1.map cI)]) λs5 u7 ws5 h=>?_;refine QT h (λ_ q8 h=>?_) λ_ q8 h=>?_
 ·refine go h λ_ h=>?_;refine gs h λ_ h=>?_;refine jP (dG [dF,dF,dF,dF,dF,dF,dF,dF,dF,dF,dF,([0],QX),dF]) (by kernel_rfl) (by kernel_rfl)<|gk h λ_ _ h=>?_;refine jL h λg11 h=>fW 0 [] Z Z (λG hG=>EvA.app1 (g:=false) (l:=s5.1) (bOr .i64 (J a s5.2)<|J b s5.2) je (by kernel_rfl) Z Z (hG.a0 Z) nofun (bh.fz (l:=([(bOr .i64 (J a s5.2)<|J b s5.2)]:LI)) Z qD) g11)<|go h λ_ h=>?_;obtain rfl:=QG h;exact ⟨((s5.1++[(bOr .i64 (J a s5.2)<|J b s5.2)]),(s5.2+V)),u7+1,Z,trivial,QU⟩
 refine jM<|lX h λh=>?_
 cases h
 exact ⟨u7,trivial,QU⟩
theorem fB (r_:LI) (i:Int) (k_:Int) {q} (h:eu r_ i k_=QZ q):ax Q4 132 [eL cI r_,I i,I k_] (Bo q):=by
 refine pM func132 Z (by kernel_rfl) Z ?_;exact gz h
end
end Go.Proofs.YtabfkkjdfhbngaaGreatDoor
