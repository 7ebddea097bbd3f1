/- Texts joined. No conditions. -/
import Derived.Test.YtdmahcaohkplcaaGreatDoorProg
import Derived.Test.YtdmahcaohkplcaaGreatDoorC11
namespace Go.Proofs.YtdmahcaohkplcaaGreatDoor
noncomputable section
open _root_.Inhabited renaming default -> Uo
open _root_.Bool renaming true -> Uq
open _root_.Bool renaming false -> Ur
open _root_.Option renaming some -> Us
open _root_.Option renaming none -> Ut
open _root_.Go.Proofs.Tryz
open _root_.Go.Proofs.Tryz renaming prog -> Uv
open _root_.Option renaming bind_eq_some_iff -> aau
open _root_.Nat renaming eq_of_beq_eq_true -> aav
open Go.RowKit
def Pb (en:List<|Nat×AV):List Nat->Option (List<|Nat×AV)
 | []=>Us []
 | t::l=>match Ie en t with
  | some v=>(match Pb en l with
   | some r=>Us ((t,v)::r)
   | none=>Ut)
  | none=>Ut
theorem Kg {en:List (Nat×AV)}:∀ {l:List Nat} {r:List (Nat×AV)},Pb en l=Us r->FW (ak en) (ak r)
 | [],r,h=>by
  obtain rfl:=osl h;exact TQ
 | t::l,r,h=>by
  unfold Pb at h
  split at h
  ·rename_i v hv
   split at h
   ·rename_i r' hr;obtain rfl:=osl h;exact TR (yS hv)<|Kg hr
   cases h
  cases h
section
variable {P:Program} {nt b0:Nat} {Q:Exit->Env->AH->Prop} {H H':AH} {x:Operand} {ops:Array Oper} {l:List Oper} {d:Tmp} {op:Op} {ty:TypeId} {pos:String} {af:Array Edge} {en:List (Nat×AV)} {v:AV} {c:Prop} {b ver sF j:Nat} {k':ABlk} {w q:Bool} {fp:Nat->Fp} {i:Nat} {K:Env->AH->Prop}
theorem hM (hy:fw ops.toList (ak en) j = .v (.bool q)) (hq:q=w) (h:opE en x=Us v) (k:TO P nt b0 ops l Q (ak ((d,v)::en)) H):TO P nt b0 ops (⟨Us d,.move x,ty,pos,af,Us (j,w)⟩::l) Q (ak en) H:=gN hy hq (TS.mv _<|ic h) k
theorem hR (hy:fw ops.toList (ak en) j = .v (.bool q)) (hq:q=w) (h:opE en x=Us v) (k:TO P nt b0 ops l Q (ak ((d,v)::en)) H):TO P nt b0 ops (⟨Us d,.assign x,ty,pos,af,Us (j,w)⟩::l) Q (ak en) H:=gN hy hq (TS.asg _<|ic h) k
theorem hPT {y z:Operand} {u:Bool} (hc:opE en x=Us (.v<|.bool u)) (hu:u=Uq) (h:opE en y=Us v) (k:TO P nt b0 ops l Q (ak ((d,v)::en)) H):TO P nt b0 ops (⟨Us d,.pick x y z,ty,pos,af,Ut⟩::l) Q (ak en) H:=oN (TS.pickT (ic hc) hu _<|ic h) k
theorem hPF {y z:Operand} {u:Bool} (hc:opE en x=Us (.v<|.bool u)) (hu:u=Ur) (h:opE en z=Us v) (k:TO P nt b0 ops l Q (ak ((d,v)::en)) H):TO P nt b0 ops (⟨Us d,.pick x y z,ty,pos,af,Ut⟩::l) Q (ak en) H:=oN (TS.pickF (ic hc) hu _<|ic h) k
theorem tM (h:opE en x=Us v) (hc:fp i=([],Ur)) (k:TG P ops fp (i+1) l K (ak ((d,v)::en)) H):TG P ops fp i (⟨Us d,.move x,ty,pos,af,Ut⟩::l) K (ak en) H:=tN hc (TS.mv _<|ic h) k
theorem tA (h:opE en x=Us v) (hc:fp i=([],Ur)) (k:TG P ops fp (i+1) l K (ak ((d,v)::en)) H):TG P ops fp i (⟨Us d,.assign x,ty,pos,af,Ut⟩::l) K (ak en) H:=tN hc (TS.asg _<|ic h) k
theorem tgM (hy:fw ops.toList (ak en) j = .v (.bool q)) (hq:q=w) (h:opE en x=Us v) (hc:fp i=([],Ur)) (k:TG P ops fp (i+1) l K (ak ((d,v)::en)) H):TG P ops fp i (⟨Us d,.move x,ty,pos,af,Us (j,w)⟩::l) K (ak en) H:=tgN hy hq hc (TS.mv _<|ic h) k
theorem tPT {y z:Operand} {u:Bool} (hc:opE en x=Us (.v<|.bool u)) (hu:u=Uq) (h:opE en y=Us v) (hf:fp i=([],Ur)) (k:TG P ops fp (i+1) l K (ak ((d,v)::en)) H):TG P ops fp i (⟨Us d,.pick x y z,ty,pos,af,Ut⟩::l) K (ak en) H:=tN hf (TS.pickT (ic hc) hu _<|ic h) k
theorem tPF {y z:Operand} {u:Bool} (hc:opE en x=Us (.v<|.bool u)) (hu:u=Ur) (h:opE en z=Us v) (hf:fp i=([],Ur)) (k:TG P ops fp (i+1) l K (ak ((d,v)::en)) H):TG P ops fp i (⟨Us d,.pick x y z,ty,pos,af,Ut⟩::l) K (ak en) H:=tN hf (TS.pickF (ic hc) hu _<|ic h) k
variable {cls:Nat->Xc} {lx:List Nat}
theorem xM (h0:ops[i]? = Us ⟨Us d,.move x,ty,pos,af,Ut⟩) (h:opE en x=Us v) (hc:cls i=(Ur,[])) (k:TX P ops cls lx K (ak ((d,v)::en)) H):TX P ops cls (i::lx) K (ak en) H:=xN h0 hc (TS.mv _<|ic h) k
theorem xAs (h0:ops[i]? = Us ⟨Us d,.assign x,ty,pos,af,Ut⟩) (h:opE en x=Us v) (hc:cls i=(Ur,[])) (k:TX P ops cls lx K (ak ((d,v)::en)) H):TX P ops cls (i::lx) K (ak en) H:=xN h0 hc (TS.asg _<|ic h) k
variable [Tab P]
theorem tN' (h:evN P (rho<|ak en) op=Us (Ut,v)) (hc:fp i=([],Ur)) (k:TG P ops fp (i+1) l K (ak ((d,v)::en)) H):TG P ops fp i (⟨Us d,op,ty,pos,af,Ut⟩::l) K (ak en) H:=tN hc (xg h trivial) k
theorem tG' (h:evN P (rho<|ak en) op=Us (Us c,v)) (hf:fp i=([],Ur)) (hc:c) (k:TG P ops fp (i+1) l K (ak ((d,v)::en)) H):TG P ops fp i (⟨Us d,op,ty,pos,af,Ut⟩::l) K (ak en) H:=tN hf (xg h hc) k
theorem tL' (h:evL P (rho<|ak en) H op=Us (b,sF,ver,v)) (hv:sF=ver) (hf:fp i=([b],Ur)) (k:TG P ops fp (i+1) l K (ak ((d,v)::en)) H):TG P ops fp i (⟨Us d,op,ty,pos,af,Ut⟩::l) K (ak en) H:=tR [b] hf (λG hG=>NC h hv G hG) k
theorem Tu (hy:fw ops.toList (ak en) j = .v (.bool q)) (hq:q=w) (h:evN P (rho<|ak en) op=Us (Ut,v)) (hc:fp i=([],Ur)) (k:TG P ops fp (i+1) l K (ak ((d,v)::en)) H):TG P ops fp i (⟨Us d,op,ty,pos,af,Us (j,w)⟩::l) K (ak en) H:=tgN hy hq hc (xg h trivial) k
theorem Ss (hy:fw ops.toList (ak en) j = .v (.bool q)) (hq:q=w) (h:evN P (rho<|ak en) op=Us (Us c,v)) (hf:fp i=([],Ur)) (hc:c) (k:TG P ops fp (i+1) l K (ak ((d,v)::en)) H):TG P ops fp i (⟨Us d,op,ty,pos,af,Us (j,w)⟩::l) K (ak en) H:=tgN hy hq hf (xg h hc) k
theorem xN' (h0:ops[i]? = Us ⟨Us d,op,ty,pos,af,Ut⟩) (h:evN P (rho<|ak en) op=Us (Ut,v)) (hc:cls i=(Ur,[])) (k:TX P ops cls lx K (ak ((d,v)::en)) H):TX P ops cls (i::lx) K (ak en) H:=xN h0 hc (xg h trivial) k
theorem xG' (h0:ops[i]? = Us ⟨Us d,op,ty,pos,af,Ut⟩) (h:evN P (rho<|ak en) op=Us (Us c,v)) (hf:cls i=(Ur,[])) (hc:c) (k:TX P ops cls lx K (ak ((d,v)::en)) H):TX P ops cls (i::lx) K (ak en) H:=xN h0 hf (xg h hc) k
end
theorem T.cl {P:Program} {nt b0:Nat} {Q:Exit->Env->AH->Prop} {en en':List (Nat×AV)} {H:AH} {x:Code} (l:List Nat) (h:Pb en l=Us en') (k:T P nt b0 x Q (ak en') H):T P nt b0 x Q (ak en) H:=k.weak<|Kg h
theorem T.drawP {P:Program} {nt b0:Nat} {Q:Exit->Env->AH->Prop} {e:Env} {H:AH} {i:Nat} {ops:Array Oper} (hm:P.follows .mixedOrders=Uq) (hc:Rn ops (λ_=>([],Ur))=Uq) (h:TF P (λ_=>([],Ur)) 0 ops.toList (Q .normal) e H):T P nt b0 (.region i ops Uq) Q e H:=T.drawF _ hm hc h
def slq (P:Program) [Tab P] (t:TypeId):Option (TypeId×TI):=match tq P t with
 | some ⟨.slice e,_,_,_,_⟩=>(match tq P e with
  | some ⟨u,ag,n,zs,m⟩=>bif Nat.blt 0 n then Us (e,⟨u,ag,n,zs,m⟩) else Ut
  | none=>Ut)
 | _=>Ut
theorem Ig {P:Program} [Tab P] {t e:TypeId} {x:TI} (h:slq P t=Us (e,x)):SlT P t e x.ag x.n x.zs x.m:=by
 unfold slq at h
 split at h
 ·rename_i hz
  split at h
  ·rename_i u ag n zs m hy
   cases hb:Nat.blt 0 n with
   | true=>
    rw [hb] at h;obtain ⟨rfl,rfl⟩:=Prod.mk.inj<|osl h;exact (l6 hz).sl (l6 hy) rfl hb
   | false=>rw [hb] at h;cases h
  cases h
 cases h
def Su (P:Program) [Tab P] (t:TypeId):Bool:=match tq P t with
 | some ⟨.slice _,_,_,_,_⟩=>Uq
 | some ⟨.string,_,_,_,_⟩=>Uq
 | _=>Ur
theorem NE {P:Program} [Tab P] {t:TypeId} (h:Su P t=Uq):Ki P t=Uq:=by
 unfold Su at h
 split at h
 ·rename_i hz;simp only [Ki,(l6 hz).u]
 ·rename_i hz;simp only [Ki,(l6 hz).u]
 cases h
section
variable {P:Program} [Tab P] {nt b0:Nat} {Q:Exit->Env->AH->Prop} {H:AH} {x y:Operand} {ops:Array Oper} {l:List Oper} {d:Tmp} {op:Op} {ty:TypeId} {pos:String} {af:Array Edge} {en:List (Nat×AV)} {fp:Nat->Fp} {i:Nat} {K:Env->AH->Prop}
variable {t u e e':TypeId} {z:TI} {α:Type} [Inhabited α] {c:α->List AV} {k xs:List α} {g:Bool} {b ver n w j q:Nat} {v:α} {a:AV}
theorem eK (hq:slq P t=Us (e,z)) (hx:((opE en x).bind AV.cells)=Us (c v)) (k:TO P nt b0 ops l Q (ak ((d,eL c [v])::en)) H) (hc:∀ x,(c x).length=z.n) (hF:∀ x,(c x).all (isF 9)=Uq) (hn:Nat.ble z.n 16777216=Uq):TO P nt b0 ops (⟨Us d,.buildSlice t 1 #[(0,x)],ty,pos,af,Ut⟩::l) Q (ak en) H:=by
 obtain ⟨a,ha,hx⟩:=aau.1 hx;have hs:=Ig hq;exact oN (TS.mkF [v] [c v] hs (by simp [ic ha,hx,lw]) (by simp [hs.pos,hn]) rfl hc hF rfl) k
theorem fK (hq:slq P t=Us (e,z)) (hx:((opE en x).bind AV.cells)=Us (c v)) (hf:fp i=([],Ur)) (k:TF P fp (i+1) l K (ak ((d,eL c [v])::en)) H) (hc:∀ x,(c x).length=z.n) (hF:∀ x,(c x).all (isF 9)=Uq) (hn:Nat.ble z.n 16777216=Uq):TF P fp i (⟨Us d,.buildSlice t 1 #[(0,x)],ty,pos,af,Ut⟩::l) K (ak en) H:=by
 obtain ⟨a,ha,hx⟩:=aau.1 hx;have hs:=Ig hq;exact fN hf (TS.mkF [v] [c v] hs (by simp [ic ha,hx,lw]) (by simp [hs.pos,hn]) rfl hc hF rfl) k
theorem eP (hq:slq P t=Us (e,z)) (hu:Su P u=Uq) (hx:opE en x=Us (hS g b ver z.n n)) (hy:opE en y=Us (eL c [v])) (hk:H[b]? = Us (bE g ver z.n e<|xs.map c)) (hn:n=xs.length) (hg:g=Uq->xs=[]) (hc:∀ x,(c x).length=z.n) (hb:bw (xs.length+1) z.m=Uq)
  (k:TO P nt b0 ops l Q (ak ((d,hS Ur b (ver+1) z.n (xs++[v]).length)::en))<|H.set b<|bE Ur (ver+1) z.n e<|(xs++[v]).map c):TO P nt b0 ops (⟨Us d,.call ⟨.builtin .append,#[x,y],#[t,u]⟩,ty,pos,af,Ut⟩::l) Q (ak en) H:=
 oA (EvA.app1 v (Ig hq) (NE hu) (ic hx) hn hk hg (cu.fz (l:=[v]) (ic hy) hc) hb) k
theorem eQ (hq:slq P t=Us (e,z)) (hu:Su P u=Uq) (hx:opE en x=Us (hS Ur b ver z.n n)) (hy:opE en y=Us (eL c k)) (hk:H[b]? = Us (bE Ur ver z.n e<|xs.map c)) (hn:n=xs.length) (hc:∀ x,(c x).length=z.n) (hb:bw (xs.length+k.length) z.m=Uq)
  (kk:TO P nt b0 ops l Q (ak ((d,hS Ur b (ver+1) z.n (xs++k).length)::en))<|H.set b<|bE Ur (ver+1) z.n e<|(xs++k).map c):TO P nt b0 ops (⟨Us d,.call ⟨.builtin .append,#[x,y],#[t,u]⟩,ty,pos,af,Ut⟩::l) Q (ak en) H:=
 oA (EvA.appF k (Ig hq) (NE hu) (ic hx) hn hk (cu.fz (ic hy) hc) hb) kk
theorem eU (hq:slq P t=Us (e,z)) (hx:opE en x=Us (hS g b ver w n)) (hg:g=Uq->n=0) (k:TO P nt b0 ops l Q (ak ((d,I n)::en)) H):TO P nt b0 ops (⟨Us d,.call ⟨.builtin .len,#[x],#[t]⟩,ty,pos,af,Ut⟩::l) Q (ak en) H:=oN (TS.lenO (Ig hq) (ic hx) hg) k
theorem eW {s:Nat} {ag:Bool} {n:Nat} {uu:TypeDesc} {zs:List AV} {m:Nat} (hz:tq P t=Us ⟨uu,ag,n,zs,m⟩) (hx:opE en x=Us (.hp b ver s q j)) (hk:H[b]? = Us (bE g ver s e'<|xs.map c)) (hg:g=Uq->xs=[]) (hi:q<xs.length) (hp:Ic ag n (c<|xs.getD q Uo) j okV=Us (Ut,a)) (k:TO P nt b0 ops l Q (ak ((d,a)::en)) H):TO P nt b0 ops (⟨Us d,.load t x,ty,pos,af,Ut⟩::l) Q (ak en) H:=by
 obtain ⟨a',ha,h'⟩:=yR hp;obtain ⟨_,rfl⟩:=dZ h';exact oA (EvA.ldO _ (l6 hz).ty (ic hx) hk hg hi ha) k
theorem fW' {s:Nat} {ag:Bool} {n:Nat} {uu:TypeDesc} {zs:List AV} {m:Nat} (hz:tq P t=Us ⟨uu,ag,n,zs,m⟩) (hx:opE en x=Us (.hp b ver s q j)) (hk:H[b]? = Us (bE g ver s e'<|xs.map c)) (hf:fp i=([b],Ur)) (hg:g=Uq->xs=[]) (hi:q<xs.length) (hp:Ic ag n (c<|xs.getD q Uo) j okV=Us (Ut,a)) (k:TF P fp (i+1) l K (ak ((d,a)::en)) H):TF P fp i (⟨Us d,.load t x,ty,pos,af,Ut⟩::l) K (ak en) H:=by
 obtain ⟨a',ha,h'⟩:=yR hp;obtain ⟨_,rfl⟩:=dZ h';exact fR [b] hf (λG hG=>EvA.ldO _ (l6 hz).ty (ic hx) (hG.a0 hk) hg hi ha) k
end
attribute [local irreducible] T TO TF TG TX TS EvA
theorem go {P Q:Prop} {α:Type} {x:Option α} {r:α} (h:x=some r) (k:Q) (c:x=some r->Q->P:=by
 intro h k;have f:=True.intro
 repeat first
  | refine eM rfl ?_
  | refine fM rfl rfl ?_
  | refine eN rfl ?_
  | refine eR rfl ?_
  | refine fA rfl rfl ?_
  | refine fN' rfl rfl ?_
  | refine T.sr ?_
  | refine TO.nil ?_
  | ((first | refine jD h ?_ | refine jW h ?_);clear h;intro g h;(first | refine eG rfl g ?_ | refine fG' rfl rfl g ?_ | refine hG rfl (by first | assumption | rfl) rfl g ?_ | refine xG' rfl rfl rfl g ?_ | refine tG' rfl rfl g ?_ | refine Ss rfl (by first | assumption | rfl) rfl rfl g ?_);replace f:=And.intro g f)
  | refine eG rfl (by first | assumption | decide) ?_
  | refine fG' rfl rfl (by first | assumption | decide) ?_
  | refine eA rfl ?_
  | refine eS rfl rfl rfl ?_
  | refine eL_ rfl rfl ?_
  | refine fL' rfl rfl rfl ?_
  | refine fS' rfl rfl rfl rfl ?_
  | (refine jL h ?_;clear h;intro g h;(first | refine eP rfl rfl rfl rfl rfl rfl (by first | assumption | exact λ_=>rfl | exact λx=>Bool.noConfusion x | exact λx=>List.eq_nil_of_length_eq_zero<|by simp_all) (λ_=>rfl) g ?_ | refine eQ rfl rfl rfl rfl rfl rfl (λ_=>rfl) g ?_);replace f:=And.intro g f)
  | refine eU rfl rfl (by first | exact uO (by assumption) rfl | exact λx=>Bool.noConfusion x | assumption) ?_
  | refine eW rfl rfl rfl (by first | assumption | exact λ_=>rfl | exact λx=>Bool.noConfusion x | exact λx=>List.eq_nil_of_length_eq_zero<|by simp_all) (aG rfl<|by assumption) rfl ?_
  | refine fW' rfl rfl rfl rfl (by first | assumption | exact λ_=>rfl | exact λx=>Bool.noConfusion x | exact λx=>List.eq_nil_of_length_eq_zero<|by simp_all) (aG rfl<|by assumption) rfl ?_
  | refine hM rfl (by first | assumption | rfl) rfl ?_
  | refine hR rfl (by first | assumption | rfl) rfl ?_
  | refine hN rfl (by first | assumption | rfl) rfl ?_
  | refine hG rfl (by first | assumption | rfl) rfl (by first | assumption | decide) ?_
  | refine gS rfl (by first | assumption | rfl) ?_
  | refine gU rfl ?_
  | refine xM rfl rfl rfl ?_
  | refine xAs rfl rfl rfl ?_
  | refine xN' rfl rfl rfl ?_
  | refine xG' rfl rfl rfl (by first | assumption | decide) ?_
  | refine tM rfl rfl ?_
  | refine tA rfl rfl ?_
  | refine tN' rfl rfl ?_
  | refine tG' rfl rfl (by first | assumption | decide) ?_
  | refine tL' rfl rfl rfl ?_
  | refine tgM rfl (by first | assumption | rfl) rfl rfl ?_
  | refine Tu rfl (by first | assumption | rfl) rfl rfl ?_
  | refine Ss rfl (by first | assumption | rfl) rfl rfl (by first | assumption | decide) ?_
  | refine tgS rfl (by first | assumption | rfl) ?_
  | refine tgU rfl ?_
  | refine T.skip ?_
  | refine T.block ?_
  | refine T.region ?_
  | refine T.ret ?_
  | refine TF.nil ?_
  | refine TG.nil ?_
  | refine TX.nil ?_
  | ((first | refine jD h ?_ | refine jW h ?_);clear h;intro g h;(first | refine eG rfl (And.intro (by first | assumption | decide) g) ?_ | refine fG' rfl rfl (And.intro (by first | assumption | decide) g) ?_);replace f:=And.intro g f)
  | ((first | refine jD h ?_ | refine jW h ?_);clear h;intro g h;(first | refine jD h ?_ | refine jW h ?_);clear h;intro g' h;(first | refine eG rfl (And.intro g g') ?_ | refine fG' rfl rfl (And.intro g g') ?_);replace f:=And.intro g'<|And.intro g f)
 revert h
 revert f
 exact k):P:=c h k
theorem gs {P Q:Prop} {α:Type} {x:Option α} {r:α} (h:x=some r) (k:Q) (c:x=some r->Q->P:=by
 intro h k;refine T.seq ?_;refine go h λf h=>?_
 revert h
 revert f
 exact k):P:=c h k
theorem gz {P:Prop} {α:Type} {x:Option α} {r:α} (h:x=some r) (c:x=some r->P:=by
 intro h;refine go h λf h=>?_;obtain rfl:=TV h;exact JK rfl rfl rfl):P:=c h
theorem gi {P Q R:Prop} {α:Type} {x:Option α} {r:α} (h:x=some r) (k:Q) (l:R) (c:x=some r->Q->R->P:=by
 intro h k l;refine go h λf h=>?_;refine T.ifH rfl h (λq h=>?_) λq h=>?_
 ·revert q h;revert f;exact k
 revert q h;revert f;exact l):P:=c h k l
theorem Ul {P Q R:Prop} {α:Type} {x:Option α} {r:α} (h:x=some r) (k:Q) (l:R) (c:x=some r->Q->R->P:=by
 intro h k l;refine T.seq ?_;refine go h λf h=>?_;refine T.ifH rfl h (λq h=>?_) λq h=>?_
 ·revert q h;revert f;exact k
 revert q h;revert f;exact l):P:=c h k l
theorem gp {P Q:Prop} {α:Type} {x:Option α} {r:α} (h:x=some r) (k:Q) (c:x=some r->Q->P:=by
 intro h k;refine go h λf h=>?_
 first | refine hPT rfl (by first | assumption | rfl) rfl ?_ | refine hPF rfl (by first | assumption | rfl) rfl ?_ | refine tPT rfl (by first | assumption | rfl) rfl rfl ?_ | refine tPF rfl (by first | assumption | rfl) rfl rfl ?_
 revert h
 revert f
 exact k):P:=c h k
theorem gj {P J:Prop} {α:Type} {x:Option α} {r:α} (h:x=some r) (j:J) (c:x=some r->J->P:=by
 intro h j;refine gp h λf h=>?_;obtain rfl:=TV h;exact j _ _ (kw rfl rfl)):P:=c h j
theorem stc {m:Nat} {H:AH} {en l:List (Nat×AV)} {t:Nat} {v a:AV} (hv:Ie en t=Us v) (h:Stl m H v a) (w:∀ q,Stl m H (ak en q)<|ak l q):∀ q,Stl m H (ak en q) (ak ((t,a)::l) q):=ai ((yS hv).symm ▸ h) w
theorem stS {m:Nat} {H:AH} {g:Bool} {b ver s n:Nat} {a:AV} (ha:a=hS g b ver s n) (hb:Nat.blt b m=Uq):Stl m H a (hS g b ver s n) := .eqv ha<|.hS hb
theorem Um {p:Prop} (c:p:=by
  first
    | exact kw rfl rfl
    | (refine rI rfl ?_ ?_
       · repeat' first
           | exact .nil
           | refine .cons ?_ ?_
           | exact .list (λ_=>rfl)
           | exact .mp (λ_=>rfl)
           | refine .row ?_
           | exact .fz .nil0
           | exact .fz (.of_isF 9 _ rfl)
           | exact stS rfl rfl
           | exact .mp (nlb rfl)
           | exact .hs (nlb rfl)
           | exact .hp (nlb rfl)
           | exact .fz (Fz.own rfl rfl rfl (by first | assumption | exact λ_=>rfl | exact λx=>Bool.noConfusion x | exact λx=>List.eq_nil_of_length_eq_zero<|by simp_all) λ_=>rfl)
       repeat' first
         | exact aY
         | refine stc rfl ?_ ?_
         | exact .fz .nil0
         | exact .fz (.of_isF 9 _ rfl)
         | exact stS rfl rfl
         | exact .mp (nlb rfl)
         | exact .hs (nlb rfl)
         | exact .hp (nlb rfl)
         | exact .fz (Fz.own rfl rfl rfl (by first | assumption | exact λ_=>rfl | exact λx=>Bool.noConfusion x | exact λx=>List.eq_nil_of_length_eq_zero<|by simp_all) λ_=>rfl)
         | refine .fz (Fz.fpL rfl rfl rfl ?_)
         | exact .nil
         | refine .cons ?_ ?_
         | exact .of_isF 9 _ rfl)):p:=c
section
variable {P:Program} {nt b0:Nat} {Q:Exit->Env->AH->Prop} {e:Env} {H:AH} {S E G W:Type} {body x y:Code} {r:E} {step:S->Option (S ⊕ E)} {s0:S} {w:W} {A:Option S} {K:S->Option W}
theorem tL (h:loopO step s0=Us r) (g0:G) (inv:S->G->Prop) (slots:S->G->List (Nat×AV)) (heap:S->G->AH) (hi:inv s0 g0)
 (round:∀ s g z,step s=Us z->inv s g->T P nt b0 body (JA (IB b0 inv slots heap z)<|Leave Q r z) (ak<|slots s g) (heap s g)) (hs:gM b0 e H (ak<|slots s0 g0) (heap s0 g0):=by exact Um):T P nt b0 (.loop body) Q e H:=T.loop step inv slots heap g0 h hi hs round
theorem tT (h:loopO step s0=Us r) (g0:G) (slots:S->G->List (Nat×AV)) (heap:S->G->AH)
 (round:∀ s g z,step s=Us z->T P nt b0 body (JA (IB b0 (λ_ _=>True) slots heap z)<|Leave Q r z) (ak<|slots s g) (heap s g)) (hs:gM b0 e H (ak<|slots s0 g0) (heap s0 g0):=by exact Um):T P nt b0 (.loop body) Q e H:=T.loop step (λ_ _=>True) slots heap g0 h trivial hs λs g z hz _=>round s g z hz
theorem tU (h:loopO step s0=Us r) (slots:S->List (Nat×AV)) (heap:S->AH)
 (round:∀ s z,step s=Us z->T P nt b0 body (JA (IB b0 (λ_ (_:Unit)=>True) (λs _=>slots s) (λs _=>heap s) z)<|Leave Q r z) (ak<|slots s) (heap s)) (hs:gM b0 e H (ak<|slots s0) (heap s0):=by exact Um):T P nt b0 (.loop body) Q e H:=T.lU h slots heap hs round
theorem tJ (h:A.bind K=Us w) (slots:S->G->List (Nat×AV)) (heap:S->G->AH)
 (J:∀ s g,K s=Us w->T P nt b0 y Q (ak<|slots s g) (heap s g)) (k:∀ s,A=Us s->T P nt b0 x (JA (Sf b0 (λ_=>True) (slots s)<|heap s) Q) e H):T P nt b0 (.seq x y) Q e H:=T.jF h (λ_ _=>True) slots heap (λs g h _=>J s g h) k
end
def QX (P:Program) [Tab P] (en:List<|Nat×AV) (H:AH):List ResultVar->Option (List AV)
 | []=>Us []
 | .tmp t::l=>(match Ie en t,QX P en H l with
  | some v,Us r=>Us (v::r)
  | _,_=>Ut)
 | .cell ad t::l=>(match tq P t,Ie en ad,QX P en H l with
  | some ⟨_,ag,n,_,_⟩,Us (.hp b ver s i j),Us r=>(match H[b]? with
   | some (Us ⟨sF,s',_,rows⟩)=>bif Nat.beq sF ver&&Nat.beq s' s then (match rows[i]? with
    | some row=>(match Ic ag n row j okV with
     | some (Ut,a)=>Us (a::r)
     | _=>Ut)
    | none=>Ut) else Ut
   | _=>Ut)
  | _,_,_=>Ut)
theorem GF {P:Program} [Tab P] {en:List (Nat×AV)} {H:AH}:∀ {l:List ResultVar} {vs:List AV},QX P en H l=Us vs->ResL P (ak en) H l vs
 | [],vs,h=>by
  obtain rfl:=osl h;exact .nil
 | .tmp t::l,vs,h=>by
  unfold QX at h
  split at h
  ·rename_i v r hv hr;obtain rfl:=osl h;exact .cons (.tmp<|yS hv)<|GF hr
  cases h
 | .cell ad t::l,vs,h=>by
  unfold QX at h
  split at h
  ·rename_i b ver s i j r hz hv hr
   split at h
   ·rename_i sF s' _ rows hk
    cases hb:(Nat.beq sF ver&&Nat.beq s' s) with
    | true=>
     rw [hb] at h;simp only [cond_true] at h
     split at h
     ·rename_i row hrow
      split at h
      ·rename_i a ha;obtain ⟨a',ha',h'⟩:=yR ha;obtain ⟨_,rfl⟩:=dZ h';obtain rfl:=osl h;rw [bae] at hb;exact .cons (.cell _ (l6 hz).ty (yS hv) hk (aav hb.1) (aav hb.2) hrow ha')<|GF hr
      cases h
     cases h
    | false=>rw [hb] at h;cases h
   cases h
  cases h
theorem TK {P:Program} [Tab P] {fn:Func} {R:AV->AH->Prop} {en:List (Nat×AV)} {G:AH} {vs:List AV} (h:QX P en G fn.results.toList=Us vs) (k:R (Q4 vs) G):Fin P fn R .ret (ak en) G := .ret (GF h) k
theorem TM {P:Program} [Tab P] {fn:Func} {R:AV->AH->Prop} {en:List (Nat×AV)} {G:AH} {vs:List AV} (h:QX P en G fn.results.toList=Us vs) (k:R (Q4 vs) G):Fin P fn R .normal (ak en) G := .normal (GF h) k
theorem gf {P:Prop} {α:Type} {x:Option α} {r:α} (h:x=some r) (c:x=some r->P:=by
 intro h;refine go h λf h=>?_;obtain rfl:=TV h
 repeat first | refine kC ?_ | refine kD ?_
 first | refine TK rfl ?_ | refine TM rfl ?_
 repeat' first
   | exact .of_isF 9 _ rfl
   | exact .nil
   | exact .nil0
   | refine .cons ?_ ?_
   | exact Fz.own rfl rfl (by first | rfl | simp) (by first | assumption | exact λ_=>rfl | exact λx=>Bool.noConfusion x | exact λx=>List.eq_nil_of_length_eq_zero<|by simp_all) (λ_=>rfl)
   | refine .ifc ?_
   | refine .tupL ?_
   | refine .aggL ?_
   | refine Fz.fpL rfl rfl rfl ?_):P:=c h
theorem gk {P Q:Prop} {α:Type} {x:Option α} {r:α} (h:x=some r) (k:Q) (c:x=some r->Q->P:=by
 intro h k;refine go h λf h=>?_
 first
  | refine eK (c:=cI) rfl rfl ?_ (λ_=>rfl) (λ_=>rfl) rfl
  | refine eK (c:=cY) rfl rfl ?_ (λ_=>rfl) (λ_=>rfl) rfl
  | refine eK (c:=cS) rfl rfl ?_ (λ_=>rfl) (λ_=>rfl) rfl
  | refine eK (c:=cB) rfl rfl ?_ (λ_=>rfl) (λ_=>rfl) rfl
  | refine eK (c:=cL _) rfl rfl ?_ (λ_=>rfl) (λ_=>rfl) rfl
  | refine eK rfl rfl ?_ (λ_=>rfl) (λ_=>rfl) rfl
  | refine fK (c:=cI) rfl rfl rfl ?_ (λ_=>rfl) (λ_=>rfl) rfl
  | refine fK (c:=cY) rfl rfl rfl ?_ (λ_=>rfl) (λ_=>rfl) rfl
  | refine fK (c:=cS) rfl rfl rfl ?_ (λ_=>rfl) (λ_=>rfl) rfl
  | refine fK (c:=cB) rfl rfl rfl ?_ (λ_=>rfl) (λ_=>rfl) rfl
  | refine fK (c:=cL _) rfl rfl rfl ?_ (λ_=>rfl) (λ_=>rfl) rfl
  | refine fK rfl rfl rfl ?_ (λ_=>rfl) (λ_=>rfl) rfl
 refine go h λf' h=>?_
 revert h
 revert f'
 revert f
 exact k):P:=c h k
theorem gq {P Q:Prop} {α:Type} {x:Option α} {r:α} (h:x=some r) (k:Q) (c:x=some r->Q->P:=by
 intro h k;have f:=True.intro
 repeat first
  | refine eM rfl ?_
  | refine fM rfl rfl ?_
  | refine eN rfl ?_
  | refine eR rfl ?_
  | refine fA rfl rfl ?_
  | refine fN' rfl rfl ?_
  | refine TO.nil ?_
  | ((first | refine jD h ?_ | refine jW h ?_);clear h;intro g h;(first | refine eG rfl g ?_ | refine fG' rfl rfl g ?_ | refine hG rfl (by first | assumption | rfl) rfl g ?_ | refine xG' rfl rfl rfl g ?_ | refine tG' rfl rfl g ?_ | refine Ss rfl (by first | assumption | rfl) rfl rfl g ?_);replace f:=And.intro g f)
  | refine eG rfl (by first | assumption | decide) ?_
  | refine fG' rfl rfl (by first | assumption | decide) ?_
  | refine eA rfl ?_
  | refine eS rfl rfl rfl ?_
  | refine eL_ rfl rfl ?_
  | refine fL' rfl rfl rfl ?_
  | refine fS' rfl rfl rfl rfl ?_
  | (refine jL h ?_;clear h;intro g h;(first | refine eP rfl rfl rfl rfl rfl rfl (by first | assumption | exact λ_=>rfl | exact λx=>Bool.noConfusion x | exact λx=>List.eq_nil_of_length_eq_zero<|by simp_all) (λ_=>rfl) g ?_ | refine eQ rfl rfl rfl rfl rfl rfl (λ_=>rfl) g ?_);replace f:=And.intro g f)
  | refine eU rfl rfl (by first | exact uO (by assumption) rfl | exact λx=>Bool.noConfusion x | assumption) ?_
  | refine eW rfl rfl rfl (by first | assumption | exact λ_=>rfl | exact λx=>Bool.noConfusion x | exact λx=>List.eq_nil_of_length_eq_zero<|by simp_all) (aG rfl<|by assumption) rfl ?_
  | refine fW' rfl rfl rfl rfl (by first | assumption | exact λ_=>rfl | exact λx=>Bool.noConfusion x | exact λx=>List.eq_nil_of_length_eq_zero<|by simp_all) (aG rfl<|by assumption) rfl ?_
  | refine hM rfl (by first | assumption | rfl) rfl ?_
  | refine hR rfl (by first | assumption | rfl) rfl ?_
  | refine hN rfl (by first | assumption | rfl) rfl ?_
  | refine hG rfl (by first | assumption | rfl) rfl (by first | assumption | decide) ?_
  | refine gS rfl (by first | assumption | rfl) ?_
  | refine gU rfl ?_
  | refine xM rfl rfl rfl ?_
  | refine xAs rfl rfl rfl ?_
  | refine xN' rfl rfl rfl ?_
  | refine xG' rfl rfl rfl (by first | assumption | decide) ?_
  | refine tM rfl rfl ?_
  | refine tA rfl rfl ?_
  | refine tN' rfl rfl ?_
  | refine tG' rfl rfl (by first | assumption | decide) ?_
  | refine tL' rfl rfl rfl ?_
  | refine tgM rfl (by first | assumption | rfl) rfl rfl ?_
  | refine Tu rfl (by first | assumption | rfl) rfl rfl ?_
  | refine Ss rfl (by first | assumption | rfl) rfl rfl (by first | assumption | decide) ?_
  | refine tgS rfl (by first | assumption | rfl) ?_
  | refine tgU rfl ?_
  | refine TF.nil ?_
  | refine TG.nil ?_
  | refine TX.nil ?_
  | ((first | refine jD h ?_ | refine jW h ?_);clear h;intro g h;(first | refine eG rfl (And.intro (by first | assumption | decide) g) ?_ | refine fG' rfl rfl (And.intro (by first | assumption | decide) g) ?_);replace f:=And.intro g f)
  | ((first | refine jD h ?_ | refine jW h ?_);clear h;intro g h;(first | refine jD h ?_ | refine jW h ?_);clear h;intro g' h;(first | refine eG rfl (And.intro g g') ?_ | refine fG' rfl rfl (And.intro g g') ?_);replace f:=And.intro g'<|And.intro g f)
 revert h
 revert f
 exact k):P:=c h k
set_option maxRecDepth 100000
noncomputable instance:Tab Uv:=⟨[.m Tryz.underlying2 Ur 1 [I (0:Int)] 8,.m Tryz.underlying3 Ur 1 [I (0:Int)] 8,.m Tryz.underlying4 Ur 1 [Bo Ur] 1,.m Tryz.underlying5 Ur 1 [Y (0:Int)] 1,.m Tryz.underlying6 Ur 1 [Y (0:Int)] 1,.m Tryz.underlying9 Ur 1 [St (⟨#[]⟩:BA)] 16,.m Tryz.underlying12 Ur 1 [.v (.int .u64 (0:Int))] 8,.m Tryz.underlying21 Ur 1 [.v (.int .i32 (0:Int))] 4,.m Tryz.underlying22 Ur 1 [.nil] 24,.m Tryz.underlying23 Ur 1 [.nil] 24,.m Tryz.underlying25 Ur 1 [.nil] 24,.m Tryz.underlying27 Ur 1 [.nil] 24,.m Tryz.underlying31 Ur 1 [.nil] 24,.m Tryz.underlying36 Ur 1 [.nil] 24,.m Tryz.underlying46 Uq 2 [.nil,.nil] 48,.m Tryz.underlying59 Uq 2 [.nil,I (0:Int)] 32,.m Tryz.underlying62 Ur 1 [.nil] 24,.m Tryz.underlying65 Uq 4 [I (0:Int),I (0:Int),I (0:Int),I (0:Int)] 32,.m Tryz.underlying72 Ur 1 [.nil] 24,.m Tryz.underlying75 Uq 5 [I (0:Int),I (0:Int),I (0:Int),Bo Ur,Bo Ur] 32,.m Tryz.underlying79 Ur 1 [.nil] 24,.m Tryz.underlying84 Ur 1 [.v (.map Ut)] 8,.m Tryz.underlying86 Uq 6 [.nil,.nil,.nil,.nil,.nil,.v (.map Ut)] 128,.m Tryz.underlying88 Uq 3 [I (0:Int),I (0:Int),I (0:Int)] 24,.m Tryz.underlying92 Ur 1 [.nil] 24,.m Tryz.underlying98 Ur 1 [.nil] 24,.m Tryz.underlying100 Uq 3 [I (0:Int),St (⟨#[]⟩:BA),.nil] 48,.m Tryz.underlying104 Uq 4 [I (0:Int),I (0:Int),St (⟨#[]⟩:BA),.nil] 56,.m Tryz.underlying131 Ur 1 [.v (.int .u64 (0:Int))] 8,.m Tryz.underlying136 Uq 2 [St (⟨#[]⟩:BA),Bo Ur] 24,.m Tryz.underlying151 Ur 1 [.nil] 24,.m Tryz.underlying153 Uq 6 [.nil,.nil,.nil,.nil,.nil,.nil] 144,.m Tryz.underlying162 Ur 1 [I (0:Int)] 8,.m Tryz.underlying169 Ur 1 [.v (.int .u32 (0:Int))] 4,.m Tryz.underlying171 Ur 1 [.v (.int .u64 (0:Int))] 8,.m Tryz.underlying193 Uq 3 [Y (0:Int),Y (0:Int),Y (0:Int)] 3,.m Tryz.underlying194 Uq 9 [Y (0:Int),Y (0:Int),Y (0:Int),Y (0:Int),Y (0:Int),Y (0:Int),Y (0:Int),Y (0:Int),Y (0:Int)] 9,.m Tryz.underlying196 Uq 16 [.nil,Y (0:Int),Y (0:Int),Y (0:Int),Y (0:Int),Y (0:Int),Y (0:Int),Y (0:Int),Y (0:Int),Y (0:Int),Y (0:Int),Y (0:Int),Y (0:Int),Y (0:Int),Y (0:Int),Y (0:Int)] 40,.m Tryz.underlying198 Uq 16 [.nil,Y (0:Int),Y (0:Int),Y (0:Int),Y (0:Int),Y (0:Int),Y (0:Int),Y (0:Int),Y (0:Int),Y (0:Int),Y (0:Int),Y (0:Int),Y (0:Int),Y (0:Int),Y (0:Int),Y (0:Int)] 40,.m Tryz.underlying206 Ur 1 [.v (.int .u64 (0:Int))] 8,.m Tryz.underlying241 Uq 2 [Y (0:Int),Y (0:Int)] 2,.m Tryz.underlying250 Ur 1 [Y (0:Int)] 1,.m Tryz.underlying251 Ur 1 [Y (0:Int)] 1,.m Tryz.underlying253 Ur 1 [.v (.int .i32 (0:Int))] 4,.m Tryz.underlying254 Ur 1 [.v (.int .i32 (0:Int))] 4,.m Tryz.underlying15 Ur 1 [.v (.pointer Ut)] 8,.m Tryz.underlying16 Ur 1 [.v (.pointer Ut)] 8,.m Tryz.underlying17 Ur 1 [.v (.pointer Ut)] 8,.m Tryz.underlying39 Ur 1 [.v (.pointer Ut)] 8,.m Tryz.underlying83 Ur 1 [.v (.pointer Ut)] 8,.m Tryz.underlying134 Ur 1 [.v (.pointer Ut)] 8,.m Tryz.underlying150 Ur 1 [.v (.pointer Ut)] 8,.m Tryz.underlying179 Ur 1 [.v (.pointer Ut)] 8,.m Tryz.underlying192 Ur 1 [.v (.pointer Ut)] 8,.m Tryz.underlying210 Ur 1 [.v (.pointer Ut)] 8,.m Tryz.underlying216 Ur 1 [.v (.pointer Ut)] 8,.m Tryz.underlying229 Ur 1 [.v (.pointer Ut)] 8,.m Tryz.underlying260 Ur 1 [.v (.pointer Ut)] 8]⟩
end
end Go.Proofs.YtdmahcaohkplcaaGreatDoor
