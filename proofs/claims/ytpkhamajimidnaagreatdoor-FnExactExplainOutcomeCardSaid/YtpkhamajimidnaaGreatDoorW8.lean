/- Texts joined. No conditions. -/
import Derived.Test.YtpkhamajimidnaaGreatDoorW7
namespace Go.Proofs.YtpkhamajimidnaaGreatDoor
noncomputable section
open _root_.List renaming range -> Tc, nil_append -> Te, length_take -> Tg, length_range -> Tj, length_drop -> Tm, append_assoc -> Tn, take_length -> Tp, length_singleton -> Tq, mem_map -> Tt, mem_range -> Tu, getElem_mem -> Tv, filter_append -> Tw, flatMap_cons -> Tx, mem_singleton -> Tz, mem_append_left -> TA, mem_cons_self -> TC, filter_cons_of_pos -> TD, length_tail -> TE, mem_append -> TI, mem_cons_of_mem -> TJ, idxOf_lt_length_of_mem -> TM, range_succ -> TP, map_append -> TQ, filter_cons_of_neg -> TR, getElem?_map -> TU, take_of_length_le -> TW, length_nil -> TY, mem_append_right -> TZ, take_append_getElem -> T9, length_set -> Ua, prefix_refl -> Ub, take_append_drop -> Uf, length_filter_le -> Ug, range' -> Uh, eq_nil_of_length_eq_zero -> Ui, drop_eq_getElem_cons -> Um, flatMap_append -> Un, filter_eq_self -> Uo, drop_eq_nil_of_le -> Uq
open _root_.Nat renaming le_trans -> Td, le_refl -> Tf, zero_le -> Ti, lt_or_ge -> TB, mul_le_mul -> TH, le_mul_of_pos_right -> TS, le_mul_of_pos_left -> TT, mul_pos -> TV, sub_self -> Uc
open _root_.BitVec renaming ofInt -> Ty, ofInt_natCast -> Ud, toNat_ofNat -> Ue
open _root_.Int renaming toNat_of_nonneg -> TK
open _root_.Bool renaming true_and -> TN
open _root_.Option renaming bind -> Uj
open _root_.List.Nodup renaming length_le_of_subset -> Uk
open _root_.List.IsPrefix renaming trans -> Ul
open Go.RowKit
def PE {α:Type} (x:Option α) (P:α->Prop):Prop:=∃ v,x=some v/\P v
section
variable {α β S E:Type} {P:α->Prop} {Q:β->Prop} {x y:Option α}
theorem PE.pure {v:α} (h:P v):PE (some v) P:=⟨v,rfl,h⟩
theorem PE.mono {P':α->Prop} (h:PE x P) (k:∀ v,P v->P' v):PE x P':=by
 obtain ⟨v,e,p⟩:=h;exact ⟨v,e,k v p⟩
theorem PE.bind {o:Option α} {f:α->Option β} (h:PE o P) (k:∀ v,P v->PE (f v) Q):PE (o.bind f) Q:=by
 obtain ⟨v,rfl,p⟩:=h;exact k v p
theorem PE.gd {b:Bool} (hb:b=true) (h:PE x P):PE (gd b x) P:=by rw [tO hb];exact h
theorem PE.gdD {A:Prop} [Decidable A] (hb:A) (h:PE x P):PE (Go.Proofs.YtpkhamajimidnaaGreatDoor.gd (decide A) x) P:=PE.gd (decide_eq_true hb) h
theorem PE.gdI {n:Int} (hb : -9223372036854775808<=n/\n<=9223372036854775807) (h:PE x P):PE (Go.Proofs.YtpkhamajimidnaaGreatDoor.gd (Pv .i64 n) x) P:=PE.gd (MI hb) h
theorem PE.gdY {n:Int} (hb:0<=n/\n<=255) (h:PE x P):PE (Go.Proofs.YtpkhamajimidnaaGreatDoor.gd (Pv .u8 n) x) P:=PE.gd (MJ hb) h
theorem Jv {n m:Nat} (hn:n<=1048576) (hm:Nat.ble m 1000=true):bF n m=true:=by
 have h1:=nlb hm;have h2:n*m<=1048576*1000:=TH hn h1;exact decide_eq_true ⟨by omega,by omega⟩
theorem PE.gdC {n m:Nat} (hn:n<=1048576) (hm:Nat.ble m 1000=true) (h:PE x P):PE (Go.Proofs.YtpkhamajimidnaaGreatDoor.gd (bF n m) x) P:=PE.gd (Jv hn hm) h
theorem PE.bif {b:Bool} (h1:b=true->PE x P) (h2:b=false->PE y P):PE (bif b then x else y) P:=by
 cases b with
 | true=>exact h1 rfl
 | false=>exact h2 rfl
theorem PE.bifD {A:Prop} [Decidable A] (h1:A->PE x P) (h2 : ¬ A->PE y P):PE (_root_.cond (decide A) x y) P:=
 PE.bif (λh=>h1 (of_decide_eq_true h)) (λh=>h2 (of_decide_eq_false h))
theorem PE.sum {W:Type} {PS:S->Prop} {PW:W->Prop} {a:Option (S ⊕ W)} {f:S->Option W} (h:PE a λz=>match z with
  | .inl s=>PS s
  | .inr w=>PW w) (k:∀ s,PS s->PE (f s) PW):PE (sumK a f) PW:=by
 obtain ⟨v,rfl,p⟩:=h
 match v,p with
 | .inl s,p=>exact k s p
 | .inr w,p=>exact ⟨w,rfl,p⟩
theorem PE.loop {step:S->Option (S ⊕ E)} {R:E->Prop} (J:S->Prop) (mu:S->Nat) {s0:S} (h0:J s0) (h:∀ s,J s->PE (step s) λz=>match z with
  | .inl s'=>J s'/\mu s'<mu s
  | .inr x=>R x):PE (loopO step s0) R:=by
 have key:∀ (n:Nat) (s:S),mu s=n->J s->PE (loopO step s) R:=by
  intro n
  induction n using Nat.strongRecOn with
  | _ n ih=>
   intro s hs hj;obtain ⟨z,e,hz⟩:=h s hj;rw [Cz,e]
   match z,hz with
   | .inl s',hz=>exact ih (mu s') (by omega) s' rfl hz.1
   | .inr x,hz=>exact ⟨x,rfl,hz⟩
 exact key _ s0 rfl h0
theorem PE.eq {v:α} (h:PE x (· = v)):x=some v:=by
 obtain ⟨u,e,rfl⟩:=h;exact e
theorem PE.of {v:α} (h:x=some v) (p:P v):PE x P:=⟨v,h,p⟩
end
section
variable {α β:Type} {x x' y y':Option α}
end
set_option maxRecDepth 100000
def cmpL:LI->LI->Int
 | [],[]=>0
 | [],_::_ => -1
 | _::_,[]=>1
 | a::l,b::k=>if a<b then -1 else if b<a then 1 else cmpL l k
theorem DN:∀ l,cmpL l l=0
 | []=>rfl
 | a::l=>by rw [cmpL,if_neg (Int.lt_irrefl _),if_neg (Int.lt_irrefl _),DN l]
theorem cmpL_eq:∀ {l k},cmpL l k=0->l=k
 | [],[],_=>rfl
 | [],_::_,h=>by cases h
 | _::_,[],h=>by cases h
 | a::l,b::k,h=>by
  rw [cmpL] at h
  split at h
  ·cases h
  split at h
  ·cases h
  rw [cmpL_eq h]
  congr 1
  omega
structure Mac (σ:Type) where
 mv:σ->LI
 af:σ->Int->σ
 ky:σ->ByteArray
 dn:σ->Bool
 oc:σ->LI
section
variable {σ:Type} (M:Mac σ)
inductive Rea (s0:σ):σ->Prop
 | base:Rea s0 s0
 | step {s:σ} {m:Int} (h:Rea s0 s) (hm:m∈M.mv s):Rea s0 (M.af s m)
variable {M} {s0:σ} {N:Nat}
def Done (M:Mac σ) (V:List σ) (outs:LL) (v:σ):Prop:=(∀ m∈M.mv v,M.af v m∈V)/\(M.dn v=true->M.oc v∈outs)
structure Srch (M:Mac σ) (s0:σ) (V stack:List σ) (outs:List (List Int)) (cur:Option (σ×Nat)):Prop where
 rea:∀ v∈V,Rea M s0 v
 base:s0∈V
 nd:V.Nodup
 sub:∀ v∈stack,v∈V
 all:∀ v∈V,v∈stack\/(∃ n,cur=some (v,n))\/Done M V outs v
 out:∀ o∈outs,∃ v∈V,M.dn v=true/\M.oc v=o
 len:outs.length+stack.length<=V.length
 cur_:∀ s n,cur=some (s,n)->s∈V/\(M.dn s=true->M.oc s∈outs)/\∀ j,j<n->∀ m,(M.mv s)[j]? = some m->M.af s m∈V
theorem Srch.new {V stack:List σ} {s:σ} {outs:LL} {n:Nat} {m:Int} (h:Srch M s0 V stack outs (some (s,n))) (hm:(M.mv s)[n]? = some m) (hv:M.af s m∉V):Srch M s0 (V++[M.af s m]) (stack++[M.af s m]) outs (some (s,n+1)) where
 rea:=λv hv=>by
  rcases TI.1 hv with hv | hv
  ·exact h.rea v hv
  rw [Tz.1 hv];exact .step (h.rea s (h.cur_ s n rfl).1) (List.mem_of_getElem? hm)
 base:=TA _ h.base
 nd:=by
  rw [List.nodup_append];exact ⟨h.nd,by simp,λa ha b hb e=>hv (by rw [<- Tz.1 hb,<- e];exact ha)⟩
 sub:=λv hv=>by
  rcases TI.1 hv with hv | hv
  ·exact TA _ (h.sub v hv)
  exact TZ _ hv
 all:=λv hv=>by
  rcases TI.1 hv with hv | hv
  ·rcases h.all v hv with h1 | ⟨k,h1⟩ | ⟨h1,h2⟩
   ·exact .inl (TA _ h1)
   ·injection h1 with h1;injection h1 with h1 _;subst h1;exact .inr (.inl ⟨n+1,rfl⟩)
   exact .inr (.inr ⟨λm hm=>TA _ (h1 m hm),h2⟩)
  exact .inl (TZ _ hv)
 out:=λo ho=>by
  obtain ⟨v,g1,g2⟩:=h.out o ho;exact ⟨v,TA _ g1,g2⟩
 len:=by
  have := h.len;simp only [lla,Tq];omega
 cur_:=λt k e=>by
  injection e with e;injection e with e1 e2;subst e1 e2;obtain ⟨g1,g2,g3⟩:=h.cur_ s n rfl;refine ⟨TA _ g1,g2,λj hj m' hm' => ?_⟩;rcases TB j n with h' | h'
  ·exact TA _ (g3 j h' m' hm')
  obtain rfl:j=n:=by omega
  rw [hm] at hm';obtain rfl:=osl hm';exact TZ _ (Tz.2 rfl)
end
section
variable {σ:Type} [Inhabited σ] (mv:σ->Option (LI)) (af:σ->Int->Option σ) (ky:σ->Option ByteArray) (dn:σ->Option Bool) (oc:σ->Option (LI)) (srt:LL->Option (LL))
variable {mv af ky dn oc srt} {M:Mac σ} {s0:σ} {N:Nat}
end
theorem Jw {σ:Type} (f:σ->Nat) (m:Nat):∀ (V:List σ),V.Nodup->(∀ v∈V,f v<m)->(∀ u∈V,∀ v∈V,f u=f v->u=v)->V.length<=m:=λV hn hl hi=>by
 have h1:(V.map f).Nodup:=by
  rw [List.nodup_iff_pairwise_ne] at hn ⊢;rw [List.pairwise_map];exact hn.imp_of_mem λ{a b} ha hb hne e=>hne (hi a ha b hb e)
 have := Uk h1 (l₂:=Tc m) λx hx=>by
  obtain ⟨v,hv,rfl⟩:=Tt.1 hx;exact Tu.2 (hl v hv)
 simpa using this
def rdX (x:Px):Bool:=x.Op==1||x.Op==5
def wrX (x:Px):Bool:=x.Op==2||x.Op==3||x.Op==5
theorem MO (x:Px):PE (iW x) (· = rdX x):=by
 unfold iW rdX;exact PE.bind (P:=(· = (x.Op==1||x.Op==5))) (.bif (λh => .pure (by rw [h];rfl)) λh => .pure (by rw [h];rfl)) λv hv => .pure hv
theorem K6 (x:Px):PE (ib x) (· = wrX x):=by
 unfold ib wrX;exact PE.bind (P:=(· = (x.Op==2||x.Op==3))) (.bif (λh => .pure (by rw [h];rfl)) λh => .pure (by rw [h];rfl)) λv hv=>PE.bind (P:=(· = (x.Op==2||x.Op==3||x.Op==5))) (.bif (λh => .pure (by rw [<- hv,h];rfl)) λh => .pure (by rw [<- hv,h];rfl)) λv hv => .pure hv
def Vs (p:List (List Px)):Prop:=p.length<=3/\∀ n,(p.getD n default).length<=7
theorem Vs.of {p:List (List Px)} (h:bB (p.map λr=>r.map lu)=true):Vs p/\∀ t k:Nat,t<p.length->k<(p.getD t default).length->jf (lu ((p.getD t default).getD k default))=true:=by
 simp only [bB,rH,bae,dte,List.all_eq_true,rowOk] at h;have hl:p.length<=3:=by simpa using h.1.1.1.1
 have hr:=h.1.1.1.2;refine ⟨⟨hl,λn=>?_⟩,λt k ht hk=>?_⟩
 ·by_cases hn:n<p.length
  ·have e:p.getD n default=p[n]:=by simp [hn]
   rw [e];have := (hr (p[n].map lu) (Tt.2 ⟨p[n],Tv hn,rfl⟩)).1;simpa using this
  rw [gdq,gen (by omega)];exact Ti _
 have e:p.getD t default=p[t]:=by simp [ht]
 rw [e] at hk ⊢;have h1:=(hr (p[t].map lu) (Tt.2 ⟨p[t],Tv ht,rfl⟩)).2;have e2:p[t].getD k default=p[t][k]:=by simp [hk]
 rw [e2];exact h1 _ (Tt.2 ⟨_,Tv hk,rfl⟩)
def InR (x:Px):Prop:=0<=x.Loc/\x.Loc<=2/\0<=x.Reg/\x.Reg<=2/\0<=x.Val/\x.Val<=3
theorem Hy {x:Px} (h:jf (lu x)=true):InR x:=by
 obtain ⟨o,l,r,v⟩:=x;unfold InR;simp only;unfold jf lu at h;simp only [inB] at h
 split at h
 ·simp only [bae,dte,beq_iff_eq] at h;omega
 split at h
 ·simp only [bae,dte,beq_iff_eq] at h;omega
 split at h
 ·simp only [bae,dte,beq_iff_eq] at h;omega
 split at h
 ·simp only [bae,dte] at h;omega
 cases h
structure PV (p:List (List Px)):Prop where
 vs:Vs p
 pos:0<p.length
 ins:∀ t k:Nat,t<p.length->k<(p.getD t default).length->InR ((p.getD t default).getD k default)
theorem PV.of {p:List (List Px)} (h:bB (p.map λr=>r.map lu)=true):PV p:=by
 have h1:=Vs.of h;refine ⟨h1.1,?_,λt k ht hk=>Hy (h1.2 t k ht hk)⟩;simp only [bB,bae,dte,llm] at h;exact h.1.2
theorem aI {n m:Nat} (hn:n<=4000000) (hm:Nat.ble m 1000=true):bF n m=true:=by
 have h1:=nlb hm;have h2:n*m<=4000000*1000:=TH hn h1;exact decide_eq_true ⟨by omega,by omega⟩
theorem Fj (a:Z3b) (q i v:Int) (hq:0<=q/\q<=2) (hi:0<=i/\i<=2):Z3b.get (Z3b.set a q v) i=if i=q then v else Z3b.get a i:=by
 obtain ⟨x,y,z⟩:=a;have h1:q=0\/q=1\/q=2:=by omega
 have h2:i=0\/i=1\/i=2:=by omega
 rcases h1 with rfl | rfl | rfl <;> rcases h2 with rfl | rfl | rfl <;> rfl
theorem Hz (a:Z33) (q i:Int) (v:Z3b) (hq:0<=q/\q<=2) (hi:0<=i/\i<=2):Z33.get (Z33.set a q v) i=if i=q then v else Z33.get a i:=by
 obtain ⟨x,y,z⟩:=a;have h1:q=0\/q=1\/q=2:=by omega
 have h2:i=0\/i=1\/i=2:=by omega
 rcases h1 with rfl | rfl | rfl <;> rcases h2 with rfl | rfl | rfl <;> rfl
theorem PE.sumR {S W:Type} {a:Option (S ⊕ W)} {f:S->Option W} {w:W} (h:PE a (· = .inr w)):PE (sumK a f) (· = w):=by
 obtain ⟨v,rfl,rfl⟩:=h;exact ⟨w,rfl,rfl⟩

def evI (t k:Nat) (x:Px):List Pz:=if x.Op=4 then [] else [⟨t,k,x.Loc,rdX x,wrX x⟩]
def evR (t:Nat) (row:List Px):Nat->List Pz
 | 0=>[]
 | n+1=>evR t row n++evI t n (row.getD n default)
def ev0:List Pz:=[⟨-1,0,0,false,true⟩,⟨-1,1,1,false,true⟩,⟨-1,2,2,false,true⟩]
def evP (p:List (List Px)):Nat->List Pz
 | 0=>ev0
 | n+1=>evP p n++evR n (p.getD n default) (p.getD n default).length
def evs (p:List (List Px)):List Pz:=evP p p.length
theorem HE (t k:Nat) (x:Px):(evI t k x).length<=1:=by unfold evI;split <;> simp
theorem EF (t:Nat) (row:List Px) (n:Nat):(evR t row n).length<=n:=by
 induction n with
 | zero=>exact Tf _
 | succ n ih=>
  have := HE t n (row.getD n default);simp only [evR,lla];omega
theorem EG {p:List (List Px)} (h:Vs p) (n:Nat):(evP p n).length<=3+7*n:=by
 induction n with
 | zero=>exact Tf _
 | succ n ih=>
  have h1:=EF n (p.getD n default) (p.getD n default).length;have h2:=h.2 n;simp only [evP,lla];omega
theorem MP (x:Px):PE (nI x) (· = rdX x):=by
 unfold nI rdX;exact PE.bind (P:=(· = (x.Op==1||x.Op==5))) (.bif (λh => .pure (by rw [h];rfl)) λh => .pure (by rw [h];rfl)) λv hv => .pure hv
theorem K7 (x:Px):PE (mg x) (· = wrX x):=by
 unfold mg wrX;exact PE.bind (P:=(· = (x.Op==2||x.Op==3))) (.bif (λh => .pure (by rw [h];rfl)) λh => .pure (by rw [h];rfl)) λv hv=>PE.bind (P:=(· = (x.Op==2||x.Op==3||x.Op==5))) (.bif (λh => .pure (by rw [<- hv,h];rfl)) λh => .pure (by rw [<- hv,h];rfl)) λv hv => .pure hv
theorem AA {p:List (List Px)} (hp:Vs p):PE (fg p) (· = evs p):=by
 have hpl:=hp.1;unfold fg;refine PE.bind (P:=(· = ev0)) ?_ λl hl=>PE.bind (P:=(· = evs p)) ?_ λv hv => .pure hv
 ·refine PE.loop (λs=>∃ n:Nat,n<=3/\s=(ev0.take n,(n:Int))) (λs=>(3-s.2).toNat) ⟨0,by omega,rfl⟩ λs ⟨n,h1,h2⟩ => ?_;subst h2;unfold oK;refine .bifD (λh=>?_) λh => .pure ?_
  ·match n,h1,h with
   | 0,_,_=>exact .gdC (by decide) rfl (.gdI (by decide) (.pure ⟨⟨1,by omega,rfl⟩,by decide⟩))
   | 1,_,_=>exact .gdC (by decide) rfl (.gdI (by decide) (.pure ⟨⟨2,by omega,rfl⟩,by decide⟩))
   | 2,_,_=>exact .gdC (by decide) rfl (.gdI (by decide) (.pure ⟨⟨3,by omega,rfl⟩,by decide⟩))
   | 3,_,h=>exact absurd h (by decide)
  have : n=3:=by simp only [] at h;omega
  subst this
  rfl
 subst hl;refine PE.loop (λs=>∃ n:Nat,n<=p.length/\s=(evP p n,(n:Int))) (λs=>((p.length:Int)-s.2).toNat) ⟨0,by omega,rfl⟩ λs ⟨n,h1,h2⟩ => ?_;subst h2;unfold ni;refine .bifD (λh=>?_) λh => .pure ?_
 ·have hlen:=EG hp n;have hrow:=hp.2 n;simp only [] at h;refine PE.bind (P:=(· = evP p (n+1))) (.gdD ⟨by simp only [];omega,h⟩ ?_) λv hv => .gdI (by simp only [];omega) (.pure ⟨⟨n+1,by omega,by rw [hv];rfl⟩,by simp only [];omega⟩);refine PE.loop (λt=>∃ k:Nat,k<=(p.getD n default).length/\t=(evP p n++evR n (p.getD n default) k,(k:Int))) (λt=>(((p.getD n default).length:Int)-t.2).toNat) ⟨0,by omega,by simp [evR]⟩ λt ⟨k,k1,k2⟩ => ?_;subst k2;unfold ng;simp only [tnn];refine .bifD (λhk=>?_) λhk => .pure ?_
  ·have hl2:=EF n (p.getD n default) k;refine PE.bind (P:=(· = evP p n++evR n (p.getD n default) (k+1))) (.gdD ⟨by omega,hk⟩ ?_) λv hv => .gdI (by omega) (.pure ⟨⟨k+1,by omega,by rw [hv];rfl⟩,by simp only [];omega⟩);refine .bif (λho=>?_) λho => .pure ?_
   ·refine (MO _).bind λa ha=>(K6 _).bind λb hb => .gdC (by simp only [lla];omega) rfl (.pure ?_);have h4 : ¬ ((p.getD n default).getD k default).Op=4:=by simpa using ho
    subst ha hb;simp only [evR,evI,if_neg h4,Tn]
   have h4:((p.getD n default).getD k default).Op=4:=by simpa using ho
   simp only [evR,evI,if_pos h4,List.append_nil]
  have : k=(p.getD n default).length:=by omega
  subst this
  rfl
 have : n=p.length:=by simp only [] at h;omega
 subst this
 rfl
theorem xI {p:List (List Px)} (hp:Vs p):PE (bT p) (· = evs p):=by
 have hpl:=hp.1;unfold bT;refine PE.bind (P:=(· = ev0)) ?_ λl hl=>PE.bind (P:=(· = evs p)) ?_ λv hv => .pure hv
 ·refine PE.loop (λs=>∃ n:Nat,n<=3/\s=(ev0.take n,(n:Int))) (λs=>(3-s.2).toNat) ⟨0,by omega,rfl⟩ λs ⟨n,h1,h2⟩ => ?_;subst h2;unfold mh;refine .bifD (λh=>?_) λh => .pure ?_
  ·match n,h1,h with
   | 0,_,_=>exact .gdC (by decide) rfl (.gdI (by decide) (.pure ⟨⟨1,by omega,rfl⟩,by decide⟩))
   | 1,_,_=>exact .gdC (by decide) rfl (.gdI (by decide) (.pure ⟨⟨2,by omega,rfl⟩,by decide⟩))
   | 2,_,_=>exact .gdC (by decide) rfl (.gdI (by decide) (.pure ⟨⟨3,by omega,rfl⟩,by decide⟩))
   | 3,_,h=>exact absurd h (by decide)
  have : n=3:=by simp only [] at h;omega
  subst this
  rfl
 subst hl;refine PE.loop (λs=>∃ n:Nat,n<=p.length/\s=(evP p n,(n:Int))) (λs=>((p.length:Int)-s.2).toNat) ⟨0,by omega,rfl⟩ λs ⟨n,h1,h2⟩ => ?_;subst h2;unfold lC;refine .bifD (λh=>?_) λh => .pure ?_
 ·have hlen:=EG hp n;have hrow:=hp.2 n;simp only [] at h;refine PE.bind (P:=(· = evP p (n+1))) ?_ λv hv => .gdI (by simp only [];omega) (.pure ⟨⟨n+1,by omega,by rw [hv];rfl⟩,by simp only [];omega⟩);refine PE.loop (λt=>∃ k:Nat,k<=(p.getD n default).length/\t=(evP p n++evR n (p.getD n default) k,(k:Int))) (λt=>(((p.getD n default).length:Int)-t.2).toNat) ⟨0,by omega,by simp [evR]⟩ λt ⟨k,k1,k2⟩ => ?_;subst k2;unfold lw;simp only [tnn];refine .gdD ⟨by omega,h⟩ (.bifD (λhk=>?_) λhk => .pure ?_)
  ·have hl2:=EF n (p.getD n default) k;refine PE.bind (P:=(· = evP p n++evR n (p.getD n default) (k+1))) (.gdD ⟨by omega,hk⟩ ?_) λv hv => .gdI (by omega) (.pure ⟨⟨k+1,by omega,by rw [hv];rfl⟩,by simp only [];omega⟩);refine .bif (λho=>?_) λho => .pure ?_
   ·refine (MP _).bind λa ha=>(K7 _).bind λb hb => .gdC (by simp only [lla];omega) rfl (.pure ?_);have h4 : ¬ ((p.getD n default).getD k default).Op=4:=by simpa using ho
    subst ha hb;simp only [evR,evI,if_neg h4,Tn]
   have h4:((p.getD n default).getD k default).Op=4:=by simpa using ho
   simp only [evR,evI,if_pos h4,List.append_nil]
  have : k=(p.getD n default).length:=by omega
  subst this
  rfl
 have : n=p.length:=by simp only [] at h;omega
 subst this
 rfl
theorem kL {l:LI} {i:Nat} (h:i<l.length):l.getD i default∈l:=by
 rw [gdq,geq h];exact Tv _
section
variable {p:List (List Px)} {u:ZVa}
def Good (p:List (List Px)) (s:LI) (n:Nat):Prop:=∀ j,j<n->(0<=s.getD j default/\s.getD j default<(p.length:Int))/\(s.take j).count (s.getD j default)<(p.getD (s.getD j default).toNat default).length
theorem Gd {s:LI} {i:Nat} (h:i<s.length) (v:Int):(s.take (i+1)).count v=(s.take i).count v+if s.getD i default=v then 1 else 0:=by
 have e:s.getD i default=s[i]:=by rw [gdq,geq h];rfl
 rw [<- T9 h,List.count_append,List.count_singleton,e];simp only [beq_iff_eq]
end
section
variable {p:List (List Px)} {u:ZVa}
end
section
variable {α β W:Type} [Inhabited α]
theorem vu {a:List α} {f:α->β} {l0:List β} {step:List β×Int->Option ((List β×Int) ⊕ List β)} (hl:l0.length=a.length)
  (hs:∀ s,0<=s.2->s.2<(a.length:Int)->s.1.length=a.length->PE (step s) (· = .inl (s.1.set s.2.toNat (f (a.getD s.2.toNat default)),s.2+1)))
  (he:∀ s,¬ s.2<(a.length:Int)->step s=some (.inr s.1)):PE (loopO step (l0,0)) (· = a.map f):=by
 refine PE.loop (λs=>0<=s.2/\s.2<=(a.length:Int)/\s.1.length=a.length/\∀ i:Nat,(i:Int)<s.2->s.1[i]? = (a.map f)[i]?) (λs=>((a.length:Int)-s.2).toNat) ⟨Int.le_refl _,by simp only [];omega,hl,λi hi=>absurd hi (by simp only [];omega)⟩ λs ⟨h1,h2,h3,h4⟩ => ?_
 by_cases h:s.2<(a.length:Int)
 ·refine (hs s h1 h h3).mono ?_;rintro _ rfl;refine ⟨⟨by simp only [];omega,by simp only [];omega,by simp only [Ua];exact h3,λi hi=>?_⟩,by simp only [];omega⟩;simp only [] at hi ⊢;have hn:s.2.toNat<a.length:=by omega
  rw [List.getElem?_set]
  by_cases e:s.2.toNat=i
  ·subst e;rw [if_pos rfl,if_pos (by omega),TU,geq hn,gdq,geq hn]
   rfl
  rw [if_neg e];exact h4 i (by omega)
 rw [he s h];refine .pure ?_;refine List.ext_getElem? λi=>?_
 by_cases hi:(i:Int)<s.2
 ·exact h4 i hi
 rw [gen (by omega),gen (by rw [llm];omega)]
theorem Fq {a b:List α} [DecidableEq α] (hl:a.length=b.length) {bad:W} {step:Int->Option (Int ⊕ (Unit ⊕ W))}
  (hs:∀ i:Int,0<=i->i<(a.length:Int)->PE (step i) (· = if a.getD i.toNat default=b.getD i.toNat default then .inl (i+1) else .inr (.inr bad)))
  (he:∀ i:Int,¬ i<(a.length:Int)->step i=some (.inr (.inl ()))):PE (loopO step 0) (· = if a=b then .inl () else .inr bad):=by
 refine PE.loop (λi=>0<=i/\i<=(a.length:Int)/\∀ j:Nat,(j:Int)<i->a[j]? = b[j]?) (λi=>((a.length:Int)-i).toNat) ⟨Int.le_refl _,by omega,λi hi=>absurd hi (by omega)⟩ λi ⟨h1,h2,h3⟩ => ?_
 by_cases h:i<(a.length:Int)
 ·refine (hs i h1 h).mono ?_;have ha:i.toNat<a.length:=by omega
  have hb:i.toNat<b.length:=by omega
  have ea:a.getD i.toNat default=a[i.toNat]:=by rw [gdq,geq ha];rfl
  have eb:b.getD i.toNat default=b[i.toNat]:=by rw [gdq,geq hb];rfl
  rintro _ rfl
  by_cases e:a.getD i.toNat default=b.getD i.toNat default
  ·rw [if_pos e];refine ⟨⟨by omega,by omega,λj hj=>?_⟩,by omega⟩
   by_cases ej:j=i.toNat
   ·subst ej;rw [geq ha,geq hb,<- ea,<- eb,e]
   exact h3 j (by omega)
  rw [if_neg e];show _=_;rw [if_neg];rintro rfl;exact e rfl
 rw [he i h];refine .pure ?_;show _=_;rw [if_pos];refine List.ext_getElem? λj=>?_
 by_cases hj:(j:Int)<i
 ·exact h3 j hj
 rw [gen (by omega),gen (by omega)]
end
instance:DecidableEq Px:=λa b=>decidable_of_iff (a.Op=b.Op/\a.Loc=b.Loc/\a.Reg=b.Reg/\a.Val=b.Val) ⟨λ⟨h1,h2,h3,h4⟩=>by cases a;cases b;simp only at h1 h2 h3 h4;subst h1 h2 h3 h4;rfl,λh=>by subst h;exact ⟨rfl,rfl,rfl,rfl⟩⟩
def cvt (x:ak):Px:=⟨x.Op,x.Loc,x.Reg,x.Val⟩
theorem rP {α:Type} [Inhabited α] {l:List α} {i:Int} (h0:0<=i) (h:i<(l.length:Int)):l.getD i.toNat default∈l:=by
 have hi:i.toNat<l.length:=by omega
 rw [gdq,geq hi];exact Tv _
theorem HL {a:List ak} (h:a.length<=1048576):PE (mf a) (· = a.map cvt):=by
 unfold mf;refine .gdD (by omega) ?_;refine PE.bind (P:=(· = a.map cvt)) (vu (by simp) (λs h1 h2 h3=>?_) λs hs=>?_) λv hv => .pure hv
 ·unfold iU;refine .bifD (λ_ => .gdD ⟨h1,h2⟩ ?_) λh=>absurd h2 h;exact PE.bind (P:=(· = cvt (a.getD s.2.toNat default))) (.pure rfl) λv hv => .gdD ⟨h1,by omega⟩ (.gdI (by omega) (.pure (by rw [hv])))
 unfold iU;rw [decide_eq_false hs]
 rfl
theorem Gf {a:List (List ak)} (h:a.length<=1048576) (hr:∀ r∈a,r.length<=1048576):PE (di a) (· = a.map (·.map cvt)):=by
 unfold di;refine .gdD (by omega) ?_;refine PE.bind (P:=(· = a.map (·.map cvt))) (vu (by simp) (λs h1 h2 h3=>?_) λs hs=>?_) λv hv => .pure hv
 ·unfold gX;refine .bifD (λ_ => .gdD ⟨h1,h2⟩ ?_) λh=>absurd h2 h;exact (HL (hr _ (rP h1 h2))).bind λv hv => .gdD ⟨h1,by omega⟩ (.gdI (by omega) (.pure (by rw [hv])))
 unfold gX;rw [decide_eq_false hs]
 rfl
theorem K8 {a:LI} (h:a.length<=1048576):PE (jS a) (· = a):=by
 unfold jS;refine .gdD (by omega) ?_;refine PE.bind (P:=(· = a.map id)) (vu (by simp) (λs h1 h2 h3=>?_) λs hs=>?_) λv hv => .pure (by rw [hv,List.map_id])
 ·unfold kO;refine .bifD (λ_ => .gdD ⟨h1,h2⟩ ?_) λh=>absurd h2 h;exact .gdD ⟨h1,by omega⟩ (.gdI (by omega) (.pure rfl))
 unfold kO;rw [decide_eq_false hs]
 rfl
theorem K9 (a:LI) (h:a.length<=1048576):PE (pW a a) (· = true):=by
 unfold pW;refine .bif (λh=>by simp at h) λ_=>?_;refine PE.sum (PS:=λ_=>True) (PW:=(· = true)) ((Fq (a:=a) (b:=a) rfl (bad:=false) (λi h1 h2=>?_) λi hi=>?_).mono λv hv=>by rw [hv,if_pos rfl];trivial) λ_ _ => .pure rfl
 ·unfold oM;exact .bifD (λ_ => .gdD ⟨h1,h2⟩ (.gdD ⟨h1,h2⟩ (.bif (λh=>by simp at h) λ_ => .gdI (by omega) (.pure (by rw [if_pos rfl]))))) λh=>absurd h2 h
 unfold oM;rw [decide_eq_false hi]
 rfl
theorem Jy (x:Px):nS x x=some true:=by
 unfold nS;simp
theorem HQ (a:List Px) (h:a.length<=1048576):PE (mM a a) (· = true):=by
 unfold mM;refine .bif (λh=>by simp at h) λ_=>?_;refine PE.sum (PS:=λ_=>True) (PW:=(· = true)) ((Fq (a:=a) (b:=a) rfl (bad:=false) (λi h1 h2=>?_) λi hi=>?_).mono λv hv=>by rw [hv,if_pos rfl];trivial) λ_ _ => .pure rfl
 ·unfold mL;refine .bifD (λ_ => .gdD ⟨h1,h2⟩ (.gdD ⟨h1,h2⟩ ?_)) λh=>absurd h2 h;exact (PE.of (Jy _) (P:=(· = true)) rfl).bind λv hv => .bif (λh=>by rw [hv] at h;simp at h) λ_ => .gdI (by omega) (.pure (by rw [if_pos rfl]))
 unfold mL;rw [decide_eq_false hi]
 rfl
theorem Gg (a:List (List Px)) (h:a.length<=1048576) (hr:∀ r∈a,r.length<=1048576):PE (iF a a) (· = true):=by
 unfold iF;refine .bif (λh=>by simp at h) λ_=>?_;refine PE.sum (PS:=λ_=>True) (PW:=(· = true)) ((Fq (a:=a) (b:=a) rfl (bad:=false) (λi h1 h2=>?_) λi hi=>?_).mono λv hv=>by rw [hv,if_pos rfl];trivial) λ_ _ => .pure rfl
 ·unfold lQ;refine .bifD (λ_ => .gdD ⟨h1,h2⟩ (.gdD ⟨h1,h2⟩ ?_)) λh=>absurd h2 h;exact (HQ _ (hr _ (rP h1 h2))).bind λv hv => .bif (λh=>by rw [hv] at h;simp at h) λ_ => .gdI (by omega) (.pure (by rw [if_pos rfl]))
 unfold lQ;rw [decide_eq_false hi]
 rfl
theorem szS (a:List ak) (left:Int) (hl:0<=left/\left<=1048576) (ha:(a.length:Int)<=9223372036854775807):PE (jg a left) λv=>(v<0/\left<(a.length:Int))\/(0<=v/\v=left-(a.length:Int)):=by
 unfold jg;exact .gdI (by omega) (.bifD (λh => .pure (.inl ⟨by decide,by omega⟩)) λh => .pure (.inr ⟨by omega,rfl⟩))
section
variable {p:List (List Px)}
def base (p:List (List Px)) (t k:Nat):Nat:=(evP p t).length+(evR t (p.getD t default) k).length
theorem La (t:Nat) (row:List Px):∀ {n m:Nat},n<=m->evR t row n <+: evR t row m:=by
 intro n m h
 induction h with
 | refl=>exact Ub _
 | step _ ih=>exact ih.trans (List.prefix_append _ _)
theorem EH (p:List (List Px)):∀ {n m:Nat},n<=m->evP p n <+: evP p m:=by
 intro n m h
 induction h with
 | refl=>exact Ub _
 | step _ ih=>exact ih.trans (List.prefix_append _ _)
theorem Fs {l m:List Pz} (h:l <+: m) {i:Nat} (hi:i<l.length):m.getD i default=l.getD i default/\i<m.length:=by
 obtain ⟨r,rfl⟩:=h;refine ⟨?_,by rw [lla];omega⟩;rw [gdq,gdq,gal hi]
theorem MQ {t k:Nat} (ht:t<p.length) (hk:k<(p.getD t default).length) (ho : ¬ ((p.getD t default).getD k default).Op=4) :
  (evs p).getD (base p t k) default=⟨t,k,((p.getD t default).getD k default).Loc,rdX ((p.getD t default).getD k default),wrX ((p.getD t default).getD k default)⟩/\base p t k<(evs p).length:=by
 have h1:evP p t++(evR t (p.getD t default) k++[⟨t,k,((p.getD t default).getD k default).Loc,rdX ((p.getD t default).getD k default),wrX ((p.getD t default).getD k default)⟩]) <+: evs p:=by
  refine Ul ?_ (EH p (show t+1<=p.length by omega));refine (List.prefix_append_right_inj _).2 ?_;refine Ul ?_ (La t (p.getD t default) (show k+1<=(p.getD t default).length by omega));show _ <+: evR t (p.getD t default) k++evI t k ((p.getD t default).getD k default);unfold evI;rw [if_neg ho];exact Ub _
 obtain ⟨e1,e2⟩:=Fs h1 (i:=base p t k) (by simp only [base,lla,Tq];omega);refine ⟨e1.trans ?_,e2⟩;rw [gdq,base,gar (by omega),Nat.add_sub_cancel_left,gar (by omega),Uc]
 rfl
def Jz (p:List (List Px)) (t k:Nat):LI:=if ((p.getD t default).getD k default).Op=4 then [] else [(base p t k:Int)]
def stT (s:LI) (j:Nat):Nat:=(s.getD j default).toNat
def stK (s:LI) (j:Nat):Nat:=(s.take j).count (s.getD j default)
def Lb (p:List (List Px)) (s:LI):Nat->LI
 | 0=>[]
 | n+1=>Lb p s n++Jz p (stT s n) (stK s n)
theorem jo {p:List (List Px)} (h:Vs p):(evs p).length<=24:=by
 have h1:=EG h p.length;have h2:=h.1;unfold evs;omega
end
section
variable {p:List (List Px)}
theorem JA (l:LL) (i:Nat):l.getD i default=l.getD i []:=rfl
theorem HY {l:LL} {i j:Nat} {v:LI} (hi:i<l.length):(l.set i v).getD j []=if j=i then v else l.getD j []:=by
 rw [gdq,List.getElem?_set]
 by_cases e:i=j
 ·subst e;rw [if_pos rfl,if_pos hi,if_pos rfl]
  rfl
 rw [if_neg e,if_neg (Ne.symm e),gdq]
abbrev XS:=List Int×LL
def stX (p:List (List Px)) (st:XS) (n:Int):XS:=
  (if ((evs p).getD n.toNat default).Reads=true then st.1.set n.toNat ((st.2.getD ((evs p).getD n.toNat default).Loc.toNat []).getD (((st.2.getD ((evs p).getD n.toNat default).Loc.toNat []).length:Int)-1).toNat default) else st.1,
   st.2.set ((evs p).getD n.toNat default).Loc.toNat (if ((evs p).getD n.toNat default).az=true then st.2.getD ((evs p).getD n.toNat default).Loc.toNat []++[n] else st.2.getD ((evs p).getD n.toNat default).Loc.toNat []))
def x0 (p:List (List Px)):XS:=(List.replicate (evs p).length (-1),[[0],[1],[2]])
def O7 (p:List (List Px)) (l:LI):XS:=l.foldl (stX p) (x0 p)
def OkN (p:List (List Px)) (n:Int):Prop:=(0<=n/\n<((evs p).length:Int))/\0<=((evs p).getD n.toNat default).Loc/\((evs p).getD n.toNat default).Loc<=2
structure InX (p:List (List Px)) (m:Nat) (st:XS):Prop where
 f:st.1.length=(evs p).length
 o:st.2.length=3
 r:∀ i:Nat,i<3->1<=(st.2.getD i []).length/\(st.2.getD i []).length<=m+1
theorem InX.x0:InX p 0 (x0 p):=⟨by simp [YtpkhamajimidnaaGreatDoor.x0],rfl,λi hi=>by
 match i,hi with
 | 0,_=>exact ⟨Tf 1,Tf 1⟩
 | 1,_=>exact ⟨Tf 1,Tf 1⟩
 | 2,_=>exact ⟨Tf 1,Tf 1⟩⟩
theorem InX.step {m:Nat} {st:XS} {n:Int} (h:InX p m st) (hn:OkN p n):InX p (m+1) (stX p st n):=by
 obtain ⟨_,h2,h3⟩:=hn;unfold stX;refine ⟨?_,by simp only [Ua];exact h.o,λi hi=>?_⟩
 ·simp only []
  split
  ·rw [Ua];exact h.f
  exact h.f
 simp only [];rw [HY (by rw [h.o];omega)];have hr:=h.r ((evs p).getD n.toNat default).Loc.toNat (by omega);have hi':=h.r i hi
 split
 ·split
  ·simp only [lla,Tq];omega
  omega
 omega
theorem InX.runs:∀ {l:LI} {m:Nat} {st:XS},InX p m st->(∀ n∈l,OkN p n)->InX p (m+l.length) (l.foldl (stX p) st)
 | [],_,_,h,_=>h
 | n::l,m,st,h,k=>by
  have := InX.runs (h.step (k n (TC))) λx hx=>k x (TJ _ hx);rw [llc,show m+(l.length+1)=m+1+l.length by omega];exact this
theorem InX.run {l:LI} (h:∀ n∈l,OkN p n):InX p l.length (O7 p l):=by
 have := InX.runs InX.x0 h
 rwa [Nat.zero_add] at this
theorem Lc {s:LI} (hg:Good p s s.length) {j:Nat} (hj:j<s.length):stT s j<p.length/\((stT s j:Nat):Int)=s.getD j default/\stK s j<(p.getD (stT s j) default).length:=by
 obtain ⟨g1,g2⟩:=hg j hj;unfold stT stK;exact ⟨by omega,by omega,g2⟩
end
theorem Gh {a b:LI} (h:a.length<=4000000):PE (dX a b) (· = decide (a=b)):=by
 unfold dX;refine .bif (λhn => .pure ?_) λhn=>?_
 ·rw [decide_eq_false];rintro rfl;simp at hn
 have hl:a.length=b.length:=by
  have : (a.length:Int)=(b.length:Int):=by simpa using hn
  omega
 refine PE.sum (PS:=λ_=>a=b) (PW:=(· = decide (a=b))) ((Fq hl (bad:=false) (λi h1 h2=>?_) λi hi=>?_).mono λv hv=>?_) λ_ e => .pure (decide_eq_true e).symm
 ·unfold fL;refine .bifD (λ_ => .gdD ⟨h1,h2⟩ (.gdD ⟨h1,by omega⟩ (.bif (λhb => .pure ?_) λhb => .gdI (by omega) (.pure ?_)))) λh=>absurd h2 h
  ·rw [if_neg (by simpa using hb)]
  rw [if_pos (by simpa using hb)]
 ·unfold fL;rw [decide_eq_false hi]
  rfl
 subst hv
 by_cases e:a=b
 ·rw [if_pos e];exact e
 rw [if_neg e];exact (decide_eq_false e).symm
def same (a b:Py):Bool:=decide (a.From=b.From)&&decide (a.Order=b.Order)
theorem CL {α:Type} {Q:List α->Prop} (h0:Q []) (hs:∀ l a,Q l->Q (l++[a])) (l:List α):Q l:=by
 have key:∀ m:List α,Q m.reverse:=λm=>by
  induction m with
  | nil=>exact h0
  | cons a m ih=>rw [List.reverse_cons];exact hs _ _ ih
 have h:=key l.reverse
 rwa [List.reverse_reverse] at h
section
variable {p:List (List Px)}
def ev (p:List (List Px)) (n:Int):Pz:=(evs p).getD n.toNat default
def Wl (p:List (List Px)) (l:Int) (n:Int):Bool:=(ev p n).az&&decide ((ev p n).Loc=l)
theorem HZ (t:Nat) (row:List Px):∀ (r j:Nat),j<(evR t row r).length->∃ k,k<r /\ ¬ (row.getD k default).Op=4/\j=(evR t row k).length
 | 0,j,h=>by simp [evR] at h
 | r+1,j,h=>by
  rcases TB j (evR t row r).length with hj | hj
  ·obtain ⟨k,h1,h2,h3⟩:=HZ t row r j hj;exact ⟨k,by omega,h2,h3⟩
  simp only [evR,lla] at h;have h1:=HE t r (row.getD r default);refine ⟨r,by omega,λho=>?_,by omega⟩;have : (evI t r (row.getD r default)).length=0:=by unfold evI;rw [if_pos ho];rfl
  omega
theorem H3:∀ (m n:Nat),n<(evP p m).length->n<3\/∃ t k,t<m/\k<(p.getD t default).length /\ ¬ ((p.getD t default).getD k default).Op=4/\n=base p t k
 | 0,n,h => .inl h
 | m+1,n,h=>by
  rcases TB n (evP p m).length with hn | hn
  ·rcases H3 m n hn with h1 | ⟨t,k,h1,h2,h3,h4⟩
   ·exact .inl h1
   exact .inr ⟨t,k,by omega,h2,h3,h4⟩
  simp only [evP,lla] at h;obtain ⟨k,h1,h2,h3⟩:=HZ m (p.getD m default) (p.getD m default).length (n-(evP p m).length) (by omega);exact .inr ⟨m,k,by omega,h1,h2,by unfold base;omega⟩
structure Isn (p:List (List Px)) (a b:Nat):Prop where
 t:a<p.length
 k:b<(p.getD a default).length
 o : ¬ ((p.getD a default).getD b default).Op=4
def ins (p:List (List Px)) (t k:Nat):Px:=(p.getD t default).getD k default
theorem Isn.ev {t k:Nat} (h:Isn p t k):ev p (base p t k:Int)=⟨t,k,(ins p t k).Loc,rdX (ins p t k),wrX (ins p t k)⟩/\base p t k<(evs p).length:=by
 have := MQ h.t h.k h.o;exact ⟨by unfold Go.Proofs.YtpkhamajimidnaaGreatDoor.ev;rw [tnn];exact this.1,this.2⟩
theorem xJ {l:Nat} (hl:l<3):ev p (l:Int)=⟨-1,l,l,false,true⟩/\l<(evs p).length:=by
 obtain ⟨h1,h2⟩:=Fs (EH p (Ti p.length)) (i:=l) (by exact hl);refine ⟨?_,h2⟩;unfold ev;rw [tnn];refine h1.trans ?_
 match l,hl with
 | 0,_=>rfl
 | 1,_=>rfl
 | 2,_=>rfl
theorem wB {n:Int} (h0:0<=n) (h:n<((evs p).length:Int)):n<3\/∃ t k,Isn p t k/\n=(base p t k:Int):=by
 rcases H3 p.length n.toNat (by show _<(evs p).length;omega) with h1 | ⟨t,k,h1,h2,h3,h4⟩
 ·exact .inl (by omega)
 exact .inr ⟨t,k,⟨h1,h2,h3⟩,by omega⟩
theorem JB {t k t' k':Nat} (h:Isn p t k) (h':Isn p t' k') (e:base p t k=base p t' k'):t=t'/\k=k':=by
 have h1:=h.ev.1;rw [e,h'.ev.1] at h1;injection h1 with e1 e2;exact ⟨by omega,by omega⟩
structure OrdI (p:List (List Px)) (s:List Int) (m:Nat):Prop where
 mem:∀ n:Int,n∈Lb p s m↔∃ t k:Nat,Isn p t k/\k<(s.take m).count (t:Int)/\n=(base p t k:Int)
 pw:(Lb p s m).Pairwise λi k=>i≠k/\((ev p i).Thread=(ev p k).Thread->(ev p i).Index<(ev p k).Index)
theorem OrdI.all {s:LI} (hg:Good p s s.length):∀ {m:Nat},m<=s.length->OrdI p s m
 | 0,_=>⟨λn=>⟨λh=>by simp [Lb] at h,λ⟨t,k,_,h,_⟩=>by simp at h⟩,by simp [Lb]⟩
 | m+1,hm=>by
  have ih:=OrdI.all hg (m:=m) (by omega);obtain ⟨g1,g2,g3⟩:=Lc hg (j:=m) (by omega);have hc:∀ v:Int,(s.take (m+1)).count v=(s.take m).count v+if s.getD m default=v then 1 else 0:=λv=>Gd (by omega) v;have hk:stK s m=(s.take m).count ((stT s m:Nat):Int):=by rw [g2];rfl
  have new:∀ n:Int,n∈Jz p (stT s m) (stK s m)↔Isn p (stT s m) (stK s m)/\n=(base p (stT s m) (stK s m):Int):=λn=>by
   unfold Jz
   split
   ·rename_i ho;exact ⟨λh=>by simp at h,λh=>absurd ho h.1.o⟩
   rename_i ho;rw [Tz];exact ⟨λh=>⟨⟨g1,g3,ho⟩,h⟩,λh=>h.2⟩
  refine ⟨λn=>?_,?_⟩
  ·simp only [Lb,TI,new,ih.mem]
   constructor
   ·rintro (⟨t,k,h1,h2,h3⟩ | ⟨h1,h2⟩)
    ·exact ⟨t,k,h1,by rw [hc];omega,h3⟩
    exact ⟨_,_,h1,by rw [hc,if_pos g2.symm];omega,h2⟩
   rintro ⟨t,k,h1,h2,h3⟩;rw [hc] at h2
   by_cases e:s.getD m default=(t:Int)
   ·rw [if_pos e] at h2;have ht:stT s m=t:=by omega
    subst ht;rcases TB k ((s.take m).count ((stT s m:Nat):Int)) with hlt | hge
    ·exact .inl ⟨_,k,h1,hlt,h3⟩
    have : k=stK s m:=by omega
    subst this;exact .inr ⟨h1,h3⟩
   rw [if_neg e] at h2;exact .inl ⟨t,k,h1,by omega,h3⟩
  simp only [Lb];refine List.pairwise_append.2 ⟨ih.pw,?_,λa ha b hb=>?_⟩
  ·unfold Jz
   split <;> simp
  obtain ⟨t,k,h1,h2,rfl⟩:=(ih.mem a).1 ha;obtain ⟨h3,rfl⟩:=(new b).1 hb;have key:t=stT s m->k<stK s m:=λe=>by rw [hk,<- e];exact h2
  refine ⟨λe=>?_,λe=>?_⟩
  ·obtain ⟨e1,e2⟩:=JB h1 h3 (by omega);have := key e1;omega
  rw [h1.ev.1,h3.ev.1] at e ⊢;simp only at e ⊢;have := key (by omega);omega
theorem W3:∀ l:Nat,l<3->([0,1,2]:LI).filter (Wl p (l:Int))=[(l:Int)]:=λl hl=>by
 have w:∀ j:Nat,j<3->Wl p (l:Int) (j:Int)=decide ((j:Int)=(l:Int)):=λj hj=>by
  unfold Wl;rw [(xJ (p:=p) hj).1];simp
 have w0:Wl p (l:Int) 0=decide ((0:Int)=(l:Int)):=w 0 (by omega);have w1:Wl p (l:Int) 1=decide ((1:Int)=(l:Int)):=w 1 (by omega);have w2:Wl p (l:Int) 2=decide ((2:Int)=(l:Int)):=w 2 (by omega)
 match l,hl with
 | 0,_=>
  have a0:Wl p (0:Int) 0=true:=w0;have a1:Wl p (0:Int) 1=false:=w1;have a2:Wl p (0:Int) 2=false:=w2;simp [a0,a1,a2]
 | 1,_=>
  have a0:Wl p (1:Int) 0=false:=w0;have a1:Wl p (1:Int) 1=true:=w1;have a2:Wl p (1:Int) 2=false:=w2;simp [a0,a1,a2]
 | 2,_=>
  have a0:Wl p (2:Int) 0=false:=w0;have a1:Wl p (2:Int) 1=false:=w1;have a2:Wl p (2:Int) 2=true:=w2;simp [a0,a1,a2]
end
section
variable {p:List (List Px)} {x:XS} {F:LI}
def dn (p:List (List Px)) (a:Nat->Nat) (n:Int):Bool:=decide ((ev p n).Thread<0)||decide ((ev p n).Index<(a (ev p n).Thread.toNat:Int))
def od (x:XS) (l:Int):LI:=x.2.getD l.toNat []
def plc (l:LI) (n:Int):Int:=if n∈l then (l.idxOf n:Int) else -1
def poB (p:List (List Px)) (i k:Int):Bool:=(decide ((ev p i).Thread=(ev p k).Thread)&&decide (0<=(ev p i).Thread))&&decide ((ev p i).Index<(ev p k).Index)
def rfB (p:List (List Px)) (x:XS) (i k:Int):Bool:=(ev p k).Reads&&decide (x.1.getD k.toNat default=i)
def coB (p:List (List Px)) (x:XS) (i k:Int):Bool:=(((ev p i).az&&(ev p k).az)&&decide ((ev p i).Loc=(ev p k).Loc))&&decide (plc (od x (ev p i).Loc) i<plc (od x (ev p i).Loc) k)
def frB (p:List (List Px)) (x:XS) (i k:Int):Bool:=((((ev p i).Reads&&(ev p k).az)&&decide ((ev p i).Loc=(ev p k).Loc)) && !decide (i=k))&&decide (plc (od x (ev p i).Loc) (x.1.getD i.toNat default)<plc (od x (ev p i).Loc) k)
def bef (p:List (List Px)) (x:XS) (i k:Int):Bool:=((poB p i k||rfB p x i k)||coB p x i k)||frB p x i k
theorem pz (hp:PV p) {n:Int} (h0:0<=n) (h:n<((evs p).length:Int)):0<=(ev p n).Loc/\(ev p n).Loc<=2:=by
 rcases wB h0 h with h3 | ⟨t,k,h3,rfl⟩
 ·have := (xJ (p:=p) (l:=n.toNat) (by omega)).1;rw [TK h0] at this;rw [this];simp only [];omega
 rw [h3.ev.1];have := hp.ins t k h3.t h3.k;exact ⟨this.1,this.2.1⟩
theorem zM {l:LI} {n:Int} (h:n∈l):l.getD (l.idxOf n) default=n:=by
 have := TM h;rw [gdq,geq this];exact List.getElem_idxOf this
theorem Ld {l:LI} {n:Int} (h:n∈l):plc l n=(l.idxOf n:Int):=if_pos h
structure OdC (p:List (List Px)) (F L:List Int) (l:Int):Prop where
 nd:L.Nodup
 mem:∀ n,n∈L↔n∈F/\(ev p n).az=true/\(ev p n).Loc=l
structure Cand (p:List (List Px)) (x:XS) (F:List Int):Prop where
 mem:∀ n:Int,n∈F↔0<=n/\n<((evs p).length:Int)
 flen:x.1.length=(evs p).length
 olen:x.2.length=3
 ods:∀ l:Int,0<=l/\l<=2->OdC p F (od x l) l
 hd:∀ l:Nat,l<3->∃ t,od x (l:Int)=(l:Int)::t
 rdc:∀ i:Int,i∈F->(ev p i).Reads=true->x.1.getD i.toNat default∈od x (ev p i).Loc
 ne:∀ i:Int,i∈F->(ev p i).Reads=true->x.1.getD i.toNat default≠i
 frN:∀ i:Int,i∈F->(ev p i).Reads=false->x.1.getD i.toNat default = -1
def Ko (p:List (List Px)) (x:XS) (F:LI) (a:Nat->Nat) (n:Int):Prop:=∀ i:Int,i∈F->bef p x i n=true->dn p a i=true
def adv (a:Nat->Nat) (t:Nat):Nat->Nat:=λu=>if u=t then a t+1 else a u
def Oh (p:List (List Px)) (t k:Nat):Prop:=((p.getD t default).getD k default).Op=4
instance (t k:Nat):Decidable (Oh p t k):=by unfold Oh;infer_instance
def StA (p:List (List Px)) (a:Nat->Nat):Prop:=∀ t,t<p.length->a t<=(p.getD t default).length
def nxt (p:List (List Px)) (a:Nat->Nat) (t:Nat):Option Int:=if Oh p t (a t) then none else some (base p t (a t):Int)
def DR (p:List (List Px)) (x:XS) (F:LI) (a:Nat->Nat) (t:Nat):Prop:=t<p.length/\a t<(p.getD t default).length/\∀ n,nxt p a t=some n->Ko p x F a n
def O8 (p:List (List Px)) (a:Nat->Nat):Prop:=∀ t,t<p.length->a t=(p.getD t default).length
inductive Gr (p:List (List Px)) (x:XS) (F:List Int):(Nat->Nat)->List Int->Prop
 | nil {a:Nat->Nat} (h:O8 p a):Gr p x F a []
 | cons {a:Nat->Nat} {t:Nat} {r:LI} (h:DR p x F a t) (hl:∀ u,u<t -> ¬ DR p x F a u) (k:Gr p x F (adv a t) r):Gr p x F a ((t:Int)::r)
end
theorem CM (a b:Int):(a==b)=decide (a=b):=by rw [Bool.eq_iff_iff];simp
theorem uD {n:Nat} (h:n<9223372036854775808):IntKind.wrap .i64 (n:Int)=(n:Int):=by
 simp only [IntKind.wrap];show (let m:=(n:Int) % 18446744073709551616;if true&&m>=(9223372036854775808:Int) then m-18446744073709551616 else m)=n;have : (n:Int) % 18446744073709551616=n:=by omega
 simp only [this];rw [if_neg];simp;omega
theorem ru {a b:Nat} (ha:a<9223372036854775808) (hb:b<9223372036854775808):Pu .i64 (a:Int) (b:Int)=((a|||b:Nat):Int):=by
 have hlt:(a|||b)<2 ^ 63:=Nat.or_lt_two_pow ha hb;show IntKind.wrap .i64 (((Ty 64 (a:Int)|||Ty 64 (b:Int)).toNat:Nat):Int)=_;have h1:(Ty 64 (a:Int)).toNat=a:=by rw [Ud,Ue];omega
 have h2:(Ty 64 (b:Int)).toNat=b:=by rw [Ud,Ue];omega
 rw [BitVec.toNat_or,h1,h2];exact uD hlt
theorem zN {k:Nat} (h:k<62):CB .i64 1 (k:Int)=((2 ^ k:Nat):Int):=by
 show IntKind.wrap .i64 (1*2 ^ (min (k:Int).toNat 64))=_;have hm:min (k:Int).toNat 64=k:=by omega
 rw [hm,Int.one_mul,show (2:Int) ^ k=((2 ^ k:Nat):Int) by simp];refine uD ?_;have := Nat.pow_lt_pow_right (a:=2) (by omega) (show k<63 by omega);omega
theorem Kq {m k:Nat} (hm:m<9223372036854775808) (hk:k<62):eF .i64 (jw .i64 (m:Int) (k:Int)) 1=if m.testBit k then 1 else 0:=by
 have h1:jw .i64 (m:Int) (k:Int)=((m / 2 ^ k:Nat):Int):=by
  show (m:Int).fdiv (2 ^ (min (k:Int).toNat 64))=_;have hm:min (k:Int).toNat 64=k:=by omega
  rw [hm,show (2:Int) ^ k=((2 ^ k:Nat):Int) by simp,Int.fdiv_eq_ediv_of_nonneg _ (Int.natCast_nonneg _)]
  rfl
 have hlt:m / 2 ^ k<9223372036854775808:=Nat.lt_of_le_of_lt (Nat.div_le_self _ _) hm;rw [h1];show IntKind.wrap .i64 (((Ty 64 ((m / 2 ^ k:Nat):Int)&&&Ty 64 (1:Int)).toNat:Nat):Int)=_;rw [Nat.testBit_eq_decide_div_mod_eq];generalize m / 2 ^ k=d at hlt;have h2:(Ty 64 ((d:Nat):Int)).toNat=d:=by rw [Ud,Ue];omega
 rw [BitVec.toNat_and,h2,show (Ty 64 (1:Int)).toNat=1 from rfl,Nat.and_one_is_mod]
 by_cases h:d % 2=1
 ·rw [h,if_pos (by simp)];exact uD (by omega)
 rw [show d % 2=0 by omega,if_neg (by simp)];exact uD (by omega)
def PF (f:Nat->Bool):Nat->Nat
 | 0=>0
 | n+1=>if f n then PF f n|||2 ^ n else PF f n
theorem kD (f:Nat->Bool):∀ (n j:Nat),(PF f n).testBit j=(decide (j<n)&&f j)
 | 0,j=>by simp [PF]
 | n+1,j=>by
  have ih:=kD f n j;unfold PF
  by_cases h:f n=true
  ·rw [if_pos h,Nat.testBit_or,ih,Nat.testBit_two_pow]
   by_cases e:n=j
   ·subst e;simp [h]
   rw [decide_eq_false e,Bool.or_false]
   congr 1
   exact decide_eq_decide.2 (by omega)
  rw [if_neg h,ih]
  by_cases e:n=j
  ·subst e;simp [Bool.eq_false_iff.2 h]
  congr 1
  exact decide_eq_decide.2 (by omega)
theorem Ft (f:Nat->Bool):∀ n:Nat,PF f n<2 ^ n
 | 0=>by simp [PF]
 | n+1=>by
  have ih:=Ft f n;have h2:(2:Nat) ^ (n+1)=2*2 ^ n:=by rw [Nat.pow_succ,Nat.mul_comm]
  unfold PF
  split
  ·exact Nat.or_lt_two_pow (by omega) (by omega)
  omega
theorem BX (f g:Nat->Bool) (n:Nat):PF f n|||PF g n=PF (λj=>f j||g j) n:=by
 apply Nat.eq_of_testBit_eq;intro j;rw [Nat.testBit_or,kD,kD,kD]
 cases decide (j<n) <;> rfl
theorem bC {f:Nat->Bool} {n:Nat} (h:n<=62):PF f n<9223372036854775808:=by
 have h1:=Ft f n;have h2:(2:Nat) ^ n<=2 ^ 62:=Nat.pow_le_pow_right (by omega) h;omega
theorem wC {l:LI} (hl:l.length<=4000000) (n:Int):PE (fK l n) (· = plc l n):=by
 unfold fK;refine PE.sum (PS:=λ_=>n∉l) (PW:=(· = plc l n)) ?_ λ_ hn => .pure (by unfold plc;rw [if_neg hn]);refine PE.loop (λz=>∃ i:Nat,i<=l.length/\z=(i:Int)/\∀ j,j<i->l.getD j default≠n) (λz=>((l.length:Int)-z).toNat) ⟨0,by omega,rfl,λj hj=>by omega⟩ λz ⟨i,h1,h2,h3⟩ => ?_;subst h2;unfold rI;refine .bifD (λhk => .gdD ⟨by omega,hk⟩ (.bif (λhe => .pure ?_) λhe => .gdI (by omega) (.pure ⟨⟨i+1,by omega,rfl,λj hj=>?_⟩,by omega⟩))) λhk => .pure ?_
 ·simp only [tnn,beq_iff_eq] at he;have hi:i<l.length:=by omega
  have hm:n∈l:=by rw [<- he];exact kL hi
  unfold plc;rw [if_pos hm]
  congr 1
  have h4:=TM hm;rcases Nat.lt_trichotomy i (l.idxOf n) with h5 | h5 | h5
  ·exfalso;have : l.idxOf n<=i:=by
    have e:l=l.take i++l.drop i:=(Uf i l).symm;rw [e,List.idxOf_append]
    split
    ·have := TM (by assumption:n∈l.take i);rw [Tg] at this;omega
    rw [Um hi,show l[i]=n by rw [<- he,gdq,geq hi];rfl,List.idxOf_cons_self,Tg];omega
   omega
  ·exact h5
  exact absurd (zM hm) (h3 _ h5)
 ·simp only [tnn,beq_eq_false_iff_ne] at he;rcases TB j i with h | h
  ·exact h3 j h
  rw [show j=i by omega];exact he
 intro hm;have h4:=TM hm;exact h3 (l.idxOf n) (by omega) (zM hm)
section
variable {p:List (List Px)} {x:XS} {F:LI}
structure XOk (p:List (List Px)) (x:XS):Prop where
 f:x.1.length=(evs p).length
 o:x.2.length=3
 r:∀ i:Nat,(x.2.getD i default).length<=4000000
theorem BZ (hx:XOk p x) {l:Int} (hl:0<=l/\l<=2) (i k:Int):PE (dN ⟨x.1,x.2⟩ l i k) (· = decide (plc (od x l) i<plc (od x l) k)):=by
 unfold dN;refine .gdD ⟨hl.1,by simp only [];rw [hx.o];omega⟩ ((wC (hx.r _) i).bind λv hv=>(wC (hx.r _) k).bind λw hw => .pure ?_);subst hv hw
 rfl
theorem JC (hp:PV p) (hx:XOk p x) {i k:Nat} (hi:i<(evs p).length) (hk:k<(evs p).length) (name:ByteArray) (f:Int->Int->Bool)
  (h:(name=⟨#[112,111]⟩/\f=poB p)\/(name=⟨#[114,102]⟩/\f=rfB p x)\/(name=⟨#[99,111]⟩/\f=coB p x)\/(name=⟨#[102,114]⟩/\f=frB p x)):PE (dB p ⟨x.1,x.2⟩ (evs p) name (i:Int) (k:Int)) (· = f i k):=by
 have ei:(evs p).getD i default=ev p (i:Int):=by unfold ev;rw [tnn]
 have ek:(evs p).getD k default=ev p (k:Int):=by unfold ev;rw [tnn]
 have hl:=pz hp (n:=(i:Int)) (by omega) (by omega);unfold dB;simp only [tnn,ei,ek];refine .gdD ⟨by omega,by omega⟩ (.gdD ⟨by omega,by omega⟩ (PE.bind (P:=(· = (decide ((ev p i).Thread=(ev p k).Thread)&&decide (0<=(ev p i).Thread)))) (.bif (λh => .pure ?_) λh => .pure ?_) λsame hs=>?_))
 ·rw [eq_of_beq h];simp
 ·rw [decide_eq_false (λe=>by rw [e] at h;simp at h)];rfl
 subst hs;rcases h with ⟨rfl,rfl⟩ | ⟨rfl,rfl⟩ | ⟨rfl,rfl⟩ | ⟨rfl,rfl⟩
 ·refine PE.sumR ?_;refine .bif (λ_=>PE.bind (P:=(· = poB p i k)) (.bif (λh => .pure ?_) λh => .pure ?_) λv hv => .pure (by rw [hv])) λh=>absurd h (by decide)
  ·unfold poB;rw [h];rfl
  unfold poB;rw [h];rfl
 ·refine PE.sumR (.bif (λh=>absurd h (by decide)) λ_ => .bif (λh=>absurd h (by decide)) λ_ => .bif (λh=>absurd h (by decide)) λ_ => .bif (λ_=>?_) λh=>absurd h (by decide));refine PE.bind (P:=(· = rfB p x i k)) (.bif (λh => .gdD ⟨by omega,by rw [hx.f];omega⟩ (.pure ?_)) λh => .pure ?_) λv hv => .pure (by rw [hv])
  ·unfold rfB;rw [h,TN];exact CM _ _
  unfold rfB;rw [h];rfl
 ·refine PE.sumR (.bif (λh=>absurd h (by decide)) λ_ => .bif (λh=>absurd h (by decide)) λ_ => .bif (λh=>absurd h (by decide)) λ_ => .bif (λh=>absurd h (by decide)) λ_ => .bif (λ_=>?_) λh=>absurd h (by decide));refine PE.bind (P:=(· = ((ev p i).az&&(ev p k).az))) (.bif (λh => .pure (by rw [h];rfl)) λh => .pure (by rw [h];rfl)) λv1 h1=>?_;refine PE.bind (P:=(· = (((ev p i).az&&(ev p k).az)&&decide ((ev p i).Loc=(ev p k).Loc)))) (.bif (λh => .pure (by rw [<- h1,h,TN];exact CM _ _)) λh => .pure (by rw [<- h1,h];rfl)) λv2 h2=>?_;refine PE.bind (P:=(· = coB p x i k)) (.bif (λh=>(BZ hx hl _ _).bind λv hv => .pure (by unfold coB;rw [<- h2,h,hv,TN])) λh => .pure (by unfold coB;rw [<- h2,h,Bool.false_and])) λv hv => .pure (by rw [hv])
 refine PE.sumR (.bif (λh=>absurd h (by decide)) λ_ => .bif (λh=>absurd h (by decide)) λ_ => .bif (λh=>absurd h (by decide)) λ_ => .bif (λh=>absurd h (by decide)) λ_ => .bif (λh=>absurd h (by decide)) λ_ => .bif (λ_=>?_) λh=>absurd h (by decide));refine PE.bind (P:=(· = frB p x i k)) (.bif (λh1 => .bif (λh2 => .bif (λh3 => .bif (λh4 => .gdD ⟨by omega,by rw [hx.f];omega⟩ ((BZ hx hl _ _).bind λv hv => .pure ?_)) λh4 => .pure ?_) λh3 => .pure ?_) λh2 => .pure ?_) λh1 => .pure ?_) λv hv => .pure (by rw [hv])
 ·have h4 : ¬ (i:Int)=(k:Int):=by simpa using h4
  unfold frB;rw [h1,h2,decide_eq_true (eq_of_beq h3),decide_eq_false h4,hv];simp
 ·have h4:(i:Int)=(k:Int):=by simpa using h4
  unfold frB;rw [decide_eq_true h4];simp
 ·unfold frB;rw [decide_eq_false (λe=>by rw [e] at h3;simp at h3)];simp
 ·unfold frB;rw [h2];simp
 unfold frB;rw [h1];simp
def CN (p:List (List Px)) (f:Int->Int->Bool) (n:Nat):LI:=(Tc n).map λ(i:Nat)=>((PF (λk=>f (i:Int) k) (evs p).length:Nat):Int)
theorem Gi (f:Int->Int->Bool) (n:Nat):CN p f (n+1)=CN p f n++[((PF (λk=>f n k) (evs p).length:Nat):Int)]:=by
 unfold CN;rw [TP,TQ]
 rfl
theorem H4 (f:Int->Int->Bool) (n:Nat):(CN p f n).length=n:=by simp [CN]
theorem vw (hp:PV p) (l:Int):PE (bW (evs p) l) (· = ((Tc (evs p).length).map λ(i:Nat)=>(i:Int)).filter (Wl p l)):=by
 have hel:=jo hp.vs;unfold bW;refine PE.bind (P:=(· = ((Tc (evs p).length).map λ(i:Nat)=>(i:Int)).filter (Wl p l))) ?_ λv hv => .pure hv;refine PE.loop (λz=>∃ n:Nat,n<=(evs p).length/\z=(((Tc n).map λ(i:Nat)=>(i:Int)).filter (Wl p l),(n:Int))) (λz=>(((evs p).length:Int)-z.2).toNat) ⟨0,by omega,rfl⟩ λz ⟨n,h1,h2⟩ => ?_;subst h2;unfold lD;have en:(evs p).getD n default=ev p (n:Int):=by unfold ev;rw [tnn]
 simp only [tnn,en];refine .bifD (λhk=>?_) λhk => .pure ?_
 ·have hsl:(((Tc n).map λ(i:Nat)=>(i:Int)).filter (Wl p l)).length<=n:=Td (Ug _ _) (by simp);have hst:((Tc (n+1)).map λ(i:Nat)=>(i:Int)).filter (Wl p l)=((Tc n).map λ(i:Nat)=>(i:Int)).filter (Wl p l)++if Wl p l (n:Int) then [(n:Int)] else []:=by
   rw [TP,TQ,Tw]
   congr 1
   by_cases h:Wl p l (n:Int)=true
   ·rw [if_pos h];simp [h]
   rw [if_neg h];simp [h]
  refine PE.bind (P:=(· = ((Tc (n+1)).map λ(i:Nat)=>(i:Int)).filter (Wl p l))) (.gdD ⟨by omega,hk⟩ (PE.bind (P:=(· = Wl p l (n:Int))) (.bif (λh => .pure ?_) λh => .pure ?_) λb hb => .bif (λh => .gd (aI (by omega) rfl) (.pure ?_)) λh => .pure ?_)) λv hv => .gdI (by omega) (.pure ⟨⟨n+1,by omega,by rw [hv];rfl⟩,by simp only [];omega⟩)
  ·unfold Wl;rw [h,TN];exact CM _ _
  ·unfold Wl;rw [h];rfl
  ·rw [hst,<- hb,h];rfl
  rw [hst,<- hb,h];simp
 have : n=(evs p).length:=by omega
 rw [this]
theorem OX (hp:PV p) (R:Cand p x F):XOk p x:=by
 refine ⟨R.flen,R.olen,λi=>?_⟩;rcases TB i 3 with hi | hi
 ·have O:=R.ods (i:Int) (by omega);have h2:=jo hp.vs;have := Uk (l₂:=(Tc (evs p).length).map λ(i:Nat)=>(i:Int)) O.nd λn hn=>by
   obtain ⟨a,b⟩:=(R.mem n).1 ((O.mem n).1 hn).1;exact Tt.2 ⟨n.toNat,Tu.2 (by omega),by omega⟩
  rw [llm,Tj] at this;have e:x.2.getD i default=od x (i:Int):=by unfold od;rw [tnn,JA]
  rw [e];omega
 rw [gdq,gen (by rw [R.olen];exact hi)];exact Ti _
end
section
variable {p:List (List Px)} {x:XS} {F:LI}
def PG (p:List (List Px)) (l:Int):LI:=((Tc (evs p).length).map λ(i:Nat)=>(i:Int)).filter (Wl p l)
theorem CO (n:Int):n∈(Tc (evs p).length).map (λ(i:Nat)=>(i:Int))↔0<=n/\n<((evs p).length:Int):=by
 rw [Tt]
 constructor
 ·rintro ⟨a,h1,rfl⟩;have := Tu.1 h1;omega
 rintro ⟨h1,h2⟩;exact ⟨n.toNat,Tu.2 (by omega),by omega⟩
theorem MR:((Tc (evs p).length).map (λ(i:Nat)=>(i:Int))).Nodup:=List.pairwise_map.2 (List.nodup_range.imp λh e=>h (by omega))
theorem Fu {l:Nat} (hl:l<3):∃ t,PG p (l:Int)=(l:Int)::t:=by
 have h3:3<=(evs p).length:=(EH p (Ti p.length)).length_le;refine ⟨((Uh 3 ((evs p).length-3)).map λ(i:Nat)=>(i:Int)).filter (Wl p (l:Int)),?_⟩;have e:Tc (evs p).length=[0,1,2]++Uh 3 ((evs p).length-3):=by
  rw [List.range_eq_range',show [0,1,2]=Uh 0 3 from rfl];have := List.range'_append (s:=0) (m:=3) (n:=(evs p).length-3) (step:=1);rw [show 3+((evs p).length-3)=(evs p).length by omega] at this;exact this.symm
 unfold PG;rw [e,TQ,Tw];have := W3 (p:=p) l hl;rw [show (([0,1,2]:List Nat).map λ(i:Nat)=>(i:Int))=([0,1,2]:LI) from rfl,this]
 rfl
theorem StA.adv {a:Nat->Nat} {t:Nat} (h:StA p a) (hk:a t<(p.getD t default).length):StA p (Go.Proofs.YtpkhamajimidnaaGreatDoor.adv a t):=λu hu=>by
 unfold Go.Proofs.YtpkhamajimidnaaGreatDoor.adv
 by_cases e:u=t
 ·subst e;rw [if_pos rfl];omega
 rw [if_neg e];exact h u hu
end
section
variable {p:List (List Px)} {x:XS} {F:LI}
theorem DT {α:Type} (P:α->Bool) (d:α) (L:List α):((Tc L.length).filter λi=>P (L.getD i d)).length=(L.filter P).length:=by
 induction L using CL with
 | h0=>rfl
 | hs L b ih=>
  rw [lla,Tq,TP,Tw,lla,Tw,lla];have e1:(Tc L.length).filter (λi=>P ((L++[b]).getD i d))=(Tc L.length).filter λi=>P (L.getD i d):=List.filter_congr λi hi=>by
   rw [gdq,gdq,gal (Tu.1 hi)]
  have e2:(L++[b]).getD L.length d=b:=by
   rw [gdq,gar (Tf _)];simp
  rw [e1,ih]
  congr 1
  by_cases h:P b=true
  ·rw [TD h,TD (by rw [e2];exact h)];rfl
  rw [TR h,TR (by rw [e2];exact h)];rfl
end
def LeO {α:Type} (x y:Option α):Prop:=∀ r,x=some r->y=some r
section
variable {α β S E:Type}
theorem LeO.refl (x:Option α):LeO x x:=λ_ h=>h
theorem LeO.bind {x y:Option α} {f g:α->Option β} (h:LeO x y) (k:∀ v,LeO (f v) (g v)):LeO (x.bind f) (y.bind g):=λr hr=>by
 obtain ⟨v,e,hv⟩:=K4 hr;rw [h v e];exact k v r hv
theorem LeO.sumK {x y:Option (S ⊕ E)} {f g:S->Option E} (h:LeO x y) (k:∀ v,LeO (f v) (g v)):LeO (Go.Proofs.YtpkhamajimidnaaGreatDoor.sumK x f) (Go.Proofs.YtpkhamajimidnaaGreatDoor.sumK y g):=λr hr=>by
 cases hx:x with
 | none=>rw [hx] at hr;cases hr
 | some v=>
  rw [hx] at hr;rw [h v hx]
  cases v with
  | inl s=>exact k s r hr
  | inr w=>exact hr
theorem LeO.loopO {f g:S->Option (S ⊕ E)} (h:∀ s,LeO (f s) (g s)) (s:S):LeO (Go.Proofs.YtpkhamajimidnaaGreatDoor.loopO f s) (Go.Proofs.YtpkhamajimidnaaGreatDoor.loopO g s):=λr hr=>by
 obtain ⟨n,hn⟩:=rG.1 hr;refine rG.2 ⟨n,?_⟩;clear hr
 induction n generalizing s with
 | zero=>cases hn
 | succ n ih=>
  simp only [xy] at hn ⊢
  cases hf:f s with
  | none=>rw [hf] at hn;cases hn
  | some z=>
   rw [hf] at hn;rw [h s z hf]
   cases z with
   | inl s'=>exact ih s' hn
   | inr e=>exact hn
end
section
variable {p:List (List Px)} {x:XS} {F:LI}
end
section
variable {p:List (List Px)} {x:XS} {F:LI}
end
section
variable {p:List (List Px)} {x:XS} {F:LI}
theorem Gr.congr {F':LI} (hF:∀ n:Int,n∈F↔n∈F') {a:Nat->Nat} {r:LI} (h:Gr p x F a r):Gr p x F' a r:=by
 have key:∀ {a:Nat->Nat} {t:Nat},DR p x F a t↔DR p x F' a t:=λ{a t}=>by
  unfold DR Ko;refine ⟨λh=>⟨h.1,h.2.1,λn hn i hi hb=>h.2.2 n hn i ((hF i).2 hi) hb⟩,λh=>⟨h.1,h.2.1,λn hn i hi hb=>h.2.2 n hn i ((hF i).1 hi) hb⟩⟩
 induction h with
 | nil h=>exact .nil h
 | cons h hl _ ih=>exact .cons (key.1 h) (λu hu hr=>hl u hu (key.2 hr)) ih
end
section
variable {p:List (List Px)} {x:XS} {F:LI}
end
section
variable {α β:Type}
theorem bQ {step:List α×Int->Option ((List α×Int) ⊕ List α)} (n:Nat) (a:List α) (h:Nat->List α) (hs:∀ k,k<n->PE (step (a++(Tc k).flatMap h,(k:Int))) (· = .inl (a++(Tc (k+1)).flatMap h,((k+1:Nat):Int))))
  (he:PE (step (a++(Tc n).flatMap h,(n:Int))) (· = .inr (a++(Tc n).flatMap h))):PE (loopO step (a,(0:Int))) (· = a++(Tc n).flatMap h):=by
 refine PE.loop (λs=>∃ k:Nat,k<=n/\s=(a++(Tc k).flatMap h,(k:Int))) (λs=>((n:Int)-s.2).toNat) ⟨0,Ti _,by simp⟩ λs ⟨k,hk,e⟩ => ?_;subst e
 by_cases hlt:k<n
 ·refine (hs k hlt).mono λv hv=>?_;subst hv;exact ⟨⟨k+1,hlt,rfl⟩,by simp only [];omega⟩
 obtain rfl:k=n:=by omega
 exact he.mono λv hv=>by subst hv;rfl
theorem aX (h:Nat->List α) (k:Nat):(Tc (k+1)).flatMap h=(Tc k).flatMap h++h k:=by
 rw [TP,Un];simp
theorem rQ (h:Nat->List α) {k n:Nat} (hk:k<=n):((Tc k).flatMap h).length<=((Tc n).flatMap h).length:=by
 induction hk with
 | refl=>exact Tf _
 | step _ ih=>rw [aX,lla];omega
theorem uE {l:List α} {f g:α->List β} (h:∀ a∈l,f a=g a):l.flatMap f=l.flatMap g:=by
 induction l with
 | nil=>rfl
 | cons a l ih=>
  rw [Tx,Tx,h a TC,ih λb hb=>h b (TJ _ hb)]
theorem bK [Inhabited α] (l:List α) (f:α->List β):(Tc l.length).flatMap (λk=>f (l.getD k default))=l.flatMap f:=by
 induction l using CL with
 | h0=>rfl
 | hs l a ih=>
  have e:(l++[a]).getD l.length default=a:=by rw [gdq,gar (Tf _)];simp
  rw [lla,Tq,aX,e,Un,<- ih]
  congr 1
  ·refine uE λk hk=>?_;rw [gdq,gal (Tu.1 hk),<- gdq]
  simp
theorem mV (l:List α) (f:α->β):l.flatMap (λa=>[f a])=l.map f:=by
 induction l with
 | nil=>rfl
 | cons a l ih=>rw [Tx,ih];rfl
theorem cZ {l:List α} {f:α->List β} {m:Nat} (h:∀ a∈l,(f a).length=m):(l.flatMap f).length=l.length*m:=by
 induction l with
 | nil=>simp
 | cons a l ih=>
  rw [Tx,lla,h a TC,ih λb hb=>h b (TJ _ hb),llc,Nat.add_mul];omega
def qo:List (List α)->List (List α)
 | []=>[[]]
 | c::cs=>c.flatMap λy=>(qo cs).map (y :: ·)
theorem wD (cs:List (List α)) (c:List α):qo (cs++[c])=(qo cs).flatMap λx=>c.map λy=>x++[y]:=by
 induction cs with
 | nil=>
  show c.flatMap (λy=>[[y]])=[[]].flatMap λx=>c.map λy=>x++[y];rw [mV];simp
 | cons d ds ih=>
  show d.flatMap (λz=>(qo (ds++[c])).map (z :: ·))=(d.flatMap λz=>(qo ds).map (z :: ·)).flatMap λx=>c.map λy=>x++[y];rw [ih,List.flatMap_assoc];refine uE λz _=>?_;rw [List.map_flatMap,List.flatMap_map];refine uE λx _=>?_;rw [List.map_map]
  rfl
theorem nV:∀ {cs:List (List α)} {x:List α},x∈qo cs↔x.length=cs.length/\∀ (i:Nat) (h:i<cs.length),∃ y∈cs[i],x[i]? = some y
 | [],x=>by
  show x∈[[]]↔_;rw [Tz]
  constructor
  ·rintro rfl;exact ⟨rfl,λi h=>by simp at h⟩
  rintro ⟨h,_⟩;exact Ui h
 | c::cs,x=>by
  show x∈c.flatMap (λy=>(qo cs).map (y :: ·))↔_;simp only [List.mem_flatMap,Tt]
  constructor
  ·rintro ⟨y,hy,z,hz,rfl⟩;obtain ⟨h1,h2⟩:=nV.1 hz;refine ⟨by simp [h1],λi hi=>?_⟩
   match i with
   | 0=>exact ⟨y,hy,rfl⟩
   | i+1=>exact h2 i (by simpa using hi)
  rintro ⟨h1,h2⟩
  match x,h1 with
  | y::z,h1=>
   obtain ⟨y',hy',e⟩:=h2 0 (by simp);obtain rfl:y=y':=by simpa using e
   exact ⟨y,hy',z,nV.2 ⟨by simpa using h1,λi hi=>h2 (i+1) (by simpa using hi)⟩,rfl⟩
def n9 (l:List Nat):Nat:=l.foldr (· * ·) 1
theorem sO:∀ cs:List (List α),(qo cs).length=n9 (cs.map List.length)
 | []=>rfl
 | c::cs=>by
  show (c.flatMap λy=>(qo cs).map (y :: ·)).length=c.length*n9 (cs.map List.length);rw [<- sO cs];exact cZ λy _=>llm _
theorem yJ (l k:List Nat):n9 (l++k)=n9 l*n9 k:=by
 induction l with
 | nil=>show n9 k=1*_;rw [Nat.one_mul]
 | cons a l ih=>
  show a*n9 (l++k)=a*n9 l*n9 k;rw [ih,Nat.mul_assoc]
theorem B0 {l k:List Nat} (hl:l.length=k.length) (h:∀ i:Nat,i<l.length->l.getD i 0<=k.getD i 0):n9 l<=n9 k:=by
 induction l generalizing k with
 | nil=>
  obtain rfl:=Ui hl.symm;exact Tf _
 | cons a l ih=>
  match k,hl with
  | b::k,hl=>
   refine TH ?_ (ih (by simpa using hl) λi hi=>?_)
   ·have := h 0 (by simp);simpa using this
   have := h (i+1) (by simpa using hi);simpa using this
theorem wE {l:List Nat} (h:∀ a∈l,1<=a):1<=n9 l:=by
 induction l with
 | nil=>exact Tf _
 | cons a l ih=>exact TV (h a TC) (ih λb hb=>h b (TJ _ hb))
theorem Ca {l:List Nat} (h:∀ a∈l,1<=a) (k:Nat):n9 (l.take k)<=n9 l:=by
 have e:=yJ (l.take k) (l.drop k);rw [Uf] at e;have := wE (l:=l.drop k) λa ha=>h a (List.mem_of_mem_drop ha);rw [e];exact TS _ this
theorem Cb {l:List Nat} (h:∀ a∈l,1<=a) (k:Nat):n9 (l.drop k)<=n9 l:=by
 have e:=yJ (l.take k) (l.drop k);rw [Uf] at e;have := wE (l:=l.take k) λa ha=>h a (List.mem_of_mem_take ha);rw [e];exact TT _ this
end
theorem dJ {α:Type} [Inhabited α] {l:List α} {k:Nat} (h:k<l.length):l.take (k+1)=l.take k++[l.getD k default]:=by
 rw [<- T9 h,gdq,geq h]
 rfl
theorem Lf {n m:Nat} (hn:n<=1000000000) (hm:Nat.ble m 1000=true):bF n m=true:=by
 have h1:=nlb hm;have h2:n*m<=1000000000*1000:=TH hn h1;exact decide_eq_true ⟨by omega,by omega⟩
theorem wF {s:LI} (h:s.length<=4000000):PE (aG s) (· = s):=by
 unfold aG nilK;have hc:gd (bF (([]:LI).length+s.length) 8) (some (([]:LI)++s))=some s:=tO (aI (by simpa using h) rfl);rw [hc]
 cases s with
 | nil=>exact .of (by simp) rfl
 | cons a s=>exact .pure rfl
theorem uI (chs:LL) (hn:chs.length<=100) (hb:∀ k,k<=chs.length->(qo (chs.take k)).length<=100000):PE (ja chs) (· = qo chs):=by
 unfold ja;refine PE.bind (P:=(· = qo chs)) ?_ λv hv => .pure hv;refine PE.loop (λs=>∃ k:Nat,k<=chs.length/\s=((k:Int),qo (chs.take k))) (λs=>((chs.length:Int)-s.1).toNat) ⟨0,Ti _,rfl⟩ λs ⟨k,hk,e⟩ => ?_;subst e;unfold n8;simp only [];refine .bifD (λhlt=>?_) λhge => .pure (by rw [show k=chs.length by omega,Tp]);have hlt:k<chs.length:=by omega
 have hb1:=hb (k+1) (by omega);have hb0:=hb k (by omega);rw [dJ hlt,wD] at hb1;refine PE.bind (P:=(· = qo (chs.take (k+1)))) (.gdD ⟨by omega,by omega⟩ (PE.bind (P:=(· = qo (chs.take (k+1)))) ?_ λv hv => .pure hv)) λv hv => .gdI (by omega) (.pure ⟨⟨k+1,by omega,by rw [hv];rfl⟩,by simp only [];omega⟩);rw [dJ hlt,wD];generalize hall:qo (chs.take k)=all at *;have hrow:∀ j,(all.getD j default).length<=100:=λj=>by
  by_cases hj:j<all.length
  ·have hm:all.getD j default∈all:=by rw [gdq,geq hj];exact Tv _
   rw [<- hall] at hm;have := (nV.1 hm).1;rw [<- hall,this,Tg];omega
  rw [gdq,gen (by omega)];exact Ti _
 have hch:((chs.getD k default)).length<=100000\/all=[]:=by
  cases all with
  | nil=>exact .inr rfl
  | cons a l=>
   left
   rw [Tx,lla,llm] at hb1;omega
 have hch':0<all.length->(chs.getD k default).length<=100000:=λh0=>by
  rcases hch with h | h
  ·exact h
  rw [h] at h0;cases h0
 have hFl:=hb1;rw [<- bK all] at hFl;refine (bQ all.length [] (λj=>(chs.getD k default).map λy=>all.getD j default++[y]) (λj hj=>?_) ?_).mono λv hv=>?_
 ·unfold d9;simp only [Te,tnn];refine .bifD (λ_=>?_) λh=>absurd (show (j:Int)<(all.length:Int) by omega) h;refine PE.bind (P:=(· = (Tc (j+1)).flatMap λj=>(chs.getD k default).map λy=>all.getD j default++[y])) (.gdD ⟨by omega,by omega⟩ ?_) λv hv => .gdI (by omega) (.pure (by rw [hv];rfl));have hc:=hch' (by omega);have hF1:=Td (rQ (λj=>(chs.getD k default).map λy=>all.getD j default++[y]) (show j<=all.length by omega)) hFl;refine (bQ (chs.getD k default).length _ (λi=>[all.getD j default++[(chs.getD k default).getD i default]]) (λi hi=>?_) ?_).mono λv hv=>?_
  ·unfold dZ;simp only [tnn];have hil:((Tc i).flatMap λi=>[all.getD j default++[(chs.getD k default).getD i default]]).length=i*1:=by rw [cZ (m:=1) λ_ _=>rfl,Tj]
   refine .bifD (λ_=>?_) λh=>absurd (show (i:Int)<((chs.getD k default).length:Int) by omega) h;refine .gdD ⟨by omega,by omega⟩ ((wF (by have := hrow j;omega)).bind λv35 h35=>?_);subst h35;refine .gd (aI (by have := hrow j;omega) rfl) (.gd (aI (by simp only [lla];omega) rfl) (.gdI (by omega) (.pure ?_)));simp only [aX,Tn]
   rfl
  ·unfold dZ;exact .bifD (λh=>absurd h (by simp only [tnn];omega)) λ_ => .pure rfl
  rw [hv,aX,bK (chs.getD k default) λy=>[all.getD j default++[y]],mV]
 ·unfold d9;exact .bifD (λh=>absurd h (by simp only [];omega)) λ_ => .pure rfl
 rw [hv,Te];exact bK all λx=>(chs.getD k default).map λy=>x++[y]
theorem Gj {s:LL} (h:s.length<=4000000):PE (mR s) (· = s):=by
 unfold mR nilK;have hc:gd (bF (([]:LL).length+s.length) 24) (some (([]:LL)++s))=some s:=tO (aI (by simpa using h) rfl);rw [hc]
 cases s with
 | nil=>exact .of (by simp) rfl
 | cons a s=>exact .pure rfl
theorem xK (chs:List (LL)) (hn:chs.length<=100) (hb:∀ k,k<=chs.length->(qo (chs.take k)).length<=100000):PE (jm chs) (· = qo chs):=by
 unfold jm;refine PE.bind (P:=(· = qo chs)) ?_ λv hv => .pure hv;refine PE.loop (λs=>∃ k:Nat,k<=chs.length/\s=((k:Int),qo (chs.take k))) (λs=>((chs.length:Int)-s.1).toNat) ⟨0,Ti _,rfl⟩ λs ⟨k,hk,e⟩ => ?_;subst e;unfold qR;simp only [];refine .bifD (λhlt=>?_) λhge => .pure (by rw [show k=chs.length by omega,Tp]);have hlt:k<chs.length:=by omega
 have hb1:=hb (k+1) (by omega);have hb0:=hb k (by omega);rw [dJ hlt,wD] at hb1;refine PE.bind (P:=(· = qo (chs.take (k+1)))) (.gdD ⟨by omega,by omega⟩ (PE.bind (P:=(· = qo (chs.take (k+1)))) ?_ λv hv => .pure hv)) λv hv => .gdI (by omega) (.pure ⟨⟨k+1,by omega,by rw [hv];rfl⟩,by simp only [];omega⟩);rw [dJ hlt,wD];generalize hall:qo (chs.take k)=all at *;have hrow:∀ j,(all.getD j default).length<=100:=λj=>by
  by_cases hj:j<all.length
  ·have hm:all.getD j default∈all:=by rw [gdq,geq hj];exact Tv _
   rw [<- hall] at hm;have := (nV.1 hm).1;rw [<- hall,this,Tg];omega
  rw [gdq,gen (by omega)];exact Ti _
 have hch:((chs.getD k default)).length<=100000\/all=[]:=by
  cases all with
  | nil=>exact .inr rfl
  | cons a l=>
   left
   rw [Tx,lla,llm] at hb1;omega
 have hch':0<all.length->(chs.getD k default).length<=100000:=λh0=>by
  rcases hch with h | h
  ·exact h
  rw [h] at h0;cases h0
 have hFl:=hb1;rw [<- bK all] at hFl;refine (bQ all.length [] (λj=>(chs.getD k default).map λy=>all.getD j default++[y]) (λj hj=>?_) ?_).mono λv hv=>?_
 ·unfold iq;simp only [Te,tnn];refine .bifD (λ_=>?_) λh=>absurd (show (j:Int)<(all.length:Int) by omega) h;refine PE.bind (P:=(· = (Tc (j+1)).flatMap λj=>(chs.getD k default).map λy=>all.getD j default++[y])) (.gdD ⟨by omega,by omega⟩ ?_) λv hv => .gdI (by omega) (.pure (by rw [hv];rfl));have hc:=hch' (by omega);have hF1:=Td (rQ (λj=>(chs.getD k default).map λy=>all.getD j default++[y]) (show j<=all.length by omega)) hFl;refine (bQ (chs.getD k default).length _ (λi=>[all.getD j default++[(chs.getD k default).getD i default]]) (λi hi=>?_) ?_).mono λv hv=>?_
  ·unfold il;simp only [tnn];have hil:((Tc i).flatMap λi=>[all.getD j default++[(chs.getD k default).getD i default]]).length=i*1:=by rw [cZ (m:=1) λ_ _=>rfl,Tj]
   refine .bifD (λ_=>?_) λh=>absurd (show (i:Int)<((chs.getD k default).length:Int) by omega) h;refine .gdD ⟨by omega,by omega⟩ ((Gj (by have := hrow j;omega)).bind λv35 h35=>?_);subst h35;refine .gd (aI (by have := hrow j;omega) rfl) (.gd (aI (by simp only [lla];omega) rfl) (.gdI (by omega) (.pure ?_)));simp only [aX,Tn]
   rfl
  ·unfold il;exact .bifD (λh=>absurd h (by simp only [tnn];omega)) λ_ => .pure rfl
  rw [hv,aX,bK (chs.getD k default) λy=>[all.getD j default++[y]],mV]
 ·unfold iq;exact .bifD (λh=>absurd h (by simp only [];omega)) λ_ => .pure rfl
 rw [hv,Te];exact bK all λx=>(chs.getD k default).map λy=>x++[y]
def prm:Nat->LI->LL
 | 0,_=>[[]]
 | n+1,l=>(Tc l.length).flatMap λi=>(prm n (l.take i++l.drop (i+1))).map (l.getD i default :: ·)
theorem CP:∀ (n:Nat) (l:LI),l.length=n->(prm n l).length=PD n
 | 0,_,_=>rfl
 | n+1,l,h=>by
  show ((Tc l.length).flatMap λi=>(prm n (l.take i++l.drop (i+1))).map (l.getD i default :: ·)).length=PD n*(n+1);rw [cZ (m:=PD n) λi hi=>?_,Tj,h,Nat.mul_comm];have := Tu.1 hi;rw [llm,CP n _ (by rw [lla,Tg,Tm];omega)]
theorem Fv {l:LI} {i:Nat} (h:i<l.length):(l.getD i default::(l.take i++l.drop (i+1))).Perm l:=by
 have e:l=l.take i++(l.getD i default::l.drop (i+1)):=by
  rw [gdq,geq h];simp
 exact (List.perm_middle.symm).trans (List.Perm.of_eq e.symm)
theorem vz:∀ {n:Nat} {l:LI},l.length=n->∀ {o:LI},o∈prm n l↔o.Perm l
 | 0,l,h,o=>by
  obtain rfl:=Ui h;show o∈[[]]↔_;rw [Tz,List.perm_nil]
 | n+1,l,h,o=>by
  show o∈(Tc l.length).flatMap (λi=>(prm n (l.take i++l.drop (i+1))).map (l.getD i default :: ·))↔_;simp only [List.mem_flatMap,Tt,Tu]
  constructor
  ·rintro ⟨i,hi,r,hr,rfl⟩;have := (vz (by rw [lla,Tg,Tm];omega)).1 hr;exact (this.cons _).trans (Fv hi)
  intro hp
  match o,hp.length_eq with
  | [],e=>rw [h] at e;cases e
  | a::r,e=>
   have ha:a∈l:=hp.mem_iff.1 TC;have hi:=TM ha;have hg:l.getD (l.idxOf a) default=a:=by
    rw [gdq,geq hi];exact List.getElem_idxOf hi
   refine ⟨l.idxOf a,hi,r,(vz (by rw [lla,Tg,Tm];omega)).2 ?_,by rw [hg]⟩;have h2:=Fv hi;rw [hg] at h2;exact (hp.trans h2.symm).cons_inv
theorem Fw {a b:Nat} (h:a<=b):PD a<=PD b:=by
 induction h with
 | refl=>exact Tf _
 | step _ ih=>exact Td ih (TS _ (by omega))
theorem Cc {n:Nat} {l:LI} (hl:l.length=n+1) (hn:n+1<=12) {acc:Nat} (hacc:acc<l.length) {step:LL×Int->Option ((LL×Int) ⊕ LL)} {r:LL} (hr:r=prm n (l.take acc++l.drop (acc+1)))
  (hs:∀ s,step s=bif decide (s.2<(r.length:Int)) then
   gd (decide (0<=s.2/\s.2<(r.length:Int))) <|
   gd (bF (([l.getD acc default]:LI).length+(r.getD s.2.toNat default).length) 8) <|
   gd (bF (s.1.length+1) 24) <|
   gd (Pv .i64 (s.2+(1:Int))) <|
   some (.inl ((s.1++[(([l.getD acc default]:LI)++(r.getD s.2.toNat default))]),(s.2+(1:Int)))) else some (.inr s.1)) :
  PE (loopO step ((Tc acc).flatMap (λi=>(prm n (l.take i++l.drop (i+1))).map (l.getD i default :: ·)),(0:Int))) (· = (Tc (acc+1)).flatMap (λi=>(prm n (l.take i++l.drop (i+1))).map (l.getD i default :: ·))):=by
 have hrl:r.length=PD n:=by rw [hr];exact CP n _ (by rw [lla,Tg,Tm];omega)
 have hf:PD n<=PD 11:=Fw (by omega);have h11:PD 11=39916800:=by decide
 have hrow:∀ k,(r.getD k default).length<=12:=λk=>by
  by_cases hk:k<r.length
  ·have hm:r.getD k default∈r:=by rw [gdq,geq hk];exact Tv _
   have hll:(l.take acc++l.drop (acc+1)).length=n:=by rw [lla,Tg,Tm];omega
   have := ((vz hll).1 (show r.getD k default∈prm n (l.take acc++l.drop (acc+1)) by rw [<- hr];exact hm)).length_eq;rw [this,hll];omega
  rw [gdq,gen (by omega)];exact Ti _
 have hpre:((Tc acc).flatMap (λi=>(prm n (l.take i++l.drop (i+1))).map (l.getD i default :: ·))).length<=12*39916800:=by
  have e:=cZ (l:=Tc acc) (f:=λi=>(prm n (l.take i++l.drop (i+1))).map (l.getD i default :: ·)) (m:=PD n) λi hi=>by
   have := Tu.1 hi;rw [llm,CP n _ (by rw [lla,Tg,Tm];omega)]
  rw [e,Tj];exact TH (by omega) (by omega)
 refine (bQ r.length _ (λk=>[l.getD acc default::r.getD k default]) (λk hk=>?_) ?_).mono λv hv=>?_
 ·rw [hs];have hkl:((Tc k).flatMap λk=>[l.getD acc default::r.getD k default]).length=k*1:=by rw [cZ (m:=1) λ_ _=>rfl,Tj]
  refine .bifD (λ_ => .gdD ⟨by simp only [];omega,by simp only [];omega⟩ (.gd (aI (by have := hrow k;simp only [tnn,Tq];omega) rfl) (.gd (Lf (by simp only [lla];omega) rfl) (.gdI (by simp only [];omega) (.pure ?_))))) λh=>absurd (show (k:Int)<(r.length:Int) by omega) h;simp only [tnn,aX,Tn]
  rfl
 ·rw [hs];exact .bifD (λh=>absurd h (by simp only [];omega)) λ_ => .pure rfl
 rw [hv,aX,bK r λx=>[l.getD acc default::x],mV,<- hr]
theorem Ce:∀ (n:Nat) (l:LI),l.length=n->n<=12->∀ m,n<m->PE (gK m l) (· = prm n l)
 | _,_,_,_,0,h=>by omega
 | 0,l,hl,hn,m+1,_=>by
  show PE (gJ _ l) _;unfold gJ;exact .bif (λ_ => .pure rfl) λh=>by rw [hl] at h;cases h
 | n+1,l,hl,hn,m+1,hm=>by
  show PE (gJ _ l) _;unfold gJ;refine .bif (λh=>by rw [hl] at h;have := eq_of_beq h;omega) λ_=>PE.bind (P:=(· = prm (n+1) l)) ?_ λv hv => .pure hv;refine (bQ l.length [] (λi=>(prm n (l.take i++l.drop (i+1))).map (l.getD i default :: ·)) (λk hk=>?_) ?_).mono λv hv=>?_
  ·unfold lc;simp only [Te,tnn];refine .bifD (λ_=>?_) λh=>absurd (show (k:Int)<(l.length:Int) by omega) h;refine PE.bind (P:=(· = (Tc (k+1)).flatMap λi=>(prm n (l.take i++l.drop (i+1))).map (l.getD i default :: ·))) ?_ λv hv => .gdI (by omega) (.pure (by rw [hv];rfl));refine .gdD ⟨by omega,by omega⟩ ((wF (by omega)).bind λv16 h16 => .gdI (by omega) ?_);subst v16;refine PE.bind (P:=(· = l.take k++l.drop (k+1))) ?_ λv21 h21=>?_
   ·unfold qf;refine .gdD ⟨by omega,by omega,by omega,by omega⟩ (.pure ?_);rw [tnn,show ((k:Int)+1).toNat=k+1 by omega]
   subst v21;refine (Ce n _ (by rw [lla,Tg,Tm];omega) (by omega) m (by omega)).bind λv25 h25=>?_;exact Cc hl hn hk h25 λs=>by unfold nB;rfl
  ·unfold lc;exact .bifD (λh=>absurd h (by simp only [];omega)) λ_ => .pure rfl
  rw [hv]
  rfl
theorem DU:∀ (n:Nat) (l:LI),l.length=n->n<=12->∀ m,n<m->PE (eX m l) (· = prm n l)
 | _,_,_,_,0,h=>by omega
 | 0,l,hl,hn,m+1,_=>by
  show PE (eU _ l) _;unfold eU;exact .bif (λ_ => .pure rfl) λh=>by rw [hl] at h;cases h
 | n+1,l,hl,hn,m+1,hm=>by
  show PE (eU _ l) _;unfold eU;refine .bif (λh=>by rw [hl] at h;have := eq_of_beq h;omega) λ_=>PE.bind (P:=(· = prm (n+1) l)) ?_ λv hv => .pure hv;refine (bQ l.length [] (λi=>(prm n (l.take i++l.drop (i+1))).map (l.getD i default :: ·)) (λk hk=>?_) ?_).mono λv hv=>?_
  ·unfold kr;simp only [Te,tnn];refine .bifD (λ_=>?_) λh=>absurd (show (k:Int)<(l.length:Int) by omega) h;refine PE.bind (P:=(· = (Tc (k+1)).flatMap λi=>(prm n (l.take i++l.drop (i+1))).map (l.getD i default :: ·))) ?_ λv hv => .gdI (by omega) (.pure (by rw [hv];rfl));have e1:((l.drop (0:Int).toNat).take (k-(0:Int).toNat))=l.take k:=by simp
   have e2:((l.drop ((k:Int)+1).toNat).take (l.length-((k:Int)+1).toNat))=l.drop (k+1):=by
    rw [show ((k:Int)+1).toNat=k+1 by omega];exact TW (by rw [Tm];exact Tf _)
   rw [e1,e2];have g1:(l.take k).length<=12:=by rw [Tg];omega
   have g2:(l.drop (k+1)).length<=12:=by rw [Tm];omega
   refine .gdD ⟨by omega,by omega,by omega⟩ (.gd (aI (by simp only [TY];omega) rfl) (.gdI (by omega) (.gdD ⟨by omega,by omega,by omega⟩ (.gd (aI (by omega) rfl) ?_))));refine (DU n _ (by rw [lla,Tg,Tm];omega) (by omega) m (by omega)).bind λv25 h25=>?_;refine Cc hl hn hk h25 λs=>?_;unfold mO;simp only [tnn];rw [tO (decide_eq_true (show 0<=(k:Int)/\(k:Int)<(l.length:Int) by omega))]
  ·unfold kr;exact .bifD (λh=>absurd h (by simp only [];omega)) λ_ => .pure rfl
  rw [hv]
  rfl
theorem kx {α:Type} {f:Nat->Option α} {v:α} (n:Nat) (h:∀ m,n<m->PE (f m) (· = v)):PE (CF f) (· = v):=PE.of (Ev (n+1) λm hm=>(h m hm).eq) rfl
theorem Lg (l:LI) (h:l.length<=12):PE (sN l) (· = prm l.length l):=kx l.length λm hm=>Ce l.length l rfl h m hm
theorem MS (l:LI) (h:l.length<=12):PE (rq l) (· = prm l.length l):=kx l.length λm hm=>DU l.length l rfl h m hm
section
variable {p:List (List Px)}
def chE (p:List (List Px)) (i:Nat):LI:=if (ev p (i:Int)).Reads=true then (PG p (ev p (i:Int)).Loc).filter (λn => !decide (n=(i:Int))) else [-1]
def chF (p:List (List Px)):LL:=(Tc (evs p).length).map (chE p)
def chL (p:List (List Px)) (l:Nat):LL:=(prm (PG p (l:Int)).tail.length (PG p (l:Int)).tail).map ((l:Int) :: ·)
def chO (p:List (List Px)):List (LL):=[chL p 0,chL p 1,chL p 2]
def ez (p:List (List Px)):List Py:=(qo (chF p)).flatMap λf=>(qo (chO p)).map λo=>⟨f,o⟩
abbrev PH (p:List (List Px)):List (List Ins):=p.map λr=>r.map lu
theorem DV (q:Pz->Bool) (f:Ins->Bool) (h:∀ t k x,x.Op≠4->q ⟨t,k,x.Loc,rdX x,wrX x⟩=f (lu x)) (h4:∀ x:Px,x.Op=4->f (lu x)=false) (t:Nat) (row:List Px):∀ r:Nat,r<=row.length->((evR t row r).filter q).length=((row.take r).map lu).countP f
 | 0,_=>by simp [evR]
 | r+1,hr=>by
  have ih:=DV q f h h4 t row r (by omega);have e:row.getD r default=row[r]:=by rw [gdq,geq (by omega)];rfl
  rw [evR,Tw,lla,ih,<- T9 (show r<row.length by omega),TQ,List.countP_append,e]
  congr 1
  unfold evI
  by_cases ho:row[r].Op=4
  ·rw [if_pos ho];simp [h4 _ ho]
  rw [if_neg ho];have := h t r row[r] ho
  by_cases hf:f (lu row[r])=true
  ·rw [hf] at this;rw [TD (by rw [this])];simp [hf]
  have hf':f (lu row[r])=false:=by simpa using hf
  rw [hf'] at this;rw [TR (by rw [this];decide)];simp [hf']
theorem AB (q:Pz->Bool) (f:Ins->Bool) (h:∀ (t k:Int) x,x.Op≠4->q ⟨t,k,x.Loc,rdX x,wrX x⟩=f (lu x)) (h4:∀ x:Px,x.Op=4->f (lu x)=false):((evs p).filter q).length=(ev0.filter q).length+sK f (PH p):=by
 have key:∀ n:Nat,n<=p.length->((evP p n).filter q).length=(ev0.filter q).length+sK f ((PH p).take n):=λn=>by
  induction n with
  | zero=>intro _;simp [evP,sK]
  | succ n ih=>
   intro hn;have e:p.getD n default=p[n]:=by rw [gdq,geq (by omega)];rfl
   have hn':n<(PH p).length:=by rw [llm];omega
   rw [evP,Tw,lla,ih (by omega),DV q f (λt k=>h t k) h4 n _ _ (Tf _),fJ f (PH p) n hn',Tp,Nat.add_assoc,e]
   congr 2
   simp
 have := key p.length (Tf _);rw [show (PH p).take p.length=PH p from TW (by simp)] at this;exact this
theorem EI {l:Nat} (hl:l<3):(PG p (l:Int)).length=cw (PH p) (l:Int)+1:=by
 have h1:(PG p (l:Int)).length=((evs p).filter λe=>e.az&&decide (e.Loc=(l:Int))).length:=by
  rw [<- DT (λe:Pz=>e.az&&decide (e.Loc=(l:Int))) default (evs p)];unfold PG;rw [List.filter_map,llm]
  congr 2
 rw [h1,AB _ (bJ (l:Int) wrB) (λt k x ho=>?_) (λx ho=>?_)]
 ·have : (ev0.filter λe=>e.az&&decide (e.Loc=(l:Int))).length=1:=by
   match l,hl with
   | 0,_=>rfl
   | 1,_=>rfl
   | 2,_=>rfl
  rw [this];unfold cw;omega
 ·unfold bJ lu wrB wrO wrX;simp only;rw [Bool.and_comm,show (x.Loc==(l:Int))=decide (x.Loc=(l:Int)) from CM _ _]
 unfold bJ lu wrB wrO;simp [ho]
theorem EJ {l:Nat} (hl:l<3):((evs p).filter λe=>e.Reads&&decide (e.Loc=(l:Int))).length=cr (PH p) (l:Int):=by
 rw [AB _ (bJ (l:Int) rdB) (λt k x ho=>?_) (λx ho=>?_)]
 ·have : (ev0.filter λe=>e.Reads&&decide (e.Loc=(l:Int))).length=0:=by
   match l,hl with
   | 0,_=>rfl
   | 1,_=>rfl
   | 2,_=>rfl
  rw [this];unfold cr;omega
 ·unfold bJ lu rdB rdO rdX;simp only;rw [Bool.and_comm,show (x.Loc==(l:Int))=decide (x.Loc=(l:Int)) from CM _ _]
 unfold bJ lu rdB rdO;simp [ho]
def gE (w:Nat->Nat) (e:Pz):Nat:=if e.Reads=true then w e.Loc.toNat+1 else 1
theorem Lh (w:Nat->Nat) (L:List Pz) (h:∀ e∈L,e.Reads=true->0<=e.Loc/\e.Loc<=2):n9 (L.map (gE w))=(w 0+1) ^ (L.filter λe=>e.Reads&&decide (e.Loc=((0:Nat):Int))).length*(w 1+1) ^ (L.filter λe=>e.Reads&&decide (e.Loc=((1:Nat):Int))).length*(w 2+1) ^ (L.filter λe=>e.Reads&&decide (e.Loc=((2:Nat):Int))).length:=by
 induction L with
 | nil=>rfl
 | cons e L ih=>
  have ih:=ih λa ha=>h a (TJ _ ha);show gE w e*n9 (L.map (gE w))=_;rw [ih];unfold gE
  by_cases hr:e.Reads=true
  ·obtain ⟨h0,h2⟩:=h e TC hr;have hc:e.Loc=0\/e.Loc=1\/e.Loc=2:=by omega
   rcases hc with hc | hc | hc <;> simp [hr,hc,Nat.pow_succ] <;> ac_rfl
  simp [hr]
theorem Li (hp:PV p) {e:Pz} (h:e∈evs p):0<=e.Loc/\e.Loc<=2:=by
 obtain ⟨i,hi,rfl⟩:=List.getElem_of_mem h;have := pz hp (n:=(i:Int)) (by omega) (by omega);unfold ev at this;rw [tnn,gdq,geq hi] at this;exact this
theorem Lj (hp:PV p) {i:Nat} (hi:i<(evs p).length):(chE p i).length<=gE (λl=>cw (PH p) (l:Int)) ((evs p).getD i default):=by
 have he:(evs p).getD i default=ev p (i:Int):=by unfold ev;rw [tnn]
 have hl:=pz hp (n:=(i:Int)) (by omega) (by omega);rw [he];unfold chE gE
 split
 ·have := EI (p:=p) (l:=(ev p (i:Int)).Loc.toNat) (by omega);rw [TK hl.1] at this;have h2:=Ug (λn => !decide (n=(i:Int))) (PG p (ev p (i:Int)).Loc);simp only [TK hl.1];omega
 exact Tf _
theorem tZ {l:Nat} (hl:l<3):(chL p l).length=PD (cw (PH p) (l:Int)):=by
 unfold chL;rw [llm,CP _ _ rfl,TE,EI hl,Nat.add_sub_cancel]
theorem JD (hv:bB (PH p)=true):n9 ((evs p).map (gE λl=>cw (PH p) (l:Int)))*(PD (cw (PH p) 0)*PD (cw (PH p) 1)*PD (cw (PH p) 2))<=3000:=by
 have hp:=PV.of hv;simp only [bB,bae,dte] at hv;have h3:=hv.2;rw [Lh _ _ λe he _=>Li hp he,EJ (by omega),EJ (by omega),EJ (by omega)];refine Td (Nat.le_of_eq ?_) h3;show _=1*MN (PH p) 0*MN (PH p) 1*MN (PH p) 2;unfold MN;rw [Nat.one_mul];show _=_ ^ cr (PH p) ((0:Nat):Int)*PD (cw (PH p) ((0:Nat):Int))*(_ ^ cr (PH p) ((1:Nat):Int)*PD (cw (PH p) ((1:Nat):Int)))*(_ ^ cr (PH p) ((2:Nat):Int)*PD (cw (PH p) ((2:Nat):Int)));simp only [Int.ofNat_zero,Int.natCast_one,Int.cast_ofNat_Int]
 ac_rfl
structure Few (p:List (List Px)):Prop where
 f:∀ k,(qo ((chF p).take k)).length<=3000/\(qo ((chF p).drop k)).length<=3000
 o:∀ k,(qo ((chO p).take k)).length<=3000/\(qo ((chO p).drop k)).length<=3000
 all:(qo (chF p)).length*(qo (chO p)).length<=3000
 w:∀ l:Nat,l<3->(PG p (l:Int)).length<=8/\(chL p l).length<=3000
theorem few (hv:bB (PH p)=true):Few p:=by
 have hp:=PV.of hv;have hE:=JD hv;have hgs:∀ a∈(evs p).map (gE λl=>cw (PH p) (l:Int)),1<=a:=λa ha=>by
  obtain ⟨e,_,rfl⟩:=Tt.1 ha;unfold gE
  split <;> omega
 have f0:=xD (cw (PH p) 0);have f1:=xD (cw (PH p) 1);have f2:=xD (cw (PH p) 2);have g0:=wE hgs;have hfs:∀ a∈(chO p).map List.length,1<=a:=λa ha=>by
  simp only [chO,List.map_cons,List.map_nil,List.mem_cons,List.not_mem_nil,or_false] at ha;rcases ha with rfl | rfl | rfl
  ·rw [tZ (by omega)];exact xD _
  ·rw [tZ (by omega)];exact xD _
  rw [tZ (by omega)];exact xD _
 have hO:n9 ((chO p).map List.length)=PD (cw (PH p) 0)*PD (cw (PH p) 1)*PD (cw (PH p) 2):=by
  show (chL p 0).length*((chL p 1).length*((chL p 2).length*1))=_;rw [tZ (by omega),tZ (by omega),tZ (by omega),Nat.mul_one,Nat.mul_assoc]
  rfl
 have hOpos:=wE hfs;have hA:n9 ((evs p).map (gE λl=>cw (PH p) (l:Int)))<=3000:=Td (TS _ (by rw [<- hO];exact hOpos)) hE;have hB:n9 ((chO p).map List.length)<=3000:=by rw [hO];exact Td (TT _ g0) hE
 have hmono:∀ k,n9 (((chF p).map List.length).take k)<=n9 (((evs p).map (gE λl=>cw (PH p) (l:Int))).take k)/\n9 (((chF p).map List.length).drop k)<=n9 (((evs p).map (gE λl=>cw (PH p) (l:Int))).drop k):=λk=>by
  have hlen:(chF p).length=(evs p).length:=by simp [chF]
  have hget:∀ i:Nat,i<(evs p).length->((chF p).map List.length).getD i 0<=((evs p).map (gE λl=>cw (PH p) (l:Int))).getD i 0:=λi hi=>by
   have := Lj hp hi;rw [gdq,geq hi] at this;rw [gdq,gdq,TU,TU,geq hi];unfold chF;rw [TU,List.getElem?_range hi];exact this
  constructor
  ·refine B0 (by simp [hlen]) λi hi=>?_;have hi':i<k/\i<(evs p).length:=by
    rw [Tg,llm,hlen] at hi;omega
   rw [gdq,gdq,List.getElem?_take,List.getElem?_take,if_pos hi'.1,if_pos hi'.1,<- gdq,<- gdq];exact hget i hi'.2
  refine B0 (by simp [hlen]) λi hi=>?_;have hi':k+i<(evs p).length:=by
   rw [Tm,llm,hlen] at hi;omega
  rw [gdq,gdq,List.getElem?_drop,List.getElem?_drop,<- gdq,<- gdq];exact hget _ hi'
 refine ⟨λk=>⟨?_,?_⟩,λk=>⟨?_,?_⟩,?_,λl hl=>?_⟩
 ·rw [sO,List.map_take];exact Td (hmono k).1 (Td (Ca hgs k) hA)
 ·rw [sO,List.map_drop];exact Td (hmono k).2 (Td (Cb hgs k) hA)
 ·rw [sO,List.map_take];exact Td (Ca hfs k) hB
 ·rw [sO,List.map_drop];exact Td (Cb hfs k) hB
 ·rw [sO,sO,hO];have := (hmono (evs p).length).1;rw [TW (by simp [chF]),TW (by simp)] at this;exact Td (Nat.mul_le_mul_right _ this) hE
 have hf:PD (cw (PH p) (l:Int))<=3000:=by
  rw [<- tZ hl];have h0:(chL p l).length∈(chO p).map List.length:=by
   match l,hl with
   | 0,_=>simp [chO]
   | 1,_=>simp [chO]
   | 2,_=>simp [chO]
  refine Td ?_ hB
  match l,hl with
  | 0,_=>exact TS _ (TV (hfs _ (by simp [chO])) (TV (hfs _ (by simp [chO])) Nat.one_pos))
  | 1,_=>
   refine Td ?_ (TT _ (hfs _ (by simp [chO])));exact TS _ (TV (hfs _ (by simp [chO])) Nat.one_pos)
  | 2,_=>
   refine Td ?_ (TT _ (hfs _ (by simp [chO])));refine Td ?_ (TT _ (hfs _ (by simp [chO])));exact Nat.le_of_eq (Nat.mul_one _).symm
 refine ⟨?_,by rw [tZ hl];exact hf⟩;rw [EI hl];rcases TB (cw (PH p) (l:Int)) 7 with h | h
 ·omega
 have := Fw h;have h7:PD 7=5040:=by decide
 omega
end
section
variable {p:List (List Px)}
theorem Fx (hp:PV p) (l:Int):PE (eO (evs p) l) (· = PG p l):=by
 have hel:=jo hp.vs;unfold eO;refine PE.bind (P:=(· = PG p l)) ?_ λv hv => .pure hv;refine PE.loop (λz=>∃ n:Nat,n<=(evs p).length/\z=(((Tc n).map λ(i:Nat)=>(i:Int)).filter (Wl p l),(n:Int))) (λz=>(((evs p).length:Int)-z.2).toNat) ⟨0,by omega,rfl⟩ λz ⟨n,h1,h2⟩ => ?_;subst h2;unfold lI;have en:(evs p).getD n default=ev p (n:Int):=by unfold ev;rw [tnn]
 simp only [tnn,en];refine .bifD (λhk=>?_) λhk => .pure ?_
 ·have hsl:(((Tc n).map λ(i:Nat)=>(i:Int)).filter (Wl p l)).length<=n:=Td (Ug _ _) (by simp);have hst:((Tc (n+1)).map λ(i:Nat)=>(i:Int)).filter (Wl p l)=((Tc n).map λ(i:Nat)=>(i:Int)).filter (Wl p l)++if Wl p l (n:Int) then [(n:Int)] else []:=by
   rw [TP,TQ,Tw]
   congr 1
   by_cases h:Wl p l (n:Int)=true
   ·rw [if_pos h];simp [h]
   rw [if_neg h];simp [h]
  refine PE.bind (P:=(· = ((Tc (n+1)).map λ(i:Nat)=>(i:Int)).filter (Wl p l))) (.gdD ⟨by omega,hk⟩ (PE.bind (P:=(· = Wl p l (n:Int))) (.bif (λh => .pure ?_) λh => .pure ?_) λb hb => .bif (λh => .gd (aI (by omega) rfl) (.pure ?_)) λh => .pure ?_)) λv hv => .gdI (by omega) (.pure ⟨⟨n+1,by omega,by rw [hv];rfl⟩,by simp only [];omega⟩)
  ·unfold Wl;rw [h,TN];exact CM _ _
  ·unfold Wl;rw [h];rfl
  ·rw [hst,<- hb,h];rfl
  rw [hst,<- hb,h];simp
 have : n=(evs p).length:=by omega
 rw [this]
 rfl
theorem Fy (hp:PV p) (l:Int):PE (bW (evs p) l) (· = PG p l):=vw hp l
def nq (i:Int) (n:Int):Bool := !decide (n=i)
theorem JE (v:LI) (i:Int) (hl:v.length<=1000000):PE (aS v i) (· = v.filter (nq i)):=by
 unfold aS;have heq:∀ a:Int,PE (gI a i) (· = decide (a=i)):=λa=>by unfold gI;exact .pure (CM a i)
 refine PE.bind (P:=λr:Int=>(r = -1/\∀ n∈v,n≠i)\/(0<=r/\r<(v.length:Int)/\v.getD r.toNat default=i/\∀ n∈v.take r.toNat,n≠i)) ?_ λr hr=>?_
 ·unfold bA;refine PE.sum (PS:=λ_=>∀ n∈v,n≠i) (PW:=λr:Int=>(r = -1/\∀ n∈v,n≠i)\/(0<=r/\r<(v.length:Int)/\v.getD r.toNat default=i/\∀ n∈v.take r.toNat,n≠i)) ?_ λ_ h => .pure (.inl ⟨rfl,h⟩);refine PE.loop (λz=>∃ k:Nat,k<=v.length/\z=(k:Int)/\∀ n∈v.take k,n≠i) (λz=>((v.length:Int)-z).toNat) ⟨0,by omega,rfl,by simp⟩ λz ⟨k,h1,h2,h3⟩ => ?_;subst h2;unfold bO;simp only [tnn];refine .bifD (λhk => .gdD ⟨by omega,hk⟩ ((heq _).bind λb hb=>?_)) λhk => .pure ?_
  ·subst hb;refine .bifD (λhe => .pure (.inr ⟨by omega,hk,by rw [tnn];exact he,by rw [tnn];exact h3⟩)) λhe => .gdI (by omega) (.pure ⟨⟨k+1,by omega,rfl,λn hn=>?_⟩,by omega⟩);rw [dJ (by omega),TI,Tz] at hn;rcases hn with hn | rfl
   ·exact h3 n hn
   exact he
  rwa [show k=v.length by omega,Tp] at h3
 rcases hr with ⟨rfl,h⟩ | ⟨r0,r1,r2,r3⟩
 ·refine .bif (λ_ => .pure ?_) λh=>by cases h
  rw [Uo.2 λn hn=>by unfold nq;rw [decide_eq_false (h n hn)];rfl]
 refine .bif (λh=>by have := eq_of_beq h;omega) λ_=>?_;refine PE.bind (P:=λz=>z.1.length=v.length/\(0<=z.2/\z.2<=(v.length:Int))/\z.1.take z.2.toNat=v.filter (nq i)) (.gdI (by omega) ?_) λz ⟨z1,⟨z2,z3⟩,z4⟩ => ?_
 ·refine PE.loop (λz=>∃ j k:Nat,j<=v.length/\k<=j/\z.2.1=(j:Int)/\z.2.2=(k:Int)/\z.1.length=v.length/\(∀ q:Nat,j<=q->z.1[q]? = v[q]?)/\z.1.take k=(v.take j).filter (nq i)) (λz=>((v.length:Int)-z.2.1).toNat) ⟨r.toNat+1,r.toNat,by omega,by omega,by simp only [];omega,by simp only [];omega,rfl,λ_ _=>rfl,?_⟩ λz ⟨j,k,h1,h2,h3,h4,h5,h6,h7⟩ => ?_
  ·simp only [];rw [dJ (by omega),Tw,Uo.2 λn hn=>by unfold nq;rw [decide_eq_false (r3 n hn)];rfl,r2];simp [nq]
  obtain ⟨s,z1,z2⟩:=z;simp only at h3 h4 h5 h6 h7;subst h3 h4;unfold aW;simp only [tnn,h5];refine .bifD (λhk=>?_) λhk => .pure ⟨h5,⟨by simp only [];omega,by simp only [];omega⟩,?_⟩
  ·have hj:j<v.length:=by omega
   have e1:s.getD j default=v.getD j default:=by rw [gdq,gdq,h6 j (Tf _)]
   rw [e1];refine PE.bind (P:=λz:List Int×Int=>∃ k:Nat,k<=j+1/\z.2=(k:Int)/\z.1.length=v.length/\(∀ q:Nat,j+1<=q->z.1[q]? = v[q]?)/\z.1.take k=(v.take (j+1)).filter (nq i)) (.gdD ⟨by omega,hk⟩ ((heq _).bind λb hb=>?_)) λz ⟨k',g1,g2,g3,g4,g5⟩ => .gdI (by omega) (.pure ⟨⟨j+1,k',by omega,g1,rfl,g2,g3,g4,g5⟩,by simp only [];omega⟩);subst hb;rw [dJ hj,Tw];refine .bif (λhn=>?_) λhn=>?_
   ·refine .gdD ⟨by omega,by omega⟩ (.gdI (by omega) (.pure ⟨k+1,by omega,rfl,by simp [h5],λq hq=>?_,?_⟩))
    ·simp only [];rw [List.getElem?_set_ne (by omega)];exact h6 q (by omega)
    simp only [];have hks:k<s.length:=by omega
    rw [List.take_add_one,List.getElem?_set_self hks,List.take_set_of_le (Tf _),h7]
    congr 1
    rw [TD (show nq i (v.getD j default)=true from hn)]
    rfl
   refine .pure ⟨k,by omega,rfl,h5,λq hq=>h6 q (by omega),?_⟩;simp only [];rw [h7,TR (show ¬ nq i (v.getD j default)=true from λh=>by rw [show nq i (v.getD j default)=false from hn] at h;cases h)];simp
  simp only [];rw [tnn,h7,show j=v.length by omega,Tp]
 refine .gdD ⟨by omega,by omega⟩ (.gdD ⟨z2,by omega,by omega⟩ (.gdD ⟨by omega,z2,by omega⟩ (.pure ?_)));rw [<- z4];simp only [cpy,Nat.zero_add,show (0:Int).toNat=0 from rfl,List.drop_zero,Nat.sub_zero]
 split
 ·rw [Tn,List.take_append_of_le_length (by rw [Tg];omega),List.take_take,Nat.min_self]
 rfl
theorem Gm (x:Py) (h1:x.From.length<=100000) (h2:x.Order.length<=100000) (h3:∀ i,(x.Order.getD i default).length<=100000):PE (iJ x) (· = x):=by
 unfold iJ;refine (wF (by omega)).bind λv1 e1 => .gdD ⟨by omega,by omega,by omega,by omega⟩ (PE.bind (P:=(· = x.Order)) ?_ λs hs => .pure (by rw [e1,hs]));refine PE.loop (λz=>∃ k:Nat,k<=x.Order.length/\z=(x.Order.take k++List.replicate (x.Order.length-k) [],(k:Int))) (λz=>((x.Order.length:Int)-z.2).toNat) ⟨0,by omega,by simp⟩ λz ⟨k,g1,g2⟩ => ?_;subst g2;unfold lS;simp only [tnn];refine .bifD (λhk=>?_) λhk => .pure ?_
 ·have hk':k<x.Order.length:=by omega
  refine .gdD ⟨by omega,hk⟩ ((wF (by have := h3 k;omega)).bind λv12 e12 => .gdD ⟨by omega,?_⟩ (.gdI (by omega) (.pure ⟨⟨k+1,by omega,?_⟩,by simp only [];omega⟩)))
  ·simp only [lla,Tg,List.length_replicate];omega
  rw [e12,dJ hk',List.set_append_right _ _ (by rw [Tg];omega),Tg,Nat.min_eq_left (by omega),Uc,show x.Order.length-k=(x.Order.length-(k+1))+1 by omega,List.replicate_succ,List.set_cons_zero,Tn]
  rfl
 rw [show k=x.Order.length by omega,Uc,Tp];simp
theorem H5 (x:Py) (h1:x.From.length<=100000) (h2:x.Order.length<=100000) (h3:∀ i,(x.Order.getD i default).length<=100000):PE (mP x) (· = x):=by
 unfold mP;refine .gd (aI (by simp only [TY];omega) rfl) (PE.bind (P:=(· = x.Order)) ?_ λs hs => .pure (by rw [hs];rfl));refine PE.loop (λz=>∃ k:Nat,k<=x.Order.length/\z=(x.Order.take k,(k:Int))) (λz=>((x.Order.length:Int)-z.2).toNat) ⟨0,by omega,by simp⟩ λz ⟨k,g1,g2⟩ => ?_;subst g2;unfold oP;simp only [tnn,Te];refine .bifD (λhk=>?_) λhk => .pure ?_
 ·have hk':k<x.Order.length:=by omega
  refine .gdD ⟨by omega,hk⟩ (.gd (aI (by have := h3 k;simp only [TY];omega) rfl) (.gd (aI (by rw [Tg];omega) rfl) (.gdI (by omega) (.pure ⟨⟨k+1,by omega,?_⟩,by simp only [];omega⟩))));rw [dJ hk']
  rfl
 rw [show k=x.Order.length by omega,Tp]
theorem H6 (l:Nat) (hl:l<3):∃ t,PG p (l:Int)=(l:Int)::t:=Fu hl
theorem EK {f:LI} (h:f∈qo (chF p)):f.length=(evs p).length:=by
 rw [(nV.1 h).1];simp [chF]
theorem H7 (F:Few p) {o:LL} (h:o∈qo (chO p)):o.length=3/\∀ i,(o.getD i default).length<=100:=by
 obtain ⟨h1,h2⟩:=nV.1 h;refine ⟨h1,λi=>?_⟩
 by_cases hi:i<3
 ·obtain ⟨y,hy,e⟩:=h2 i hi;rw [gdq,e];have hw:=(F.w i hi).1;have hy':y∈chL p i:=by
   match i,hi with
   | 0,_=>exact hy
   | 1,_=>exact hy
   | 2,_=>exact hy
  unfold chL at hy';obtain ⟨r,hr,rfl⟩:=Tt.1 hy';have := ((vz rfl).1 hr).length_eq;rw [TE] at this;show ((i:Int)::r).length<=100;rw [llc];omega
 rw [gdq,gen (by rw [h1];exact Nat.le_of_not_lt hi)];exact Ti _
theorem getD_in {α:Type} [Inhabited α] {l:List α} {i:Nat} (h:i<l.length):l.getD i default∈l:=by
 rw [gdq,geq h];exact Tv _
theorem Ll (FF:LL) (OO s30:List (LL)) (hO:PE (jm s30) (· = OO)) (hall:FF.length*OO.length<=3000) (hn:FF.length<=3000) (hn2:OO.length<=3000) (hf:∀ f∈FF,f.length<=24) (ho:∀ o∈OO,o.length=3/\∀ i,(o.getD i default).length<=100) :
  PE (loopO (dV s30 FF) (([]:List Py),(0:Int))) (· = FF.flatMap λf=>OO.map λo=>(⟨f,o⟩:Py)):=by
 have hpre:∀ j,j<=FF.length->((Tc j).flatMap λj=>OO.map λo=>(⟨FF.getD j default,o⟩:Py)).length<=3000:=λj hj=>by
  have := rQ (λj=>OO.map λo=>(⟨FF.getD j default,o⟩:Py)) hj;rw [bK FF λf=>OO.map λo=>(⟨f,o⟩:Py),cZ (l:=FF) (f:=λf=>OO.map λo=>(⟨f,o⟩:Py)) (m:=OO.length) λ_ _=>llm _] at this;exact Td this hall
 refine (bQ FF.length [] (λj=>OO.map λo=>(⟨FF.getD j default,o⟩:Py)) (λj hj=>?_) ?_).mono λv hv=>?_
 ·have hfj:=hf _ (getD_in hj);have hpj:=hpre (j+1) hj;rw [aX,lla,llm] at hpj;unfold dV;simp only [Te,tnn];refine .bifD (λ_=>?_) λh=>absurd (show (j:Int)<(FF.length:Int) by omega) h;refine PE.bind (P:=(· = (Tc (j+1)).flatMap λj=>OO.map λo=>(⟨FF.getD j default,o⟩:Py))) (.gdD ⟨by omega,by omega⟩ ?_) λv hv => .gdI (by omega) (.pure (by rw [hv];rfl));refine hO.bind λv86 h86=>?_;subst v86;generalize hpe:(Tc j).flatMap (λj=>OO.map λo=>(⟨FF.getD j default,o⟩:Py))=pre at hpj ⊢;generalize hfg:FF.getD j default=f at hfj ⊢;have hstep:∀ s:List Py×Int,dU FF (pre,(j:Int)) OO s=bif decide (s.2<(OO.length:Int)) then
    gd (decide (0<=s.2/\s.2<(OO.length:Int)))<|Uj (iJ (⟨f,OO.getD s.2.toNat default⟩:Py)) λv99=>
    gd (bF (s.1.length+1) 48)<|gd (Pv .i64 (s.2+(1:Int)))<|some (.inl ((s.1++[v99]),(s.2+(1:Int)))) else some (.inr s.1):=λs=>by
   unfold dU;simp only [tnn,hfg]
  generalize dU FF (pre,(j:Int)) OO=step at hstep ⊢;refine (bQ OO.length pre (λi=>[(⟨f,OO.getD i default⟩:Py)]) (λi hi=>?_) ?_).mono λv hv=>?_
  ·have hil:((Tc i).flatMap λi=>[(⟨f,OO.getD i default⟩:Py)]).length=i*1:=by rw [cZ (m:=1) λ_ _=>rfl,Tj]
   obtain ⟨ho1,ho2⟩:=ho _ (getD_in hi);rw [hstep];simp only [tnn];refine .bifD (λ_ => .gdD ⟨by omega,by omega⟩ ((Gm ⟨f,OO.getD i default⟩ (Td hfj (by omega)) (by rw [ho1];omega) (λi=>Td (ho2 i) (by omega))).bind λv99 h99 => .gd (aI (by rw [lla];omega) rfl) (.gdI (by omega) (.pure ?_)))) λh=>absurd (show (i:Int)<(OO.length:Int) by omega) h;rw [h99,aX,Tn]
   rfl
  ·rw [hstep];exact .bifD (λh=>absurd h (by simp only [];omega)) λ_ => .pure rfl
  rw [hv,bK OO λo=>[(⟨f,o⟩:Py)],mV,aX,hpe,hfg]
 ·unfold dV;exact .bifD (λh=>absurd h (by simp only [];omega)) λ_ => .pure rfl
 rw [hv,Te];exact bK FF λf=>OO.map λo=>(⟨f,o⟩:Py)
theorem H8 (hv:bB (PH p)=true):PE (mS p) (· = ez p):=by
 have hp:=PV.of hv;have F:=few hv;have hel:=jo hp.vs;unfold mS;refine (AA hp.vs).bind λv1 e1=>?_;subst v1;have hen:∀ n:Nat,(evs p).getD n default=ev p (n:Int):=λn=>by unfold ev;rw [tnn]
 refine PE.bind (P:=(· = chF p)) ?_ λs2 h2=>?_
 ·refine (bQ (evs p).length [] (λi=>[chE p i]) (λk hk=>?_) ?_).mono λv hv=>by rw [hv,Te,mV];rfl
  ·unfold jb;have hkl:((Tc k).flatMap λi=>[chE p i]).length=k*1:=by rw [cZ (m:=1) λ_ _=>rfl,Tj]
   simp only [Te,tnn,hen];refine .bifD (λ_ => .gdD ⟨by omega,by omega⟩ (PE.bind (P:=(· = chE p k)) ?_ λv hv => .gd (aI (by omega) rfl) (.gdI (by omega) (.pure (by rw [hv,aX];rfl))))) λh=>absurd (show (k:Int)<((evs p).length:Int) by omega) h;have hl:=pz hp (n:=(k:Int)) (by omega) (by omega);refine .bif (λhr=>?_) λhr => .pure (by unfold chE;rw [if_neg (by rw [hr];decide)]);refine (Fx hp _).bind λv17 h17=>?_;subst v17;have hw:=(F.w (ev p (k:Int)).Loc.toNat (by omega)).1;rw [TK hl.1] at hw;refine (JE _ _ (by omega)).bind λv21 h21 => .pure ?_;rw [h21];unfold chE;rw [if_pos hr]
   rfl
  unfold jb;exact .bifD (λh=>absurd h (by simp only [];omega)) λ_ => .pure rfl
 subst s2;refine PE.bind (P:=(· = chO p)) ?_ λs30 h30=>?_
 ·refine (bQ 3 [] (λl=>[chL p l]) (λl hl=>?_) ?_).mono λv hv=>by rw [hv];rfl
  ·unfold iy;have hkl:((Tc l).flatMap λi=>[chL p i]).length=l*1:=by rw [cZ (m:=1) λ_ _=>rfl,Tj]
   simp only [Te];refine .bifD (λ_=>?_) λh=>absurd (show (l:Int)<3 by omega) h;refine PE.bind (P:=(· = (Tc (l+1)).flatMap λi=>[chL p i])) (PE.bind (P:=(· = chL p l)) ?_ λv hv => .gd (aI (by omega) rfl) (.pure (by rw [hv,aX]))) λv hv => .gdI (by omega) (.pure (by rw [hv];rfl));refine (Fx hp _).bind λv44 h44=>?_;subst v44;have hw:=(F.w l hl).1;obtain ⟨t,ht⟩:=H6 (p:=p) l hl;refine .gdD ⟨by omega,by rw [ht,llc];omega,by omega⟩ ?_;have e:(((PG p (l:Int)).drop (1:Int).toNat).take (((PG p (l:Int)).length:Int).toNat-(1:Int).toNat))=(PG p (l:Int)).tail:=by
    rw [ht];simp
   rw [e];refine (Lg _ (by rw [TE];omega)).bind λv46 h46=>?_;have hpl:v46.length<=3000:=by
    have := (F.w l hl).2;rw [h46];unfold chL at this
    rwa [llm] at this
   have hrow:∀ i,(v46.getD i default).length<=100:=λi=>by
    by_cases hi:i<v46.length
    ·have hm:=getD_in hi;rw [show v46=prm (PG p (l:Int)).tail.length (PG p (l:Int)).tail from h46] at hm;have := ((vz rfl).1 hm).length_eq;rw [<- h46,TE] at this;omega
    rw [gdq,gen (by omega)];exact Ti _
   refine (bQ v46.length [] (λi=>[(l:Int)::v46.getD i default]) (λi hi=>?_) ?_).mono λv hv=>?_
   ·unfold iw;have hil:((Tc i).flatMap λi=>[(l:Int)::v46.getD i default]).length=i*1:=by rw [cZ (m:=1) λ_ _=>rfl,Tj]
    simp only [Te,tnn];refine .bifD (λ_ => .gdD ⟨by omega,by omega⟩ (.gd (aI (by have := hrow i;simp only [Tq];omega) rfl) (.gd (aI (by omega) rfl) (.gdI (by omega) (.pure (by rw [aX];rfl)))))) λh=>absurd (show (i:Int)<(v46.length:Int) by omega) h
   ·unfold iw;exact .bifD (λh=>absurd h (by simp only [];omega)) λ_ => .pure rfl
   rw [hv,Te,bK v46 λx=>[(l:Int)::x],mV,h46]
   rfl
  unfold iy;exact .bifD (λh=>absurd h (by simp only [];omega)) λ_ => .pure rfl
 subst s30;refine PE.bind (P:=(· = ez p)) ?_ λv hv => .pure hv;refine (uI (chF p) (by simp [chF];omega) λk _=>Td (F.f k).1 (by omega)).bind λv72 h72=>?_;subst v72;have h0:=(F.f (chF p).length).1;rw [Tp] at h0;have h1:=(F.o (chO p).length).1;rw [Tp] at h1;exact Ll (qo (chF p)) (qo (chO p)) (chO p) (xK (chO p) (by simp [chO]) λk _=>Td (F.o k).1 (by omega)) F.all h0 h1 (λf hf=>by rw [EK hf];exact hel) (λo ho=>H7 F ho)
end
section
variable {p:List (List Px)}
theorem EL {α β:Type} (q:α->Bool) (f:α->List β) (l:List α):(l.filter q).flatMap f=l.flatMap λy=>if q y=true then f y else []:=by
 induction l with
 | nil=>rfl
 | cons a l ih=>
  by_cases h:q a=true
  ·rw [TD h,Tx,Tx,ih,if_pos h]
  rw [TR h,Tx,ih,if_neg h,Te]
theorem Gn (i:Int) (rest:LL) (c:LI) (hc:c.length<=3000) (hr:rest.length<=3000) (hrow:∀ k,(rest.getD k default).length<=100) (hall:((c.filter (nq i)).flatMap λy=>rest.map (y :: ·)).length<=3000) :
  PE (loopO (fB i rest c) (([]:LL),(0:Int))) (· = (c.filter (nq i)).flatMap λy=>rest.map (y :: ·)):=by
 rw [EL] at hall ⊢;rw [<- bK c] at hall ⊢;generalize hg:(λk=>if nq i (c.getD k default)=true then rest.map (c.getD k default :: ·) else [])=g at hall ⊢;have hgk:∀ k,g k=if nq i (c.getD k default)=true then rest.map (c.getD k default :: ·) else []:=λk=>by rw [<- hg]
 refine (bQ c.length [] g (λk hk=>?_) ?_).mono λv hv=>by rw [hv,Te]
 ·have hpre:=Td (rQ g (show k+1<=c.length by omega)) hall;rw [aX,lla] at hpre;unfold fB;simp only [Te];refine .bifD (λ_=>?_) λh=>absurd (show (k:Int)<(c.length:Int) by omega) h;refine PE.bind (P:=(· = (Tc (k+1)).flatMap g)) ?_ λv hv => .gdI (by omega) (.pure (by rw [hv];rfl));rw [aX];have hk1:=hgk k;generalize (Tc k).flatMap g=pre at hpre ⊢;generalize g k=gk at hk1 hpre ⊢;subst hk1;have hstep:∀ s:LL×Int,fA i rest c (pre,(k:Int)) s=(Uj (bif decide (s.2<(rest.length:Int)) then gd (decide (0<=(k:Int)/\(k:Int)<(c.length:Int)))<|some ((c.getD k default) != i) else some false) λs23=>
    bif s23 then
     gd (decide (0<=(k:Int)/\(k:Int)<(c.length:Int)))<|gd (decide (0<=s.2/\s.2<(rest.length:Int)))<|gd (bF (([(c.getD k default)]:LI).length+(rest.getD s.2.toNat default).length) 8) <|
     gd (bF (s.1.length+1) 24)<|gd (Pv .i64 (s.2+(1:Int)))<|some (.inl ((s.1++[(([(c.getD k default)]:LI)++(rest.getD s.2.toNat default))]),(s.2+(1:Int))))
    else some (.inr s.1)):=λs=>by
   unfold fA;simp only [tnn]
  generalize fA i rest c (pre,(k:Int))=step at hstep ⊢;generalize c.getD k default=y at hstep hpre ⊢
  by_cases hy:y=i
  ·have hn : ¬ nq i y=true:=by unfold nq;rw [decide_eq_true hy];decide
   rw [if_neg hn] at hpre ⊢;rw [Cz,hstep];have : PE (bif decide ((0:Int)<(rest.length:Int)) then gd (decide (0<=(k:Int)/\(k:Int)<(c.length:Int)))<|some (y != i) else some false) (· = false) := .bifD (λ_ => .gdD ⟨by omega,by omega⟩ (.pure (by rw [hy];simp))) λ_ => .pure rfl;rw [show (bif decide (((pre,(0:Int)):LL×Int).2<(rest.length:Int)) then gd (decide (0<=(k:Int)/\(k:Int)<(c.length:Int)))<|some (y != i) else some false)=some false from this.eq];exact .of rfl (by simp)
  have hn:nq i y=true:=by unfold nq;rw [decide_eq_false hy];rfl
  have hne:(y != i)=true:=by simpa using hy
  rw [if_pos hn,llm] at hpre;rw [if_pos hn];refine (bQ rest.length pre (λj=>[y::rest.getD j default]) (λj hj=>?_) ?_).mono λv hv=>?_
  ·have hil:((Tc j).flatMap λj=>[y::rest.getD j default]).length=j*1:=by rw [cZ (m:=1) λ_ _=>rfl,Tj]
   rw [hstep];refine PE.bind (P:=(· = true)) (.bifD (λ_ => .gdD ⟨by omega,by omega⟩ (.pure hne)) λh=>absurd (show (j:Int)<(rest.length:Int) by omega) h) λb hb=>?_;subst hb;simp only [tnn,cond_true];refine .gdD ⟨by omega,by omega⟩ (.gdD ⟨by omega,by omega⟩ (.gd (aI (by have := hrow j;simp only [Tq];omega) rfl) (.gd (aI (by rw [lla];omega) rfl) (.gdI (by omega) (.pure ?_)))));rw [aX,Tn]
   rfl
  ·rw [hstep];refine PE.bind (P:=(· = false)) (.bifD (λh=>absurd h (by simp only [];omega)) λ_ => .pure rfl) λb hb=>?_;subst hb;exact .pure rfl
  rw [hv,bK rest λx=>[y::x],mV]
 unfold fB;exact .bifD (λh=>absurd h (by simp only [];omega)) λ_ => .pure rfl
theorem JF {i:Nat} (h:i<(evs p).length):(chF p).drop i=chE p i::(chF p).drop (i+1):=by
 have hl:i<(chF p).length:=by simp [chF];exact h
 rw [Um hl]
 congr 1
 simp [chF]
theorem DW (hv:bB (PH p)=true):∀ (n m i:Nat),i+n=(evs p).length->n<m->PE (iG m (evs p) (i:Int)) (· = qo ((chF p).drop i))
 | _,0,_,_,h=>by omega
 | 0,m+1,i,hi,_=>by
  show PE (eT _ (evs p) (i:Int)) _;unfold eT;refine .bif (λ_ => .pure ?_) λh=>by rw [show i=(evs p).length by omega] at h;simp at h
  rw [Uq (by simp [chF] <;> omega)]
  rfl
 | n+1,m+1,i,hi,hm=>by
  have hp:=PV.of hv;have F:=few hv;have hel:=jo hp.vs;have hen:∀ n:Nat,(evs p).getD n default=ev p (n:Int):=λn=>by unfold ev;rw [tnn]
  have hl:=pz hp (n:=(i:Int)) (by omega) (by omega);show PE (eT _ (evs p) (i:Int)) _;unfold eT;refine .bif (λh=>by have := eq_of_beq h;omega) λ_ => .gdI (by omega) ?_;refine (DW hv n m (i+1) (by omega) (by omega)).bind λv3 h3=>?_;have hi':i<(evs p).length:=by omega
  have hr:=(F.f (i+1)).2;have hF:=(F.f i).2;have hrow:∀ k,(v3.getD k default).length<=100:=λk=>by
   by_cases hk:k<v3.length
   ·have hm:=getD_in hk;rw [show v3=qo ((chF p).drop (i+1)) from h3] at hm;have := (nV.1 hm).1;rw [<- h3,Tm] at this;simp only [chF,llm,Tj] at this;omega
   rw [gdq,gen (by omega)];exact Ti _
  rw [JF hi'] at hF ⊢;rw [<- h3] at hr;have hE:qo (chE p i::(chF p).drop (i+1))=(chE p i).flatMap λy=>v3.map (y :: ·):=by rw [h3];rfl
  rw [hE] at hF ⊢;clear hE;generalize hS:(if (ev p (i:Int)).Reads=true then PG p (ev p (i:Int)).Loc else [-1])=c;have hcf:chE p i=c.filter (nq (i:Int)):=by
   unfold chE;rw [<- hS]
   split
   ·rfl
   unfold nq;rw [TD (by simp <;> omega)]
   rfl
  have hcl:c.length<=8:=by
   rw [<- hS]
   split
   ·have hw:=(F.w (ev p (i:Int)).Loc.toNat (by omega)).1
    rwa [TK hl.1] at hw
   decide
  refine PE.bind (P:=(· = c)) (.gdD ⟨by omega,by omega⟩ ?_) λs4 h4=>?_
  ·simp only [tnn,hen];refine .bif (λh=>((Fy hp _).bind λv7 h7 => .pure ?_)) λh => .pure ?_
   ·rw [h7,<- hS,if_pos h]
   rw [<- hS,if_neg (by rw [h];decide)]
  subst s4;rw [hcf] at hF ⊢;exact (Gn (i:Int) v3 c (by omega) hr hrow hF).bind λs8 h8 => .pure h8
theorem MU (hv:bB (PH p)=true):PE (rf (evs p) 0) (· = qo (chF p)):=kx (evs p).length λm hm=>DW hv (evs p).length m 0 (by omega) hm
theorem EM (l:Int) (v3:List (LL)) (v4:LI) (v6:LL) (h40:v4.getD 0 default=l) (h4:0<v4.length) (hn6:v6.length<=3000) (hn3:v3.length<=3000) (hr6:∀ k,(v6.getD k default).length<=100) (hr3:∀ k,(v3.getD k default).length<=100) (hall:(v6.flatMap λr=>v3.map ((l::r) :: ·)).length<=3000) :
  PE (loopO (dS v3 v4 v6) (([]:List (LL)),(0:Int))) (· = v6.flatMap λr=>v3.map ((l::r) :: ·)):=by
 rw [<- bK v6] at hall ⊢;generalize hg:(λk=>v3.map ((l::v6.getD k default) :: ·))=g at hall ⊢;have hgk:∀ k,g k=v3.map ((l::v6.getD k default) :: ·):=λk=>by rw [<- hg]
 refine (bQ v6.length [] g (λk hk=>?_) ?_).mono λv hv=>by rw [hv,Te]
 ·have hpre:=Td (rQ g (show k+1<=v6.length by omega)) hall;have hrk:=hr6 k;rw [aX,lla] at hpre;unfold dS;simp only [Te,tnn,show (0:Int).toNat=0 from rfl,h40];refine .bifD (λ_=>?_) λh=>absurd (show (k:Int)<(v6.length:Int) by omega) h;refine PE.bind (P:=(· = (Tc (k+1)).flatMap g)) (.gdD ⟨by omega,by omega⟩ (.gdD ⟨by omega,by omega⟩ (.gd (aI (by simp only [Tq];omega) rfl) ?_))) λv hv => .gdI (by omega) (.pure (by rw [hv];rfl));rw [aX];have hk1:=hgk k;generalize (Tc k).flatMap g=pre at hpre ⊢;generalize g k=gk at hk1 hpre ⊢;subst hk1;rw [llm] at hpre;have hstep:∀ s:List (LL)×Int,dR v3 v4 v6 (pre,(k:Int)) s=bif decide (s.2<(v3.length:Int)) then
    gd (decide (0<=s.2/\s.2<(v3.length:Int)))<|gd (bF (([(([l]:LI)++(v6.getD k default))]:LL).length+(v3.getD s.2.toNat default).length) 24)<|gd (bF (s.1.length+1) 24)<|gd (Pv .i64 (s.2+(1:Int))) <|
    some (.inl ((s.1++[(([(([l]:LI)++(v6.getD k default))]:LL)++(v3.getD s.2.toNat default))]),(s.2+(1:Int)))) else some (.inr s.1):=λs=>by
   unfold dR;simp only [tnn,show (0:Int).toNat=0 from rfl,h40]
  generalize dR v3 v4 v6 (pre,(k:Int))=step at hstep ⊢;generalize v6.getD k default=y at hstep ⊢;refine (bQ v3.length pre (λj=>[(l::y)::v3.getD j default]) (λj hj=>?_) ?_).mono λv hv=>?_
  ·have hil:((Tc j).flatMap λj=>[(l::y)::v3.getD j default]).length=j*1:=by rw [cZ (m:=1) λ_ _=>rfl,Tj]
   rw [hstep];simp only [tnn];refine .bifD (λ_ => .gdD ⟨by omega,by omega⟩ (.gd (aI (by have := hr3 j;simp only [Tq];omega) rfl) (.gd (aI (by rw [lla];omega) rfl) (.gdI (by omega) (.pure ?_))))) λh=>absurd (show (j:Int)<(v3.length:Int) by omega) h;rw [aX,Tn]
   rfl
  ·rw [hstep];exact .bifD (λh=>absurd h (by simp only [];omega)) λ_ => .pure rfl
  rw [hv,bK v3 λx=>[(l::y)::x],mV]
 unfold dS;exact .bifD (λh=>absurd h (by simp only [];omega)) λ_ => .pure rfl
theorem JG {l:Nat} (h:l<3):(chO p).drop l=chL p l::(chO p).drop (l+1):=by
 match l,h with
 | 0,_=>rfl
 | 1,_=>rfl
 | 2,_=>rfl
theorem AC (hv:bB (PH p)=true):∀ (n m l:Nat),l+n=3->n<m->PE (gH m (evs p) (l:Int)) (· = qo ((chO p).drop l))
 | _,0,_,_,h=>by omega
 | 0,m+1,l,hl,_=>by
  show PE (dI _ (evs p) (l:Int)) _;unfold dI;refine .bifD (λ_ => .pure ?_) λh=>absurd (show (2:Int)<(l:Int) by omega) h;rw [Uq (by simp [chO] <;> omega)]
  rfl
 | n+1,m+1,l,hl,hm=>by
  have hp:=PV.of hv;have F:=few hv;have hl3:l<3:=by omega
  show PE (dI _ (evs p) (l:Int)) _;unfold dI;refine .bifD (λh=>absurd h (by omega)) λ_ => .gdI (by omega) ?_;refine (AC hv n m (l+1) (by omega) (by omega)).bind λv3 h3=>(Fy hp _).bind λv4 h4=>?_;subst v4;have hw:=(F.w l hl3).1;obtain ⟨t,ht⟩:=H6 (p:=p) l hl3;refine .gdD ⟨by omega,by rw [ht,llc];omega,by omega⟩ ?_;have e:(((PG p (l:Int)).drop (1:Int).toNat).take (((PG p (l:Int)).length:Int).toNat-(1:Int).toNat))=(PG p (l:Int)).tail:=by
   rw [ht];simp
  rw [e];refine (MS _ (by rw [TE];omega)).bind λv6 h6=>?_;have hn6:v6.length<=3000:=by
   have := (F.w l hl3).2;rw [h6];unfold chL at this
   rwa [llm] at this
  have hr6:∀ i,(v6.getD i default).length<=100:=λi=>by
   by_cases hi:i<v6.length
   ·have hm:=getD_in hi;rw [show v6=prm (PG p (l:Int)).tail.length (PG p (l:Int)).tail from h6] at hm;have := ((vz rfl).1 hm).length_eq;rw [<- h6,TE] at this;omega
   rw [gdq,gen (by omega)];exact Ti _
  have hn3:=(F.o (l+1)).2;have hO:=(F.o l).2;have hr3:∀ k,(v3.getD k default).length<=100:=λk=>by
   by_cases hk:k<v3.length
   ·have hm:=getD_in hk;rw [show v3=qo ((chO p).drop (l+1)) from h3] at hm;have := (nV.1 hm).1;rw [<- h3,Tm] at this;simp only [chO,llc,TY] at this;omega
   rw [gdq,gen (by omega)];exact Ti _
  rw [JG hl3] at hO ⊢;rw [<- h3] at hn3;have hE:qo (chL p l::(chO p).drop (l+1))=v6.flatMap λr=>v3.map (((l:Int)::r) :: ·):=by
   show ((prm (PG p (l:Int)).tail.length (PG p (l:Int)).tail).map ((l:Int) :: ·)).flatMap (λy=>(qo ((chO p).drop (l+1))).map (y :: ·))=_;rw [<- h6,<- h3,List.flatMap_map]
  rw [hE] at hO ⊢;exact (EM (l:Int) v3 (PG p (l:Int)) v6 (by rw [ht];rfl) (by rw [ht];simp) hn6 hn3 hr6 hr3 hO).bind λs7 h7 => .pure h7
theorem Lm (hv:bB (PH p)=true):PE (ql (evs p) 0) (· = qo (chO p)):=kx 3 λm hm=>AC hv 3 m 0 (by omega) hm
theorem Lp (FF:LL) (OO:List (LL)) (hall:FF.length*OO.length<=3000) (hn:FF.length<=3000) (hn2:OO.length<=3000) (hf:∀ f∈FF,f.length<=24) (ho:∀ o∈OO,o.length=3/\∀ i,(o.getD i default).length<=100) :
  PE (loopO (jk FF OO) (([]:List Py),(0:Int))) (· = FF.flatMap λf=>OO.map λo=>(⟨f,o⟩:Py)):=by
 have hpre:∀ j,j<=FF.length->((Tc j).flatMap λj=>OO.map λo=>(⟨FF.getD j default,o⟩:Py)).length<=3000:=λj hj=>by
  have := rQ (λj=>OO.map λo=>(⟨FF.getD j default,o⟩:Py)) hj;rw [bK FF λf=>OO.map λo=>(⟨f,o⟩:Py),cZ (l:=FF) (f:=λf=>OO.map λo=>(⟨f,o⟩:Py)) (m:=OO.length) λ_ _=>llm _] at this;exact Td this hall
 refine (bQ FF.length [] (λj=>OO.map λo=>(⟨FF.getD j default,o⟩:Py)) (λj hj=>?_) ?_).mono λv hv=>?_
 ·have hfj:=hf _ (getD_in hj);have hpj:=hpre (j+1) hj;rw [aX,lla,llm] at hpj;unfold jk;simp only [Te];refine .bifD (λ_=>?_) λh=>absurd (show (j:Int)<(FF.length:Int) by omega) h;refine PE.bind (P:=(· = (Tc (j+1)).flatMap λj=>OO.map λo=>(⟨FF.getD j default,o⟩:Py))) ?_ λv hv => .gdI (by omega) (.pure (by rw [hv];rfl));generalize hpe:(Tc j).flatMap (λj=>OO.map λo=>(⟨FF.getD j default,o⟩:Py))=pre at hpj ⊢;generalize hfg:FF.getD j default=f at hfj;have hstep:∀ s:List Py×Int,iH FF OO (pre,(j:Int)) s=bif decide (s.2<(OO.length:Int)) then
    gd (decide (0<=(j:Int)/\(j:Int)<(FF.length:Int)))<|gd (decide (0<=s.2/\s.2<(OO.length:Int)))<|Uj (mP (⟨f,OO.getD s.2.toNat default⟩:Py)) λv99=>
    gd (bF (s.1.length+1) 48)<|gd (Pv .i64 (s.2+(1:Int)))<|some (.inl ((s.1++[v99]),(s.2+(1:Int)))) else some (.inr s.1):=λs=>by
   unfold iH;simp only [tnn,hfg]
  generalize iH FF OO (pre,(j:Int))=step at hstep ⊢;refine (bQ OO.length pre (λi=>[(⟨f,OO.getD i default⟩:Py)]) (λi hi=>?_) ?_).mono λv hv=>?_
  ·have hil:((Tc i).flatMap λi=>[(⟨f,OO.getD i default⟩:Py)]).length=i*1:=by rw [cZ (m:=1) λ_ _=>rfl,Tj]
   obtain ⟨ho1,ho2⟩:=ho _ (getD_in hi);rw [hstep];simp only [tnn];refine .bifD (λ_ => .gdD ⟨by omega,by omega⟩ (.gdD ⟨by omega,by omega⟩ ((H5 ⟨f,OO.getD i default⟩ (Td hfj (by omega)) (by rw [ho1];omega) (λi=>Td (ho2 i) (by omega))).bind λv99 h99 => .gd (aI (by rw [lla];omega) rfl) (.gdI (by omega) (.pure ?_))))) λh=>absurd (show (i:Int)<(OO.length:Int) by omega) h;rw [h99,aX,Tn]
   rfl
  ·rw [hstep];exact .bifD (λh=>absurd h (by simp only [];omega)) λ_ => .pure rfl
  rw [hv,bK OO λo=>[(⟨f,o⟩:Py)],mV,aX,hpe,hfg]
 ·unfold jk;exact .bifD (λh=>absurd h (by simp only [];omega)) λ_ => .pure rfl
 rw [hv,Te];exact bK FF λf=>OO.map λo=>(⟨f,o⟩:Py)
theorem H9 (hv:bB (PH p)=true):PE (qQ p) (· = ez p):=by
 have hp:=PV.of hv;have F:=few hv;have hel:=jo hp.vs;unfold qQ;refine (xI hp.vs).bind λv1 e1=>?_;subst v1;refine (MU hv).bind λv2 h2=>(Lm hv).bind λv3 h3=>?_;subst v2 v3;have h0:=(F.f (chF p).length).1;rw [Tp] at h0;have h1:=(F.o (chO p).length).1;rw [Tp] at h1;exact (Lp (qo (chF p)) (qo (chO p)) F.all h0 h1 (λf hf=>by rw [EK hf];exact hel) (λo ho=>H7 F ho)).bind λs4 h4 => .pure h4
end
end
end Go.Proofs.YtpkhamajimidnaaGreatDoor
