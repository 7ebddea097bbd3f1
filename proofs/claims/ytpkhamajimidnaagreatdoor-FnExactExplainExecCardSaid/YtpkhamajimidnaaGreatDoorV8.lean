/- Texts joined. No conditions. -/
import Derived.Test.YtpkhamajimidnaaGreatDoorV7
namespace Go.Proofs.YtpkhamajimidnaaGreatDoor
noncomputable section
open _root_.List renaming range -> NV, idxOf_lt_length_of_mem -> N7, replicate -> N9, map_append -> Od, mem_range -> Oe, length_take -> Oh, range_succ -> Oi, filter_append -> Oj, getElem_mem -> Ol, mem_cons_self -> Om, pairwise_cons -> Oq, getElem_of_mem -> Ot, length_set -> Ou, prefix_refl -> Ov, length_filter_le -> Oy, range' -> Oz, mem_cons -> OA, take_append_getElem -> OB, length_singleton -> OD, mem_cons_of_mem -> OE, take_append_drop -> OI, drop_eq_getElem_cons -> OJ, idxOf_cons_self -> OL
open _root_.BitVec renaming ofInt -> NW, ofInt_natCast -> Ob, toNat_ofNat -> Oc
open _root_.Bool renaming true_and -> NY, false_and -> Oo
open _root_.Nat renaming le_refl -> NZ, lt_or_ge -> Oa, eq_of_testBit_eq -> Ox, pow_lt_pow_right -> OG
open _root_.Option renaming bind -> N8
open _root_.Int renaming toNat_of_nonneg -> Og, fdiv_eq_ediv_of_nonneg -> OH
open _root_.List.IsPrefix renaming trans -> OC
open Go.RowKit
set_option maxRecDepth 100000
def evI (t k:Nat) (x:KE):List KH:=if x.Op=4 then [] else [⟨t,k,x.Loc,rdX x,wrX x⟩]
def evR (t:Nat) (row:List KE):Nat->List KH
 | 0=>[]
 | n+1=>evR t row n++evI t n (row.getD n default)
def ev0:List KH:=[⟨-1,0,0,false,true⟩,⟨-1,1,1,false,true⟩,⟨-1,2,2,false,true⟩]
def evP (p:List (List KE)):Nat->List KH
 | 0=>ev0
 | n+1=>evP p n++evR n (p.getD n default) (p.getD n default).length
def evs (p:List (List KE)):List KH:=evP p p.length
theorem Dr (t k:Nat) (x:KE):(evI t k x).length<=1:=by unfold evI;split <;> simp
theorem Ar (t:Nat) (row:List KE) (n:Nat):(evR t row n).length<=n:=by
 induction n with
 | zero=>exact NZ _
 | succ n ih=>
  have := Dr t n (row.getD n default);simp only [evR,lla];omega
theorem Au {p:List (List KE)} (h:Vs p) (n:Nat):(evP p n).length<=3+7*n:=by
 induction n with
 | zero=>exact NZ _
 | succ n ih=>
  have h1:=Ar n (p.getD n default) (p.getD n default).length;have h2:=h.2 n;simp only [evP,lla];omega
theorem Iv (x:KE):KI (kP x) (· = rdX x):=by
 unfold kP rdX;exact KI.bind (P:=(· = (x.Op==1||x.Op==5))) (.bif (fun h => .pure (by rw [h];rfl)) fun h => .pure (by rw [h];rfl)) fun v hv => .pure hv
theorem GF (x:KE):KI (ji x) (· = wrX x):=by
 unfold ji wrX;exact KI.bind (P:=(· = (x.Op==2||x.Op==3))) (.bif (fun h => .pure (by rw [h];rfl)) fun h => .pure (by rw [h];rfl)) fun v hv=>KI.bind (P:=(· = (x.Op==2||x.Op==3||x.Op==5))) (.bif (fun h => .pure (by rw [<- hv,h];rfl)) fun h => .pure (by rw [<- hv,h];rfl)) fun v hv => .pure hv
theorem yD {p:List (List KE)} (hp:Vs p):KI (eQ p) (· = evs p):=by
 have hpl:=hp.1;unfold eQ;refine KI.bind (P:=(· = ev0)) ?_ fun l hl=>KI.bind (P:=(· = evs p)) ?_ fun v hv => .pure hv
 ·refine KI.loop (fun s=>∃ n:Nat,n<=3/\s=(ev0.take n,(n:Int))) (fun s=>(3-s.2).toNat) ⟨0,by omega,rfl⟩ fun s ⟨n,h1,h2⟩ => ?_;subst h2;unfold lH;refine .bifD (fun h=>?_) fun h => .pure ?_
  ·match n,h1,h with
   | 0,_,_=>exact .gdC (by decide) rfl (.gdI (by decide) (.pure ⟨⟨1,by omega,rfl⟩,by decide⟩))
   | 1,_,_=>exact .gdC (by decide) rfl (.gdI (by decide) (.pure ⟨⟨2,by omega,rfl⟩,by decide⟩))
   | 2,_,_=>exact .gdC (by decide) rfl (.gdI (by decide) (.pure ⟨⟨3,by omega,rfl⟩,by decide⟩))
   | 3,_,h=>exact absurd h (by decide)
  have : n=3:=by simp only [] at h;omega
  subst this
  rfl
 subst hl;refine KI.loop (fun s=>∃ n:Nat,n<=p.length/\s=(evP p n,(n:Int))) (fun s=>((p.length:Int)-s.2).toNat) ⟨0,by omega,rfl⟩ fun s ⟨n,h1,h2⟩ => ?_;subst h2;unfold kE;refine .bifD (fun h=>?_) fun h => .pure ?_
 ·have hlen:=Au hp n;have hrow:=hp.2 n;simp only [] at h;refine KI.bind (P:=(· = evP p (n+1))) (.gdD ⟨by simp only [];omega,h⟩ ?_) fun v hv => .gdI (by simp only [];omega) (.pure ⟨⟨n+1,by omega,by rw [hv];rfl⟩,by simp only [];omega⟩);refine KI.loop (fun t=>∃ k:Nat,k<=(p.getD n default).length/\t=(evP p n++evR n (p.getD n default) k,(k:Int))) (fun t=>(((p.getD n default).length:Int)-t.2).toNat) ⟨0,by omega,by simp [evR]⟩ fun t ⟨k,k1,k2⟩ => ?_;subst k2;unfold kD;simp only [tnn];refine .bifD (fun hk=>?_) fun hk => .pure ?_
  ·have hl2:=Ar n (p.getD n default) k;refine KI.bind (P:=(· = evP p n++evR n (p.getD n default) (k+1))) (.gdD ⟨by omega,hk⟩ ?_) fun v hv => .gdI (by omega) (.pure ⟨⟨k+1,by omega,by rw [hv];rfl⟩,by simp only [];omega⟩);refine .bif (fun ho=>?_) fun ho => .pure ?_
   ·refine (Iu _).bind fun a ha=>(GD _).bind fun b hb => .gdC (by simp only [lla];omega) rfl (.pure ?_);have h4 : ¬ ((p.getD n default).getD k default).Op=4:=by simpa using ho
    subst ha hb;simp only [evR,evI,if_neg h4,List.append_assoc]
   have h4:((p.getD n default).getD k default).Op=4:=by simpa using ho
   simp only [evR,evI,if_pos h4,List.append_nil]
  have : k=(p.getD n default).length:=by omega
  subst this
  rfl
 have : n=p.length:=by simp only [] at h;omega
 subst this
 rfl
theorem yE {p:List (List KE)} (hp:Vs p):KI (cu p) (· = evs p):=by
 have hpl:=hp.1;unfold cu;refine KI.bind (P:=(· = ev0)) ?_ fun l hl=>KI.bind (P:=(· = evs p)) ?_ fun v hv => .pure hv
 ·refine KI.loop (fun s=>∃ n:Nat,n<=3/\s=(ev0.take n,(n:Int))) (fun s=>(3-s.2).toNat) ⟨0,by omega,rfl⟩ fun s ⟨n,h1,h2⟩ => ?_;subst h2;unfold jk;refine .bifD (fun h=>?_) fun h => .pure ?_
  ·match n,h1,h with
   | 0,_,_=>exact .gdC (by decide) rfl (.gdI (by decide) (.pure ⟨⟨1,by omega,rfl⟩,by decide⟩))
   | 1,_,_=>exact .gdC (by decide) rfl (.gdI (by decide) (.pure ⟨⟨2,by omega,rfl⟩,by decide⟩))
   | 2,_,_=>exact .gdC (by decide) rfl (.gdI (by decide) (.pure ⟨⟨3,by omega,rfl⟩,by decide⟩))
   | 3,_,h=>exact absurd h (by decide)
  have : n=3:=by simp only [] at h;omega
  subst this
  rfl
 subst hl;refine KI.loop (fun s=>∃ n:Nat,n<=p.length/\s=(evP p n,(n:Int))) (fun s=>((p.length:Int)-s.2).toNat) ⟨0,by omega,rfl⟩ fun s ⟨n,h1,h2⟩ => ?_;subst h2;unfold iL;refine .bifD (fun h=>?_) fun h => .pure ?_
 ·have hlen:=Au hp n;have hrow:=hp.2 n;simp only [] at h;refine KI.bind (P:=(· = evP p (n+1))) ?_ fun v hv => .gdI (by simp only [];omega) (.pure ⟨⟨n+1,by omega,by rw [hv];rfl⟩,by simp only [];omega⟩);refine KI.loop (fun t=>∃ k:Nat,k<=(p.getD n default).length/\t=(evP p n++evR n (p.getD n default) k,(k:Int))) (fun t=>(((p.getD n default).length:Int)-t.2).toNat) ⟨0,by omega,by simp [evR]⟩ fun t ⟨k,k1,k2⟩ => ?_;subst k2;unfold iK;simp only [tnn];refine .gdD ⟨by omega,h⟩ (.bifD (fun hk=>?_) fun hk => .pure ?_)
  ·have hl2:=Ar n (p.getD n default) k;refine KI.bind (P:=(· = evP p n++evR n (p.getD n default) (k+1))) (.gdD ⟨by omega,hk⟩ ?_) fun v hv => .gdI (by omega) (.pure ⟨⟨k+1,by omega,by rw [hv];rfl⟩,by simp only [];omega⟩);refine .bif (fun ho=>?_) fun ho => .pure ?_
   ·refine (Iv _).bind fun a ha=>(GF _).bind fun b hb => .gdC (by simp only [lla];omega) rfl (.pure ?_);have h4 : ¬ ((p.getD n default).getD k default).Op=4:=by simpa using ho
    subst ha hb;simp only [evR,evI,if_neg h4,List.append_assoc]
   have h4:((p.getD n default).getD k default).Op=4:=by simpa using ho
   simp only [evR,evI,if_pos h4,List.append_nil]
  have : k=(p.getD n default).length:=by omega
  subst this
  rfl
 have : n=p.length:=by simp only [] at h;omega
 subst this
 rfl
theorem pO {l:LI} {i:Nat} (h:i<l.length):l.getD i default∈l:=by
 rw [gdq,geq h];exact Ol _
section
variable {p:List (List KE)} {u:ZVa}
theorem zE (s:LI) (v:Int) (hs:s.length<=1048576):KI (bM s v) (· = decide (v∈s)):=by
 unfold bM;refine KI.bind (P:=fun r:Int=>0<=r↔v∈s) ?_ fun r hr => .pure (decide_eq_decide.2 hr);unfold aU;refine KI.sum (PS:=fun _=>v∉s) (PW:=fun r:Int=>0<=r↔v∈s) ?_ fun _ hn => .pure ⟨fun h=>absurd h (by decide),fun h=>absurd h hn⟩;refine KI.loop (fun i=>0<=i/\i<=(s.length:Int)/\∀ j:Nat,(j:Int)<i->s[j]? ≠ some v) (fun i=>((s.length:Int)-i).toNat) ⟨Int.le_refl _,by omega,fun j hj=>absurd hj (by omega)⟩ fun i ⟨h1,h2,h3⟩ => ?_;unfold dI;refine .bifD (fun hlt => .gdD ⟨h1,hlt⟩ ?_) fun hge => .pure fun hm=>?_
 ·have hi:i.toNat<s.length:=by omega
  have e:s.getD i.toNat default=s[i.toNat]:=by rw [gdq,geq hi];rfl
  rw [e];refine .bif (fun hb => .pure ⟨fun _=>?_,fun _=>h1⟩) fun hb => .gdI (by omega) (.pure ⟨⟨by omega,by omega,fun j hj=>?_⟩,by omega⟩)
  ·have : v=s[i.toNat]:=by simpa using hb
   rw [this];exact Ol _
  by_cases ej:j=i.toNat
  ·subst ej;rw [geq hi];intro he;have := osl he;rw [this] at hb;simp at hb
  exact h3 j (by omega)
 obtain ⟨j,hj,rfl⟩:=Ot hm;exact h3 j (by omega) (geq hj)
def Good (p:List (List KE)) (s:LI) (n:Nat):Prop:=∀ j,j<n->(0<=s.getD j default/\s.getD j default<(p.length:Int))/\(s.take j).count (s.getD j default)<(p.getD (s.getD j default).toNat default).length
theorem BV {s:LI} {i:Nat} (h:i<s.length) (v:Int):(s.take (i+1)).count v=(s.take i).count v+if s.getD i default=v then 1 else 0:=by
 have e:s.getD i default=s[i]:=by rw [gdq,geq h];rfl
 rw [<- OB h,List.count_append,List.count_singleton,e];simp only [beq_iff_eq]
end
section
variable {p:List (List KE)} {u:ZVa}
end
section
variable {α β W:Type} [Inhabited α]
theorem tP {a:List α} {f:α->β} {l0:List β} {step:List β×Int->Option ((List β×Int) ⊕ List β)} (hl:l0.length=a.length)
  (hs:∀ s,0<=s.2->s.2<(a.length:Int)->s.1.length=a.length->KI (step s) (· = .inl (s.1.set s.2.toNat (f (a.getD s.2.toNat default)),s.2+1)))
  (he:∀ s,¬ s.2<(a.length:Int)->step s=some (.inr s.1)):KI (loopO step (l0,0)) (· = a.map f):=by
 refine KI.loop (fun s=>0<=s.2/\s.2<=(a.length:Int)/\s.1.length=a.length/\∀ i:Nat,(i:Int)<s.2->s.1[i]? = (a.map f)[i]?) (fun s=>((a.length:Int)-s.2).toNat) ⟨Int.le_refl _,by simp only [];omega,hl,fun i hi=>absurd hi (by simp only [];omega)⟩ fun s ⟨h1,h2,h3,h4⟩ => ?_
 by_cases h:s.2<(a.length:Int)
 ·refine (hs s h1 h h3).mono ?_;rintro _ rfl;refine ⟨⟨by simp only [];omega,by simp only [];omega,by simp only [Ou];exact h3,fun i hi=>?_⟩,by simp only [];omega⟩;simp only [] at hi ⊢;have hn:s.2.toNat<a.length:=by omega
  rw [List.getElem?_set]
  by_cases e:s.2.toNat=i
  ·subst e;rw [if_pos rfl,if_pos (by omega),List.getElem?_map,geq hn,gdq,geq hn]
   rfl
  rw [if_neg e];exact h4 i (by omega)
 rw [he s h];refine .pure ?_;refine List.ext_getElem? fun i=>?_
 by_cases hi:(i:Int)<s.2
 ·exact h4 i hi
 rw [gen (by omega),gen (by rw [llm];omega)]
theorem zF {a b:List α} [DecidableEq α] (hl:a.length=b.length) {bad:W} {step:Int->Option (Int ⊕ (Unit ⊕ W))}
  (hs:∀ i:Int,0<=i->i<(a.length:Int)->KI (step i) (· = if a.getD i.toNat default=b.getD i.toNat default then .inl (i+1) else .inr (.inr bad)))
  (he:∀ i:Int,¬ i<(a.length:Int)->step i=some (.inr (.inl ()))):KI (loopO step 0) (· = if a=b then .inl () else .inr bad):=by
 refine KI.loop (fun i=>0<=i/\i<=(a.length:Int)/\∀ j:Nat,(j:Int)<i->a[j]? = b[j]?) (fun i=>((a.length:Int)-i).toNat) ⟨Int.le_refl _,by omega,fun i hi=>absurd hi (by omega)⟩ fun i ⟨h1,h2,h3⟩ => ?_
 by_cases h:i<(a.length:Int)
 ·refine (hs i h1 h).mono ?_;have ha:i.toNat<a.length:=by omega
  have hb:i.toNat<b.length:=by omega
  have ea:a.getD i.toNat default=a[i.toNat]:=by rw [gdq,geq ha];rfl
  have eb:b.getD i.toNat default=b[i.toNat]:=by rw [gdq,geq hb];rfl
  rintro _ rfl
  by_cases e:a.getD i.toNat default=b.getD i.toNat default
  ·rw [if_pos e];refine ⟨⟨by omega,by omega,fun j hj=>?_⟩,by omega⟩
   by_cases ej:j=i.toNat
   ·subst ej;rw [geq ha,geq hb,<- ea,<- eb,e]
   exact h3 j (by omega)
  rw [if_neg e];show _=_;rw [if_neg];rintro rfl;exact e rfl
 rw [he i h];refine .pure ?_;show _=_;rw [if_pos];refine List.ext_getElem? fun j=>?_
 by_cases hj:(j:Int)<i
 ·exact h3 j hj
 rw [gen (by omega),gen (by omega)]
end
instance:DecidableEq KE:=fun a b=>decidable_of_iff (a.Op=b.Op/\a.Loc=b.Loc/\a.Reg=b.Reg/\a.Val=b.Val) ⟨fun ⟨h1,h2,h3,h4⟩=>by cases a;cases b;simp only at h1 h2 h3 h4;subst h1 h2 h3 h4;rfl,fun h=>by subst h;exact ⟨rfl,rfl,rfl,rfl⟩⟩
def cvt (x:aj):KE:=⟨x.Op,x.Loc,x.Reg,x.Val⟩
theorem og {α:Type} [Inhabited α] {l:List α} {i:Int} (h0:0<=i) (h:i<(l.length:Int)):l.getD i.toNat default∈l:=by
 have hi:i.toNat<l.length:=by omega
 rw [gdq,geq hi];exact Ol _
theorem Dt {a:List aj} (h:a.length<=1048576):KI (jg a) (· = a.map cvt):=by
 unfold jg;refine .gdD (by omega) ?_;refine KI.bind (P:=(· = a.map cvt)) (tP (by simp) (fun s h1 h2 h3=>?_) fun s hs=>?_) fun v hv => .pure hv
 ·unfold fJ;refine .bifD (fun _ => .gdD ⟨h1,h2⟩ ?_) fun h=>absurd h2 h;exact KI.bind (P:=(· = cvt (a.getD s.2.toNat default))) (.pure rfl) fun v hv => .gdD ⟨h1,by omega⟩ (.gdI (by omega) (.pure (by rw [hv])))
 unfold fJ;rw [decide_eq_false hs]
 rfl
theorem BW {a:List (List aj)} (h:a.length<=1048576) (hr:∀ r∈a,r.length<=1048576):KI (bU a) (· = a.map (·.map cvt)):=by
 unfold bU;refine .gdD (by omega) ?_;refine KI.bind (P:=(· = a.map (·.map cvt))) (tP (by simp) (fun s h1 h2 h3=>?_) fun s hs=>?_) fun v hv => .pure hv
 ·unfold eG;refine .bifD (fun _ => .gdD ⟨h1,h2⟩ ?_) fun h=>absurd h2 h;exact (Dt (hr _ (og h1 h2))).bind fun v hv => .gdD ⟨h1,by omega⟩ (.gdI (by omega) (.pure (by rw [hv])))
 unfold eG;rw [decide_eq_false hs]
 rfl
theorem Du {a:LI} (h:a.length<=1048576):KI (jh a) (· = a):=by
 unfold jh;refine .gdD (by omega) ?_;refine KI.bind (P:=(· = a.map id)) (tP (by simp) (fun s h1 h2 h3=>?_) fun s hs=>?_) fun v hv => .pure (by rw [hv,List.map_id])
 ·unfold iw;refine .bifD (fun _ => .gdD ⟨h1,h2⟩ ?_) fun h=>absurd h2 h;exact .gdD ⟨h1,by omega⟩ (.gdI (by omega) (.pure rfl))
 unfold iw;rw [decide_eq_false hs]
 rfl
theorem Dv (a:LI) (h:a.length<=1048576):KI (jY a a) (· = true):=by
 unfold jY;refine .bif (fun h=>by simp at h) fun _=>?_;refine KI.sum (PS:=fun _=>True) (PW:=(· = true)) ((zF (a:=a) (b:=a) rfl (bad:=false) (fun i h1 h2=>?_) fun i hi=>?_).mono fun v hv=>by rw [hv,if_pos rfl];trivial) fun _ _ => .pure rfl
 ·unfold lJ;exact .bifD (fun _ => .gdD ⟨h1,h2⟩ (.gdD ⟨h1,h2⟩ (.bif (fun h=>by simp at h) fun _ => .gdI (by omega) (.pure (by rw [if_pos rfl]))))) fun h=>absurd h2 h
 unfold lJ;rw [decide_eq_false hi]
 rfl
theorem E5 (x:KE):kZ x x=some true:=by
 unfold kZ;simp
theorem Dw (a:List KE) (h:a.length<=1048576):KI (jX a a) (· = true):=by
 unfold jX;refine .bif (fun h=>by simp at h) fun _=>?_;refine KI.sum (PS:=fun _=>True) (PW:=(· = true)) ((zF (a:=a) (b:=a) rfl (bad:=false) (fun i h1 h2=>?_) fun i hi=>?_).mono fun v hv=>by rw [hv,if_pos rfl];trivial) fun _ _ => .pure rfl
 ·unfold jV;refine .bifD (fun _ => .gdD ⟨h1,h2⟩ (.gdD ⟨h1,h2⟩ ?_)) fun h=>absurd h2 h;exact (KI.of (E5 _) (P:=(· = true)) rfl).bind fun v hv => .bif (fun h=>by rw [hv] at h;simp at h) fun _ => .gdI (by omega) (.pure (by rw [if_pos rfl]))
 unfold jV;rw [decide_eq_false hi]
 rfl
theorem BX (a:List (List KE)) (h:a.length<=1048576) (hr:∀ r∈a,r.length<=1048576):KI (fw a a) (· = true):=by
 unfold fw;refine .bif (fun h=>by simp at h) fun _=>?_;refine KI.sum (PS:=fun _=>True) (PW:=(· = true)) ((zF (a:=a) (b:=a) rfl (bad:=false) (fun i h1 h2=>?_) fun i hi=>?_).mono fun v hv=>by rw [hv,if_pos rfl];trivial) fun _ _ => .pure rfl
 ·unfold iW;refine .bifD (fun _ => .gdD ⟨h1,h2⟩ (.gdD ⟨h1,h2⟩ ?_)) fun h=>absurd h2 h;exact (Dw _ (hr _ (og h1 h2))).bind fun v hv => .bif (fun h=>by rw [hv] at h;simp at h) fun _ => .gdI (by omega) (.pure (by rw [if_pos rfl]))
 unfold iW;rw [decide_eq_false hi]
 rfl
theorem szS (a:List aj) (left:Int) (hl:0<=left/\left<=1048576) (ha:(a.length:Int)<=9223372036854775807):KI (fZ a left) fun v=>(v<0/\left<(a.length:Int))\/(0<=v/\v=left-(a.length:Int)):=by
 unfold fZ;exact .gdI (by omega) (.bifD (fun h => .pure (.inl ⟨by decide,by omega⟩)) fun h => .pure (.inr ⟨by omega,rfl⟩))
section
variable {p:List (List KE)}
def base (p:List (List KE)) (t k:Nat):Nat:=(evP p t).length+(evR t (p.getD t default) k).length
theorem GG (t:Nat) (row:List KE):∀ {n m:Nat},n<=m->evR t row n <+: evR t row m:=by
 intro n m h
 induction h with
 | refl=>exact Ov _
 | step _ ih=>exact ih.trans (List.prefix_append _ _)
theorem Av (p:List (List KE)):∀ {n m:Nat},n<=m->evP p n <+: evP p m:=by
 intro n m h
 induction h with
 | refl=>exact Ov _
 | step _ ih=>exact ih.trans (List.prefix_append _ _)
theorem Bj {l m:List KH} (h:l <+: m) {i:Nat} (hi:i<l.length):m.getD i default=l.getD i default/\i<m.length:=by
 obtain ⟨r,rfl⟩:=h;refine ⟨?_,by rw [lla];omega⟩;rw [gdq,gdq,gal hi]
theorem Iw {t k:Nat} (ht:t<p.length) (hk:k<(p.getD t default).length) (ho : ¬ ((p.getD t default).getD k default).Op=4) :
  (evs p).getD (base p t k) default=⟨t,k,((p.getD t default).getD k default).Loc,rdX ((p.getD t default).getD k default),wrX ((p.getD t default).getD k default)⟩/\base p t k<(evs p).length:=by
 have h1:evP p t++(evR t (p.getD t default) k++[⟨t,k,((p.getD t default).getD k default).Loc,rdX ((p.getD t default).getD k default),wrX ((p.getD t default).getD k default)⟩]) <+: evs p:=by
  refine OC ?_ (Av p (show t+1<=p.length by omega));refine (List.prefix_append_right_inj _).2 ?_;refine OC ?_ (GG t (p.getD t default) (show k+1<=(p.getD t default).length by omega));show _ <+: evR t (p.getD t default) k++evI t k ((p.getD t default).getD k default);unfold evI;rw [if_neg ho];exact Ov _
 obtain ⟨e1,e2⟩:=Bj h1 (i:=base p t k) (by simp only [base,lla,OD];omega);refine ⟨e1.trans ?_,e2⟩;rw [gdq,base,gar (by omega),Nat.add_sub_cancel_left,gar (by omega),Nat.sub_self]
 rfl
def E8 (p:List (List KE)) (t k:Nat):LI:=if ((p.getD t default).getD k default).Op=4 then [] else [(base p t k:Int)]
def stT (s:LI) (j:Nat):Nat:=(s.getD j default).toNat
def stK (s:LI) (j:Nat):Nat:=(s.take j).count (s.getD j default)
def GH (p:List (List KE)) (s:LI):Nat->LI
 | 0=>[]
 | n+1=>GH p s n++E8 p (stT s n) (stK s n)
theorem kJ {p:List (List KE)} (h:Vs p):(evs p).length<=24:=by
 have h1:=Au h p.length;have h2:=h.1;unfold evs;omega
end
section
variable {p:List (List KE)}
theorem E9 (l:LL) (i:Nat):l.getD i default=l.getD i []:=rfl
theorem Dx {l:LL} {i j:Nat} {v:LI} (hi:i<l.length):(l.set i v).getD j []=if j=i then v else l.getD j []:=by
 rw [gdq,List.getElem?_set]
 by_cases e:i=j
 ·subst e;rw [if_pos rfl,if_pos hi,if_pos rfl]
  rfl
 rw [if_neg e,if_neg (Ne.symm e),gdq]
abbrev XS:=List Int×LL
def stX (p:List (List KE)) (st:XS) (n:Int):XS:=
  (if ((evs p).getD n.toNat default).Reads=true then st.1.set n.toNat ((st.2.getD ((evs p).getD n.toNat default).Loc.toNat []).getD (((st.2.getD ((evs p).getD n.toNat default).Loc.toNat []).length:Int)-1).toNat default) else st.1,
   st.2.set ((evs p).getD n.toNat default).Loc.toNat (if ((evs p).getD n.toNat default).aC=true then st.2.getD ((evs p).getD n.toNat default).Loc.toNat []++[n] else st.2.getD ((evs p).getD n.toNat default).Loc.toNat []))
def x0 (p:List (List KE)):XS:=(N9 (evs p).length (-1),[[0],[1],[2]])
def Kc (p:List (List KE)) (l:LI):XS:=l.foldl (stX p) (x0 p)
def OkN (p:List (List KE)) (n:Int):Prop:=(0<=n/\n<((evs p).length:Int))/\0<=((evs p).getD n.toNat default).Loc/\((evs p).getD n.toNat default).Loc<=2
structure InX (p:List (List KE)) (m:Nat) (st:XS):Prop where
 f:st.1.length=(evs p).length
 o:st.2.length=3
 r:∀ i:Nat,i<3->1<=(st.2.getD i []).length/\(st.2.getD i []).length<=m+1
theorem InX.x0:InX p 0 (x0 p):=⟨by simp [YtpkhamajimidnaaGreatDoor.x0],rfl,fun i hi=>by
 match i,hi with
 | 0,_=>exact ⟨NZ 1,NZ 1⟩
 | 1,_=>exact ⟨NZ 1,NZ 1⟩
 | 2,_=>exact ⟨NZ 1,NZ 1⟩⟩
theorem InX.step {m:Nat} {st:XS} {n:Int} (h:InX p m st) (hn:OkN p n):InX p (m+1) (stX p st n):=by
 obtain ⟨_,h2,h3⟩:=hn;unfold stX;refine ⟨?_,by simp only [Ou];exact h.o,fun i hi=>?_⟩
 ·simp only []
  split
  ·rw [Ou];exact h.f
  exact h.f
 simp only [];rw [Dx (by rw [h.o];omega)];have hr:=h.r ((evs p).getD n.toNat default).Loc.toNat (by omega);have hi':=h.r i hi
 split
 ·split
  ·simp only [lla,OD];omega
  omega
 omega
theorem InX.runs:∀ {l:LI} {m:Nat} {st:XS},InX p m st->(∀ n∈l,OkN p n)->InX p (m+l.length) (l.foldl (stX p) st)
 | [],_,_,h,_=>h
 | n::l,m,st,h,k=>by
  have := InX.runs (h.step (k n (Om))) fun x hx=>k x (OE _ hx);rw [llc,show m+(l.length+1)=m+1+l.length by omega];exact this
theorem InX.run {l:LI} (h:∀ n∈l,OkN p n):InX p l.length (Kc p l):=by
 have := InX.runs InX.x0 h
 rwa [Nat.zero_add] at this
theorem GI {s:LI} (hg:Good p s s.length) {j:Nat} (hj:j<s.length):stT s j<p.length/\((stT s j:Nat):Int)=s.getD j default/\stK s j<(p.getD (stT s j) default).length:=by
 obtain ⟨g1,g2⟩:=hg j hj;unfold stT stK;exact ⟨by omega,by omega,g2⟩
end
theorem BZ {a b:LI} (h:a.length<=4000000):KI (cG a b) (· = decide (a=b)):=by
 unfold cG;refine .bif (fun hn => .pure ?_) fun hn=>?_
 ·rw [decide_eq_false];rintro rfl;simp at hn
 have hl:a.length=b.length:=by
  have : (a.length:Int)=(b.length:Int):=by simpa using hn
  omega
 refine KI.sum (PS:=fun _=>a=b) (PW:=(· = decide (a=b))) ((zF hl (bad:=false) (fun i h1 h2=>?_) fun i hi=>?_).mono fun v hv=>?_) fun _ e => .pure (decide_eq_true e).symm
 ·unfold dJ;refine .bifD (fun _ => .gdD ⟨h1,h2⟩ (.gdD ⟨h1,by omega⟩ (.bif (fun hb => .pure ?_) fun hb => .gdI (by omega) (.pure ?_)))) fun h=>absurd h2 h
  ·rw [if_neg (by simpa using hb)]
  rw [if_pos (by simpa using hb)]
 ·unfold dJ;rw [decide_eq_false hi]
  rfl
 subst hv
 by_cases e:a=b
 ·rw [if_pos e];exact e
 rw [if_neg e];exact (decide_eq_false e).symm
def same (a b:KG):Bool:=decide (a.From=b.From)&&decide (a.Order=b.Order)
theorem Fa {α:Type} {Q:List α->Prop} (h0:Q []) (hs:∀ l a,Q l->Q (l++[a])) (l:List α):Q l:=by
 have key:∀ m:List α,Q m.reverse:=fun m=>by
  induction m with
  | nil=>exact h0
  | cons a m ih=>rw [List.reverse_cons];exact hs _ _ ih
 have h:=key l.reverse
 rwa [List.reverse_reverse] at h
section
variable {p:List (List KE)}
def ev (p:List (List KE)) (n:Int):KH:=(evs p).getD n.toNat default
def Wl (p:List (List KE)) (l:Int) (n:Int):Bool:=(ev p n).aC&&decide ((ev p n).Loc=l)
theorem Dy (t:Nat) (row:List KE):∀ (r j:Nat),j<(evR t row r).length->∃ k,k<r /\ ¬ (row.getD k default).Op=4/\j=(evR t row k).length
 | 0,j,h=>by simp [evR] at h
 | r+1,j,h=>by
  rcases Oa j (evR t row r).length with hj | hj
  ·obtain ⟨k,h1,h2,h3⟩:=Dy t row r j hj;exact ⟨k,by omega,h2,h3⟩
  simp only [evR,lla] at h;have h1:=Dr t r (row.getD r default);refine ⟨r,by omega,fun ho=>?_,by omega⟩;have : (evI t r (row.getD r default)).length=0:=by unfold evI;rw [if_pos ho];rfl
  omega
theorem Dz:∀ (m n:Nat),n<(evP p m).length->n<3\/∃ t k,t<m/\k<(p.getD t default).length /\ ¬ ((p.getD t default).getD k default).Op=4/\n=base p t k
 | 0,n,h => .inl h
 | m+1,n,h=>by
  rcases Oa n (evP p m).length with hn | hn
  ·rcases Dz m n hn with h1 | ⟨t,k,h1,h2,h3,h4⟩
   ·exact .inl h1
   exact .inr ⟨t,k,by omega,h2,h3,h4⟩
  simp only [evP,lla] at h;obtain ⟨k,h1,h2,h3⟩:=Dy m (p.getD m default) (p.getD m default).length (n-(evP p m).length) (by omega);exact .inr ⟨m,k,by omega,h1,h2,by unfold base;omega⟩
structure Isn (p:List (List KE)) (a b:Nat):Prop where
 t:a<p.length
 k:b<(p.getD a default).length
 o : ¬ ((p.getD a default).getD b default).Op=4
def ins (p:List (List KE)) (t k:Nat):KE:=(p.getD t default).getD k default
theorem Isn.ev {t k:Nat} (h:Isn p t k):ev p (base p t k:Int)=⟨t,k,(ins p t k).Loc,rdX (ins p t k),wrX (ins p t k)⟩/\base p t k<(evs p).length:=by
 have := Iw h.t h.k h.o;exact ⟨by unfold Go.Proofs.YtpkhamajimidnaaGreatDoor.ev;rw [tnn];exact this.1,this.2⟩
theorem wR {l:Nat} (hl:l<3):ev p (l:Int)=⟨-1,l,l,false,true⟩/\l<(evs p).length:=by
 obtain ⟨h1,h2⟩:=Bj (Av p (Nat.zero_le p.length)) (i:=l) (by exact hl);refine ⟨?_,h2⟩;unfold ev;rw [tnn];refine h1.trans ?_
 match l,hl with
 | 0,_=>rfl
 | 1,_=>rfl
 | 2,_=>rfl
theorem vK {n:Int} (h0:0<=n) (h:n<((evs p).length:Int)):n<3\/∃ t k,Isn p t k/\n=(base p t k:Int):=by
 rcases Dz p.length n.toNat (by show _<(evs p).length;omega) with h1 | ⟨t,k,h1,h2,h3,h4⟩
 ·exact .inl (by omega)
 exact .inr ⟨t,k,⟨h1,h2,h3⟩,by omega⟩
theorem Fb {t k t' k':Nat} (h:Isn p t k) (h':Isn p t' k') (e:base p t k=base p t' k'):t=t'/\k=k':=by
 have h1:=h.ev.1;rw [e,h'.ev.1] at h1;injection h1 with e1 e2;exact ⟨by omega,by omega⟩
structure OrdI (p:List (List KE)) (s:List Int) (m:Nat):Prop where
 mem:∀ n:Int,n∈GH p s m↔∃ t k:Nat,Isn p t k/\k<(s.take m).count (t:Int)/\n=(base p t k:Int)
 pw:(GH p s m).Pairwise fun i k=>i≠k/\((ev p i).Thread=(ev p k).Thread->(ev p i).Index<(ev p k).Index)
theorem OrdI.all {s:LI} (hg:Good p s s.length):∀ {m:Nat},m<=s.length->OrdI p s m
 | 0,_=>⟨fun n=>⟨fun h=>by simp [GH] at h,fun ⟨t,k,_,h,_⟩=>by simp at h⟩,by simp [GH]⟩
 | m+1,hm=>by
  have ih:=OrdI.all hg (m:=m) (by omega);obtain ⟨g1,g2,g3⟩:=GI hg (j:=m) (by omega);have hc:∀ v:Int,(s.take (m+1)).count v=(s.take m).count v+if s.getD m default=v then 1 else 0:=fun v=>BV (by omega) v;have hk:stK s m=(s.take m).count ((stT s m:Nat):Int):=by rw [g2];rfl
  have new:∀ n:Int,n∈E8 p (stT s m) (stK s m)↔Isn p (stT s m) (stK s m)/\n=(base p (stT s m) (stK s m):Int):=fun n=>by
   unfold E8
   split
   ·rename_i ho;exact ⟨fun h=>by simp at h,fun h=>absurd ho h.1.o⟩
   rename_i ho;rw [List.mem_singleton];exact ⟨fun h=>⟨⟨g1,g3,ho⟩,h⟩,fun h=>h.2⟩
  refine ⟨fun n=>?_,?_⟩
  ·simp only [GH,List.mem_append,new,ih.mem]
   constructor
   ·rintro (⟨t,k,h1,h2,h3⟩ | ⟨h1,h2⟩)
    ·exact ⟨t,k,h1,by rw [hc];omega,h3⟩
    exact ⟨_,_,h1,by rw [hc,if_pos g2.symm];omega,h2⟩
   rintro ⟨t,k,h1,h2,h3⟩;rw [hc] at h2
   by_cases e:s.getD m default=(t:Int)
   ·rw [if_pos e] at h2;have ht:stT s m=t:=by omega
    subst ht;rcases Oa k ((s.take m).count ((stT s m:Nat):Int)) with hlt | hge
    ·exact .inl ⟨_,k,h1,hlt,h3⟩
    have : k=stK s m:=by omega
    subst this;exact .inr ⟨h1,h3⟩
   rw [if_neg e] at h2;exact .inl ⟨t,k,h1,by omega,h3⟩
  simp only [GH];refine List.pairwise_append.2 ⟨ih.pw,?_,fun a ha b hb=>?_⟩
  ·unfold E8
   split <;> simp
  obtain ⟨t,k,h1,h2,rfl⟩:=(ih.mem a).1 ha;obtain ⟨h3,rfl⟩:=(new b).1 hb;have key:t=stT s m->k<stK s m:=fun e=>by rw [hk,<- e];exact h2
  refine ⟨fun e=>?_,fun e=>?_⟩
  ·obtain ⟨e1,e2⟩:=Fb h1 h3 (by omega);have := key e1;omega
  rw [h1.ev.1,h3.ev.1] at e ⊢;simp only at e ⊢;have := key (by omega);omega
theorem W3:∀ l:Nat,l<3->([0,1,2]:LI).filter (Wl p (l:Int))=[(l:Int)]:=fun l hl=>by
 have w:∀ j:Nat,j<3->Wl p (l:Int) (j:Int)=decide ((j:Int)=(l:Int)):=fun j hj=>by
  unfold Wl;rw [(wR (p:=p) hj).1];simp
 have w0:Wl p (l:Int) 0=decide ((0:Int)=(l:Int)):=w 0 (by omega);have w1:Wl p (l:Int) 1=decide ((1:Int)=(l:Int)):=w 1 (by omega);have w2:Wl p (l:Int) 2=decide ((2:Int)=(l:Int)):=w 2 (by omega)
 match l,hl with
 | 0,_=>
  have a0:Wl p (0:Int) 0=true:=w0;have a1:Wl p (0:Int) 1=false:=w1;have a2:Wl p (0:Int) 2=false:=w2;simp [a0,a1,a2]
 | 1,_=>
  have a0:Wl p (1:Int) 0=false:=w0;have a1:Wl p (1:Int) 1=true:=w1;have a2:Wl p (1:Int) 2=false:=w2;simp [a0,a1,a2]
 | 2,_=>
  have a0:Wl p (2:Int) 0=false:=w0;have a1:Wl p (2:Int) 1=false:=w1;have a2:Wl p (2:Int) 2=true:=w2;simp [a0,a1,a2]
end
section
variable {p:List (List KE)} {x:XS} {F:LI}
def dn (p:List (List KE)) (a:Nat->Nat) (n:Int):Bool:=decide ((ev p n).Thread<0)||decide ((ev p n).Index<(a (ev p n).Thread.toNat:Int))
def od (x:XS) (l:Int):LI:=x.2.getD l.toNat []
def plc (l:LI) (n:Int):Int:=if n∈l then (l.idxOf n:Int) else -1
def poB (p:List (List KE)) (i k:Int):Bool:=(decide ((ev p i).Thread=(ev p k).Thread)&&decide (0<=(ev p i).Thread))&&decide ((ev p i).Index<(ev p k).Index)
def rfB (p:List (List KE)) (x:XS) (i k:Int):Bool:=(ev p k).Reads&&decide (x.1.getD k.toNat default=i)
def coB (p:List (List KE)) (x:XS) (i k:Int):Bool:=(((ev p i).aC&&(ev p k).aC)&&decide ((ev p i).Loc=(ev p k).Loc))&&decide (plc (od x (ev p i).Loc) i<plc (od x (ev p i).Loc) k)
def frB (p:List (List KE)) (x:XS) (i k:Int):Bool:=((((ev p i).Reads&&(ev p k).aC)&&decide ((ev p i).Loc=(ev p k).Loc)) && !decide (i=k))&&decide (plc (od x (ev p i).Loc) (x.1.getD i.toNat default)<plc (od x (ev p i).Loc) k)
def bef (p:List (List KE)) (x:XS) (i k:Int):Bool:=((poB p i k||rfB p x i k)||coB p x i k)||frB p x i k
theorem uD (hp:PV p) {n:Int} (h0:0<=n) (h:n<((evs p).length:Int)):0<=(ev p n).Loc/\(ev p n).Loc<=2:=by
 rcases vK h0 h with h3 | ⟨t,k,h3,rfl⟩
 ·have := (wR (p:=p) (l:=n.toNat) (by omega)).1;rw [Og h0] at this;rw [this];simp only [];omega
 rw [h3.ev.1];have := hp.ins t k h3.t h3.k;exact ⟨this.1,this.2.1⟩
theorem vL {l:LI} {n:Int} (h:n∈l):l.getD (l.idxOf n) default=n:=by
 have := N7 h;rw [gdq,geq this];exact List.getElem_idxOf this
theorem GJ {l:LI} {n:Int} (h:n∈l):plc l n=(l.idxOf n:Int):=if_pos h
structure OdC (p:List (List KE)) (F L:List Int) (l:Int):Prop where
 nd:L.Nodup
 mem:∀ n,n∈L↔n∈F/\(ev p n).aC=true/\(ev p n).Loc=l
structure Cand (p:List (List KE)) (x:XS) (F:List Int):Prop where
 mem:∀ n:Int,n∈F↔0<=n/\n<((evs p).length:Int)
 flen:x.1.length=(evs p).length
 olen:x.2.length=3
 ods:∀ l:Int,0<=l/\l<=2->OdC p F (od x l) l
 hd:∀ l:Nat,l<3->∃ t,od x (l:Int)=(l:Int)::t
 rdc:∀ i:Int,i∈F->(ev p i).Reads=true->x.1.getD i.toNat default∈od x (ev p i).Loc
 ne:∀ i:Int,i∈F->(ev p i).Reads=true->x.1.getD i.toNat default≠i
 frN:∀ i:Int,i∈F->(ev p i).Reads=false->x.1.getD i.toNat default = -1
def FU (p:List (List KE)) (x:XS) (F:LI) (a:Nat->Nat) (n:Int):Prop:=∀ i:Int,i∈F->bef p x i n=true->dn p a i=true
def adv (a:Nat->Nat) (t:Nat):Nat->Nat:=fun u=>if u=t then a t+1 else a u
def Jz (p:List (List KE)) (t k:Nat):Prop:=((p.getD t default).getD k default).Op=4
instance (t k:Nat):Decidable (Jz p t k):=by unfold Jz;infer_instance
def StA (p:List (List KE)) (a:Nat->Nat):Prop:=∀ t,t<p.length->a t<=(p.getD t default).length
def nxt (p:List (List KE)) (a:Nat->Nat) (t:Nat):Option Int:=if Jz p t (a t) then none else some (base p t (a t):Int)
def zG (p:List (List KE)) (x:XS) (F:LI) (a:Nat->Nat) (t:Nat):Prop:=t<p.length/\a t<(p.getD t default).length/\∀ n,nxt p a t=some n->FU p x F a n
def Ke (p:List (List KE)) (a:Nat->Nat):Prop:=∀ t,t<p.length->a t=(p.getD t default).length
inductive Gr (p:List (List KE)) (x:XS) (F:List Int):(Nat->Nat)->List Int->Prop
 | nil {a:Nat->Nat} (h:Ke p a):Gr p x F a []
 | cons {a:Nat->Nat} {t:Nat} {r:LI} (h:zG p x F a t) (hl:∀ u,u<t -> ¬ zG p x F a u) (k:Gr p x F (adv a t) r):Gr p x F a ((t:Int)::r)
end
theorem Bl (a b:Int):(a==b)=decide (a=b):=by rw [Bool.eq_iff_iff];simp
theorem qp {n:Nat} (h:n<9223372036854775808):IntKind.wrap .i64 (n:Int)=(n:Int):=by
 simp only [IntKind.wrap];show (let m:=(n:Int) % 18446744073709551616;if true&&m>=(9223372036854775808:Int) then m-18446744073709551616 else m)=n;have : (n:Int) % 18446744073709551616=n:=by omega
 simp only [this];rw [if_neg];simp;omega
theorem nJ {a b:Nat} (ha:a<9223372036854775808) (hb:b<9223372036854775808):KA .i64 (a:Int) (b:Int)=((a|||b:Nat):Int):=by
 have hlt:(a|||b)<2 ^ 63:=Nat.or_lt_two_pow ha hb;show IntKind.wrap .i64 (((NW 64 (a:Int)|||NW 64 (b:Int)).toNat:Nat):Int)=_;have h1:(NW 64 (a:Int)).toNat=a:=by rw [Ob,Oc];omega
 have h2:(NW 64 (b:Int)).toNat=b:=by rw [Ob,Oc];omega
 rw [BitVec.toNat_or,h1,h2];exact qp hlt
theorem vM {k:Nat} (h:k<62):yx .i64 1 (k:Int)=((2 ^ k:Nat):Int):=by
 show IntKind.wrap .i64 (1*2 ^ (min (k:Int).toNat 64))=_;have hm:min (k:Int).toNat 64=k:=by omega
 rw [hm,Int.one_mul,show (2:Int) ^ k=((2 ^ k:Nat):Int) by simp];refine qp ?_;have := OG (a:=2) (by omega) (show k<63 by omega);omega
theorem FV {m k:Nat} (hm:m<9223372036854775808) (hk:k<62):cN .i64 (gz .i64 (m:Int) (k:Int)) 1=if m.testBit k then 1 else 0:=by
 have h1:gz .i64 (m:Int) (k:Int)=((m / 2 ^ k:Nat):Int):=by
  show (m:Int).fdiv (2 ^ (min (k:Int).toNat 64))=_;have hm:min (k:Int).toNat 64=k:=by omega
  rw [hm,show (2:Int) ^ k=((2 ^ k:Nat):Int) by simp,OH _ (Int.natCast_nonneg _)]
  rfl
 have hlt:m / 2 ^ k<9223372036854775808:=Nat.lt_of_le_of_lt (Nat.div_le_self _ _) hm;rw [h1];show IntKind.wrap .i64 (((NW 64 ((m / 2 ^ k:Nat):Int)&&&NW 64 (1:Int)).toNat:Nat):Int)=_;rw [Nat.testBit_eq_decide_div_mod_eq];generalize m / 2 ^ k=d at hlt;have h2:(NW 64 ((d:Nat):Int)).toNat=d:=by rw [Ob,Oc];omega
 rw [BitVec.toNat_and,h2,show (NW 64 (1:Int)).toNat=1 from rfl,Nat.and_one_is_mod]
 by_cases h:d % 2=1
 ·rw [h,if_pos (by simp)];exact qp (by omega)
 rw [show d % 2=0 by omega,if_neg (by simp)];exact qp (by omega)
def KJ (f:Nat->Bool):Nat->Nat
 | 0=>0
 | n+1=>if f n then KJ f n|||2 ^ n else KJ f n
theorem gY (f:Nat->Bool):∀ (n j:Nat),(KJ f n).testBit j=(decide (j<n)&&f j)
 | 0,j=>by simp [KJ]
 | n+1,j=>by
  have ih:=gY f n j;unfold KJ
  by_cases h:f n=true
  ·rw [if_pos h,Nat.testBit_or,ih,Nat.testBit_two_pow]
   by_cases e:n=j
   ·subst e;simp [h]
   rw [decide_eq_false e,Bool.or_false]
   congr 1
   exact decide_eq_decide.2 (by omega)
  rw [if_neg h,ih]
  by_cases e:n=j
  ·subst e;simp [Bool.eq_false_iff.2 h]
  congr 1
  exact decide_eq_decide.2 (by omega)
theorem Bm (f:Nat->Bool):∀ n:Nat,KJ f n<2 ^ n
 | 0=>by simp [KJ]
 | n+1=>by
  have ih:=Bm f n;have h2:(2:Nat) ^ (n+1)=2*2 ^ n:=by rw [Nat.pow_succ,Nat.mul_comm]
  unfold KJ
  split
  ·exact Nat.or_lt_two_pow (by omega) (by omega)
  omega
theorem xX (f g:Nat->Bool) (n:Nat):KJ f n|||KJ g n=KJ (fun j=>f j||g j) n:=by
 apply Ox;intro j;rw [Nat.testBit_or,gY,gY,gY]
 cases decide (j<n) <;> rfl
theorem aT {f:Nat->Bool} {n:Nat} (h:n<=62):KJ f n<9223372036854775808:=by
 have h1:=Bm f n;have h2:(2:Nat) ^ n<=2 ^ 62:=Nat.pow_le_pow_right (by omega) h;omega
theorem rW {l:LI} (hl:l.length<=4000000) (n:Int):KI (dE l n) (· = plc l n):=by
 unfold dE;refine KI.sum (PS:=fun _=>n∉l) (PW:=(· = plc l n)) ?_ fun _ hn => .pure (by unfold plc;rw [if_neg hn]);refine KI.loop (fun z=>∃ i:Nat,i<=l.length/\z=(i:Int)/\∀ j,j<i->l.getD j default≠n) (fun z=>((l.length:Int)-z).toNat) ⟨0,by omega,rfl,fun j hj=>by omega⟩ fun z ⟨i,h1,h2,h3⟩ => ?_;subst h2;unfold nU;refine .bifD (fun hk => .gdD ⟨by omega,hk⟩ (.bif (fun he => .pure ?_) fun he => .gdI (by omega) (.pure ⟨⟨i+1,by omega,rfl,fun j hj=>?_⟩,by omega⟩))) fun hk => .pure ?_
 ·simp only [tnn,beq_iff_eq] at he;have hi:i<l.length:=by omega
  have hm:n∈l:=by rw [<- he];exact pO hi
  unfold plc;rw [if_pos hm]
  congr 1
  have h4:=N7 hm;rcases Nat.lt_trichotomy i (l.idxOf n) with h5 | h5 | h5
  ·exfalso;have : l.idxOf n<=i:=by
    have e:l=l.take i++l.drop i:=(OI i l).symm;rw [e,List.idxOf_append]
    split
    ·have := N7 (by assumption:n∈l.take i);rw [Oh] at this;omega
    rw [OJ hi,show l[i]=n by rw [<- he,gdq,geq hi];rfl,OL,Oh];omega
   omega
  ·exact h5
  exact absurd (vL hm) (h3 _ h5)
 ·simp only [tnn,beq_eq_false_iff_ne] at he;rcases Oa j i with h | h
  ·exact h3 j h
  rw [show j=i by omega];exact he
 intro hm;have h4:=N7 hm;exact h3 (l.idxOf n) (by omega) (vL hm)
section
variable {p:List (List KE)} {x:XS} {F:LI}
structure XOk (p:List (List KE)) (x:XS):Prop where
 f:x.1.length=(evs p).length
 o:x.2.length=3
 r:∀ i:Nat,(x.2.getD i default).length<=4000000
theorem xY (hx:XOk p x) {l:Int} (hl:0<=l/\l<=2) (i k:Int):KI (cz ⟨x.1,x.2⟩ l i k) (· = decide (plc (od x l) i<plc (od x l) k)):=by
 unfold cz;refine .gdD ⟨hl.1,by simp only [];rw [hx.o];omega⟩ ((rW (hx.r _) i).bind fun v hv=>(rW (hx.r _) k).bind fun w hw => .pure ?_);subst hv hw
 rfl
theorem Fc (hp:PV p) (hx:XOk p x) {i k:Nat} (hi:i<(evs p).length) (hk:k<(evs p).length) (name:ByteArray) (f:Int->Int->Bool)
  (h:(name=⟨#[112,111]⟩/\f=poB p)\/(name=⟨#[114,102]⟩/\f=rfB p x)\/(name=⟨#[99,111]⟩/\f=coB p x)\/(name=⟨#[102,114]⟩/\f=frB p x)):KI (bY p ⟨x.1,x.2⟩ (evs p) name (i:Int) (k:Int)) (· = f i k):=by
 have ei:(evs p).getD i default=ev p (i:Int):=by unfold ev;rw [tnn]
 have ek:(evs p).getD k default=ev p (k:Int):=by unfold ev;rw [tnn]
 have hl:=uD hp (n:=(i:Int)) (by omega) (by omega);unfold bY;simp only [tnn,ei,ek];refine .gdD ⟨by omega,by omega⟩ (.gdD ⟨by omega,by omega⟩ (KI.bind (P:=(· = (decide ((ev p i).Thread=(ev p k).Thread)&&decide (0<=(ev p i).Thread)))) (.bif (fun h => .pure ?_) fun h => .pure ?_) fun same hs=>?_))
 ·rw [eq_of_beq h];simp
 ·rw [decide_eq_false (fun e=>by rw [e] at h;simp at h)];rfl
 subst hs;rcases h with ⟨rfl,rfl⟩ | ⟨rfl,rfl⟩ | ⟨rfl,rfl⟩ | ⟨rfl,rfl⟩
 ·refine KI.sumR ?_;refine .bif (fun _=>KI.bind (P:=(· = poB p i k)) (.bif (fun h => .pure ?_) fun h => .pure ?_) fun v hv => .pure (by rw [hv])) fun h=>absurd h (by decide)
  ·unfold poB;rw [h];rfl
  unfold poB;rw [h];rfl
 ·refine KI.sumR (.bif (fun h=>absurd h (by decide)) fun _ => .bif (fun h=>absurd h (by decide)) fun _ => .bif (fun h=>absurd h (by decide)) fun _ => .bif (fun _=>?_) fun h=>absurd h (by decide));refine KI.bind (P:=(· = rfB p x i k)) (.bif (fun h => .gdD ⟨by omega,by rw [hx.f];omega⟩ (.pure ?_)) fun h => .pure ?_) fun v hv => .pure (by rw [hv])
  ·unfold rfB;rw [h,NY];exact Bl _ _
  unfold rfB;rw [h];rfl
 ·refine KI.sumR (.bif (fun h=>absurd h (by decide)) fun _ => .bif (fun h=>absurd h (by decide)) fun _ => .bif (fun h=>absurd h (by decide)) fun _ => .bif (fun h=>absurd h (by decide)) fun _ => .bif (fun _=>?_) fun h=>absurd h (by decide));refine KI.bind (P:=(· = ((ev p i).aC&&(ev p k).aC))) (.bif (fun h => .pure (by rw [h];rfl)) fun h => .pure (by rw [h];rfl)) fun v1 h1=>?_;refine KI.bind (P:=(· = (((ev p i).aC&&(ev p k).aC)&&decide ((ev p i).Loc=(ev p k).Loc)))) (.bif (fun h => .pure (by rw [<- h1,h,NY];exact Bl _ _)) fun h => .pure (by rw [<- h1,h];rfl)) fun v2 h2=>?_;refine KI.bind (P:=(· = coB p x i k)) (.bif (fun h=>(xY hx hl _ _).bind fun v hv => .pure (by unfold coB;rw [<- h2,h,hv,NY])) fun h => .pure (by unfold coB;rw [<- h2,h,Oo])) fun v hv => .pure (by rw [hv])
 refine KI.sumR (.bif (fun h=>absurd h (by decide)) fun _ => .bif (fun h=>absurd h (by decide)) fun _ => .bif (fun h=>absurd h (by decide)) fun _ => .bif (fun h=>absurd h (by decide)) fun _ => .bif (fun h=>absurd h (by decide)) fun _ => .bif (fun _=>?_) fun h=>absurd h (by decide));refine KI.bind (P:=(· = frB p x i k)) (.bif (fun h1 => .bif (fun h2 => .bif (fun h3 => .bif (fun h4 => .gdD ⟨by omega,by rw [hx.f];omega⟩ ((xY hx hl _ _).bind fun v hv => .pure ?_)) fun h4 => .pure ?_) fun h3 => .pure ?_) fun h2 => .pure ?_) fun h1 => .pure ?_) fun v hv => .pure (by rw [hv])
 ·have h4 : ¬ (i:Int)=(k:Int):=by simpa using h4
  unfold frB;rw [h1,h2,decide_eq_true (eq_of_beq h3),decide_eq_false h4,hv];simp
 ·have h4:(i:Int)=(k:Int):=by simpa using h4
  unfold frB;rw [decide_eq_true h4];simp
 ·unfold frB;rw [decide_eq_false (fun e=>by rw [e] at h3;simp at h3)];simp
 ·unfold frB;rw [h2];simp
 unfold frB;rw [h1];simp
def yF (p:List (List KE)) (f:Int->Int->Bool) (n:Nat):LI:=(NV n).map fun (i:Nat)=>((KJ (fun k=>f (i:Int) k) (evs p).length:Nat):Int)
theorem B0 (f:Int->Int->Bool) (n:Nat):yF p f (n+1)=yF p f n++[((KJ (fun k=>f n k) (evs p).length:Nat):Int)]:=by
 unfold yF;rw [Oi,Od]
 rfl
theorem DC (f:Int->Int->Bool) (n:Nat):(yF p f n).length=n:=by simp [yF]
theorem wS (hp:PV p) (l:Int):KI (eY (evs p) l) (· = ((NV (evs p).length).map fun (i:Nat)=>(i:Int)).filter (Wl p l)):=by
 have hel:=kJ hp.vs;unfold eY;refine KI.bind (P:=(· = ((NV (evs p).length).map fun (i:Nat)=>(i:Int)).filter (Wl p l))) ?_ fun v hv => .pure hv;refine KI.loop (fun z=>∃ n:Nat,n<=(evs p).length/\z=(((NV n).map fun (i:Nat)=>(i:Int)).filter (Wl p l),(n:Int))) (fun z=>(((evs p).length:Int)-z.2).toNat) ⟨0,by omega,rfl⟩ fun z ⟨n,h1,h2⟩ => ?_;subst h2;unfold iM;have en:(evs p).getD n default=ev p (n:Int):=by unfold ev;rw [tnn]
 simp only [tnn,en];refine .bifD (fun hk=>?_) fun hk => .pure ?_
 ·have hsl:(((NV n).map fun (i:Nat)=>(i:Int)).filter (Wl p l)).length<=n:=Nat.le_trans (Oy _ _) (by simp);have hst:((NV (n+1)).map fun (i:Nat)=>(i:Int)).filter (Wl p l)=((NV n).map fun (i:Nat)=>(i:Int)).filter (Wl p l)++if Wl p l (n:Int) then [(n:Int)] else []:=by
   rw [Oi,Od,Oj]
   congr 1
   by_cases h:Wl p l (n:Int)=true
   ·rw [if_pos h];simp [h]
   rw [if_neg h];simp [h]
  refine KI.bind (P:=(· = ((NV (n+1)).map fun (i:Nat)=>(i:Int)).filter (Wl p l))) (.gdD ⟨by omega,hk⟩ (KI.bind (P:=(· = Wl p l (n:Int))) (.bif (fun h => .pure ?_) fun h => .pure ?_) fun b hb => .bif (fun h => .gd (dx (by omega) rfl) (.pure ?_)) fun h => .pure ?_)) fun v hv => .gdI (by omega) (.pure ⟨⟨n+1,by omega,by rw [hv];rfl⟩,by simp only [];omega⟩)
  ·unfold Wl;rw [h,NY];exact Bl _ _
  ·unfold Wl;rw [h];rfl
  ·rw [hst,<- hb,h];rfl
  rw [hst,<- hb,h];simp
 have : n=(evs p).length:=by omega
 rw [this]
theorem J0 (hp:PV p) (R:Cand p x F):XOk p x:=by
 refine ⟨R.flen,R.olen,fun i=>?_⟩;rcases Oa i 3 with hi | hi
 ·have O:=R.ods (i:Int) (by omega);have h2:=kJ hp.vs;have := List.Nodup.length_le_of_subset (l₂:=(NV (evs p).length).map fun (i:Nat)=>(i:Int)) O.nd fun n hn=>by
   obtain ⟨a,b⟩:=(R.mem n).1 ((O.mem n).1 hn).1;exact List.mem_map.2 ⟨n.toNat,Oe.2 (by omega),by omega⟩
  rw [llm,List.length_range] at this;have e:x.2.getD i default=od x (i:Int):=by unfold od;rw [tnn,E9]
  rw [e];omega
 rw [gdq,gen (by rw [R.olen];exact hi)];exact Nat.zero_le _
end
section
variable {p:List (List KE)} {x:XS} {F:LI}
def wrs (p:List (List KE)) (l:Int):LI:=((NV (evs p).length).map fun (i:Nat)=>(i:Int)).filter (Wl p l)
theorem yG (n:Int):n∈(NV (evs p).length).map (fun (i:Nat)=>(i:Int))↔0<=n/\n<((evs p).length:Int):=by
 rw [List.mem_map]
 constructor
 ·rintro ⟨a,h1,rfl⟩;have := Oe.1 h1;omega
 rintro ⟨h1,h2⟩;exact ⟨n.toNat,Oe.2 (by omega),by omega⟩
theorem Iy:((NV (evs p).length).map (fun (i:Nat)=>(i:Int))).Nodup:=List.pairwise_map.2 (List.nodup_range.imp fun h e=>h (by omega))
theorem yH {l:Nat} (hl:l<3):∃ t,wrs p (l:Int)=(l:Int)::t:=by
 have h3:3<=(evs p).length:=(Av p (Nat.zero_le p.length)).length_le;refine ⟨((Oz 3 ((evs p).length-3)).map fun (i:Nat)=>(i:Int)).filter (Wl p (l:Int)),?_⟩;have e:NV (evs p).length=[0,1,2]++Oz 3 ((evs p).length-3):=by
  rw [List.range_eq_range',show [0,1,2]=Oz 0 3 from rfl];have := List.range'_append (s:=0) (m:=3) (n:=(evs p).length-3) (step:=1);rw [show 3+((evs p).length-3)=(evs p).length by omega] at this;exact this.symm
 unfold wrs;rw [e,Od,Oj];have := W3 (p:=p) l hl;rw [show (([0,1,2]:List Nat).map fun (i:Nat)=>(i:Int))=([0,1,2]:LI) from rfl,this]
 rfl
theorem StA.adv {a:Nat->Nat} {t:Nat} (h:StA p a) (hk:a t<(p.getD t default).length):StA p (Go.Proofs.YtpkhamajimidnaaGreatDoor.adv a t):=fun u hu=>by
 unfold Go.Proofs.YtpkhamajimidnaaGreatDoor.adv
 by_cases e:u=t
 ·subst e;rw [if_pos rfl];omega
 rw [if_neg e];exact h u hu
end
section
variable {p:List (List KE)} {x:XS} {F:LI}
end
def LeO {α:Type} (x y:Option α):Prop:=∀ r,x=some r->y=some r
section
variable {α β S E:Type}
theorem LeO.refl (x:Option α):LeO x x:=fun _ h=>h
theorem LeO.bind {x y:Option α} {f g:α->Option β} (h:LeO x y) (k:∀ v,LeO (f v) (g v)):LeO (x.bind f) (y.bind g):=fun r hr=>by
 obtain ⟨v,e,hv⟩:=GA hr;rw [h v e];exact k v r hv
theorem LeO.sumK {x y:Option (S ⊕ E)} {f g:S->Option E} (h:LeO x y) (k:∀ v,LeO (f v) (g v)):LeO (Go.Proofs.YtpkhamajimidnaaGreatDoor.sumK x f) (Go.Proofs.YtpkhamajimidnaaGreatDoor.sumK y g):=fun r hr=>by
 cases hx:x with
 | none=>rw [hx] at hr;cases hr
 | some v=>
  rw [hx] at hr;rw [h v hx]
  cases v with
  | inl s=>exact k s r hr
  | inr w=>exact hr
theorem LeO.loopO {f g:S->Option (S ⊕ E)} (h:∀ s,LeO (f s) (g s)) (s:S):LeO (Go.Proofs.YtpkhamajimidnaaGreatDoor.loopO f s) (Go.Proofs.YtpkhamajimidnaaGreatDoor.loopO g s):=fun r hr=>by
 obtain ⟨n,hn⟩:=nR.1 hr;refine nR.2 ⟨n,?_⟩;clear hr
 induction n generalizing s with
 | zero=>cases hn
 | succ n ih=>
  simp only [tu] at hn ⊢
  cases hf:f s with
  | none=>rw [hf] at hn;cases hn
  | some z=>
   rw [hf] at hn;rw [h s z hf]
   cases z with
   | inl s'=>exact ih s' hn
   | inr e=>exact hn
end
section
variable {p:List (List KE)} {x:XS} {F:LI}
end
section
variable {p:List (List KE)} {x:XS} {F:LI}
end
section
variable {p:List (List KE)} {x:XS} {F:LI}
theorem Gr.congr {F':LI} (hF:∀ n:Int,n∈F↔n∈F') {a:Nat->Nat} {r:LI} (h:Gr p x F a r):Gr p x F' a r:=by
 have key:∀ {a:Nat->Nat} {t:Nat},zG p x F a t↔zG p x F' a t:=fun {a t}=>by
  unfold zG FU;refine ⟨fun h=>⟨h.1,h.2.1,fun n hn i hi hb=>h.2.2 n hn i ((hF i).2 hi) hb⟩,fun h=>⟨h.1,h.2.1,fun n hn i hi hb=>h.2.2 n hn i ((hF i).1 hi) hb⟩⟩
 induction h with
 | nil h=>exact .nil h
 | cons h hl _ ih=>exact .cons (key.1 h) (fun u hu hr=>hl u hu (key.2 hr)) ih
end
section
variable {p:List (List KE)} {x:XS} {F:LI}
end
section
variable {α β:Type}
end
theorem mh {α:Type} {f:Nat->Option α} {v:α} (n:Nat) (h:∀ m,n<m->KI (f m) (· = v)):KI (Ae f) (· = v):=KI.of (CX (n+1) fun m hm=>(h m hm).eq) rfl
section
variable {p:List (List KE)}
abbrev toI (p:List (List KE)):List (List Ins):=p.map fun r=>r.map ia
theorem zH (q:KH->Bool) (f:Ins->Bool) (h:∀ t k x,x.Op≠4->q ⟨t,k,x.Loc,rdX x,wrX x⟩=f (ia x)) (h4:∀ x:KE,x.Op=4->f (ia x)=false) (t:Nat) (row:List KE):∀ r:Nat,r<=row.length->((evR t row r).filter q).length=((row.take r).map ia).countP f
 | 0,_=>by simp [evR]
 | r+1,hr=>by
  have ih:=zH q f h h4 t row r (by omega);have e:row.getD r default=row[r]:=by rw [gdq,geq (by omega)];rfl
  rw [evR,Oj,lla,ih,<- OB (show r<row.length by omega),Od,List.countP_append,e]
  congr 1
  unfold evI
  by_cases ho:row[r].Op=4
  ·rw [if_pos ho];simp [h4 _ ho]
  rw [if_neg ho];have := h t r row[r] ho
  by_cases hf:f (ia row[r])=true
  ·rw [hf] at this;rw [List.filter_cons_of_pos (by rw [this])];simp [hf]
  have hf':f (ia row[r])=false:=by simpa using hf
  rw [hf'] at this;rw [List.filter_cons_of_neg (by rw [this];decide)];simp [hf']
theorem DD (q:KH->Bool) (f:Ins->Bool) (h:∀ (t k:Int) x,x.Op≠4->q ⟨t,k,x.Loc,rdX x,wrX x⟩=f (ia x)) (h4:∀ x:KE,x.Op=4->f (ia x)=false):((evs p).filter q).length=(ev0.filter q).length+oM f (toI p):=by
 have key:∀ n:Nat,n<=p.length->((evP p n).filter q).length=(ev0.filter q).length+oM f ((toI p).take n):=fun n=>by
  induction n with
  | zero=>intro _;simp [evP,oM]
  | succ n ih=>
   intro hn;have e:p.getD n default=p[n]:=by rw [gdq,geq (by omega)];rfl
   have hn':n<(toI p).length:=by rw [llm];omega
   rw [evP,Oj,lla,ih (by omega),zH q f (fun t k=>h t k) h4 n _ _ (NZ _),dD f (toI p) n hn',List.take_length,Nat.add_assoc,e]
   congr 2
   simp
 have := key p.length (NZ _);rw [show (toI p).take p.length=toI p from List.take_of_length_le (by simp)] at this;exact this
def gE (w:Nat->Nat) (e:KH):Nat:=if e.Reads=true then w e.Loc.toNat+1 else 1
end
section
variable {p:List (List KE)}
theorem Bn (hp:PV p) (l:Int):KI (fg (evs p) l) (· = wrs p l):=by
 have hel:=kJ hp.vs;unfold fg;refine KI.bind (P:=(· = wrs p l)) ?_ fun v hv => .pure hv;refine KI.loop (fun z=>∃ n:Nat,n<=(evs p).length/\z=(((NV n).map fun (i:Nat)=>(i:Int)).filter (Wl p l),(n:Int))) (fun z=>(((evs p).length:Int)-z.2).toNat) ⟨0,by omega,rfl⟩ fun z ⟨n,h1,h2⟩ => ?_;subst h2;unfold iQ;have en:(evs p).getD n default=ev p (n:Int):=by unfold ev;rw [tnn]
 simp only [tnn,en];refine .bifD (fun hk=>?_) fun hk => .pure ?_
 ·have hsl:(((NV n).map fun (i:Nat)=>(i:Int)).filter (Wl p l)).length<=n:=Nat.le_trans (Oy _ _) (by simp);have hst:((NV (n+1)).map fun (i:Nat)=>(i:Int)).filter (Wl p l)=((NV n).map fun (i:Nat)=>(i:Int)).filter (Wl p l)++if Wl p l (n:Int) then [(n:Int)] else []:=by
   rw [Oi,Od,Oj]
   congr 1
   by_cases h:Wl p l (n:Int)=true
   ·rw [if_pos h];simp [h]
   rw [if_neg h];simp [h]
  refine KI.bind (P:=(· = ((NV (n+1)).map fun (i:Nat)=>(i:Int)).filter (Wl p l))) (.gdD ⟨by omega,hk⟩ (KI.bind (P:=(· = Wl p l (n:Int))) (.bif (fun h => .pure ?_) fun h => .pure ?_) fun b hb => .bif (fun h => .gd (dx (by omega) rfl) (.pure ?_)) fun h => .pure ?_)) fun v hv => .gdI (by omega) (.pure ⟨⟨n+1,by omega,by rw [hv];rfl⟩,by simp only [];omega⟩)
  ·unfold Wl;rw [h,NY];exact Bl _ _
  ·unfold Wl;rw [h];rfl
  ·rw [hst,<- hb,h];rfl
  rw [hst,<- hb,h];simp
 have : n=(evs p).length:=by omega
 rw [this]
 rfl
theorem getD_in {α:Type} [Inhabited α] {l:List α} {i:Nat} (h:i<l.length):l.getD i default∈l:=by
 rw [gdq,geq h];exact Ol _
end
section
variable {p:List (List KE)}
end
section
variable {p:List (List KE)} {x:XS} {F F':LI}
def Kg (p:List (List KE)):LI:=(NV (evs p).length).map fun (i:Nat)=>(i:Int)
theorem Cand.congr (C:Cand p x F) (h:∀ n,n∈F'↔n∈F):Cand p x F':=
 ⟨fun n=>(h n).trans (C.mem n),C.flen,C.olen,fun l hl=>⟨(C.ods l hl).nd,fun n=>by rw [(C.ods l hl).mem,h]⟩,C.hd,fun i hi hr=>C.rdc i ((h i).1 hi) hr,fun i hi hr=>C.ne i ((h i).1 hi) hr,fun i hi hr=>C.frN i ((h i).1 hi) hr⟩
theorem FW (l:Int):(wrs p l).Nodup:=List.Pairwise.filter _ Iy
end
def tab (N:Nat) (g:Nat->Int):LI:=(NV N).map g
section
variable {N:Nat} {g h:Nat->Int}
theorem pQ:(tab N g).length=N:=by simp [tab]
theorem Aw {i:Nat} (hi:i<N):(tab N g).getD i default=g i:=by
 unfold tab;rw [gdq,List.getElem?_map,List.getElem?_range hi]
 rfl
theorem dz (e:∀ i,i<N->g i=h i):tab N g=tab N h:=List.map_congr_left fun i hi=>e i (Oe.1 hi)
theorem yI (i:Nat) (v:Int):(tab N g).set i v=tab N fun j=>if j=i then v else g j:=by
 apply List.ext_getElem
 ·simp [tab]
 intro j h1 h2;rw [List.getElem_set];simp only [tab,List.getElem_map,List.getElem_range]
 by_cases e:i=j
 ·subst e;simp
 rw [if_neg e,if_neg (Ne.symm e)]
theorem vN:N9 N (default:Int)=tab N fun _=>0:=by
 apply List.ext_getElem
 ·simp [tab]
 intro j h1 h2;simp only [tab,List.getElem_map,List.getElem_replicate]
 rfl
theorem vO:tab (N+1) g=tab N g++[g N]:=by
 unfold tab;rw [Oi,Od]
 rfl
end
theorem bR {f g:Nat->Bool}:∀ {n:Nat},(∀ k,k<n->f k=g k)->KJ f n=KJ g n
 | 0,_=>rfl
 | n+1,h=>by
  unfold KJ;rw [h n (by omega),bR fun k hk=>h k (by omega)]
theorem DF (f g:Nat->Bool) (n:Nat):KJ f n&&&KJ g n=KJ (fun j=>f j&&g j) n:=by
 apply Ox;intro j;rw [Nat.testBit_and,gY,gY,gY]
 cases decide (j<n) <;> rfl
theorem vP (n:Nat):KJ (fun _=>false) n=0:=by
 induction n with
 | zero=>rfl
 | succ n ih=>unfold KJ;simp [ih]
def KL (N:Nat) (f:Int->Int->Bool):LI:=tab N fun i=>((KJ (fun k=>f (i:Int) (k:Int)) N:Nat):Int)
section
variable {N:Nat} {f g:Int->Int->Bool}
theorem aO:(KL N f).length=N:=pQ
theorem fG {i:Nat} (h:i<N):(KL N f).getD i default=((KJ (fun k=>f (i:Int) (k:Int)) N:Nat):Int):=Aw h
theorem il (h:∀ i k:Nat,i<N->k<N->f i k=g i k):KL N f=KL N g:=dz fun i hi=>by rw [bR fun k hk=>h i k hi hk]
def P15 (n:Int) (is:Int->Int->Option Bool) (s6:(LI)×Int):((LI)×Int)->Option (((LI)×Int) ⊕ (LI)):=fun s14=>
 bif decide (s14.2<n) then
  N8 (
   N8 (is s6.2 s14.2) fun v19=>
   bif v19 then
    gd (decide (0<=s6.2/\s6.2<(s14.1.length:Int))) <|
    gd (decide (0<=s14.2)) <|
    some (s14.1.set s6.2.toNat (KA .i64 (s14.1.getD s6.2.toNat default) (yx .i64 (1:Int) s14.2)))
   else
    some s14.1
  ) fun s18=>
  gd (KC .i64 (s14.2+(1:Int))) <|
  some (.inl (s18,(s14.2+(1:Int))))
 else
  some (.inr s14.1)
def P7 (n:Int) (is:Int->Int->Option Bool):((LI)×Int)->Option (((LI)×Int) ⊕ (LI)):=fun s6=>
 bif decide (s6.2<n) then
  N8 (
   loopO (P15 n is s6) (s6.1,(0:Int))
  ) fun s10=>
  gd (KC .i64 (s6.2+(1:Int))) <|
  some (.inl (s10,(s6.2+(1:Int))))
 else
  some (.inr s6.1)
def FX (n:Int) (is:Int->Int->Option Bool):Option (LI):=
 gd (decide (0<=n/\n<=n/\n*((8:Nat):Int)<=140737488355328/\n<=140737488355328)) <|
 N8 (
  loopO (P7 n is) ((N9 n.toNat (default:Int)),(0:Int))
 ) fun s2=>
 some s2
def part (N:Nat) (f:Int->Int->Bool) (i k:Nat):LI:=tab N fun j=>if j<i then ((KJ (fun k=>f (j:Int) (k:Int)) N:Nat):Int) else if j=i then ((KJ (fun k=>f (j:Int) (k:Int)) k:Nat):Int) else 0
theorem zI (hN:N<=60) {is:Int->Int->Option Bool} (hi:∀ i k:Nat,i<N->k<N->KI (is (i:Int) (k:Int)) (· = f i k)):KI (FX (N:Int) is) (· = KL N f):=by
 unfold FX;refine .gdD ⟨by omega,by omega,by omega,by omega⟩ (KI.bind (P:=(· = KL N f)) ?_ fun v hv => .pure hv);have e0:N9 (N:Int).toNat (default:Int)=part N f 0 0:=by
  rw [tnn,vN];refine dz fun j _=>?_;rw [if_neg (by omega)]
  split <;> simp [KJ]
 rw [e0];refine KI.loop (fun z=>∃ i:Nat,i<=N/\z=(part N f i 0,(i:Int))) (fun z=>((N:Int)-z.2).toNat) ⟨0,by omega,rfl⟩ fun z ⟨i,h1,h2⟩ => ?_;subst h2;unfold P7;simp only [];refine .bifD (fun hk=>?_) fun hk => .pure ?_
 ·refine KI.bind (P:=(· = part N f (i+1) 0)) ?_ fun v hv => .gdI (by omega) (.pure ⟨⟨i+1,by omega,by rw [hv];rfl⟩,by simp only [];omega⟩);refine KI.loop (fun z=>∃ k:Nat,k<=N/\z=(part N f i k,(k:Int))) (fun z=>((N:Int)-z.2).toNat) ⟨0,by omega,rfl⟩ fun z ⟨k,k1,k2⟩ => ?_;subst k2;unfold P15;simp only [tnn];refine .bifD (fun hkk=>?_) fun hkk => .pure ?_
  ·refine KI.bind (P:=(· = part N f i (k+1))) ((hi i k (by omega) (by omega)).bind fun v hv => .bif (fun hb => .gdD ⟨by omega,by unfold part;rw [pQ];omega⟩ (.gdD (by omega) (.pure ?_))) fun hb => .pure ?_) fun v hv => .gdI (by omega) (.pure ⟨⟨k+1,by omega,by rw [hv];rfl⟩,by simp only [];omega⟩)
   ·unfold part;rw [Aw (by omega),if_neg (by omega),if_pos rfl,vM (by omega),nJ (aT (by omega)) (by have := OG (a:=2) (by omega) (show k<63 by omega);omega),yI];refine dz fun j _=>?_
    by_cases e:j=i
    ·subst e;rw [if_pos rfl,if_neg (by omega),if_pos rfl];rw [hv] at hb;rw [KJ,if_pos hb]
    rw [if_neg e,if_neg e,if_neg e]
   unfold part;refine dz fun j _=>?_
   by_cases e:j=i
   ·subst e;rw [if_neg (by omega),if_pos rfl,if_neg (by omega),if_pos rfl];rw [hv] at hb;rw [KJ,if_neg (by rw [hb];decide)]
   rw [if_neg e,if_neg e]
  have : k=N:=by omega
  subst this;unfold part;refine dz fun j _=>?_
  by_cases e:j=i
  ·subst e;rw [if_neg (by omega),if_pos rfl,if_pos (by omega)]
  by_cases e2:j<i
  ·rw [if_pos e2,if_pos (by omega)]
  rw [if_neg e2,if_neg e,if_neg (by omega)]
  split <;> simp [KJ]
 have : i=N:=by omega
 subst this;exact dz fun j hj=>by rw [if_pos hj]
theorem Iz (i:Nat):(KJ (fun k=>f (i:Int) (k:Int)) N)<2 ^ N:=Bm _ _
theorem GK {m n:Nat} (hm:m<2 ^ n) (hn:n<=62):gz .i64 (m:Int) (n:Int)=0:=by
 show (m:Int).fdiv (2 ^ (min (n:Int).toNat 64))=_;have hq:min (n:Int).toNat 64=n:=by omega
 rw [hq,show (2:Int) ^ n=((2 ^ n:Nat):Int) by simp,OH _ (Int.natCast_nonneg _)];have : m / 2 ^ n=0:=Nat.div_eq_of_lt hm;omega
theorem kK (hN:N<=16):KI (aZ (KL N f)) (· = true):=by
 unfold aZ aL aS;refine KI.bind (P:=(· = true)) (.bifD (fun _=>?_) fun h=>absurd (show ((KL N f).length:Int)<=16 by rw [aO];omega) h) fun v hv => .pure hv;refine KI.bind (P:=(· = false)) (KI.bind (P:=(· = -1)) (KI.sum (PS:=fun _=>True) (PW:=(· = (-1:Int))) ?_ fun _ _ => .pure rfl) fun v hv => .pure (by subst hv;rfl)) fun v hv => .pure (by subst hv;rfl);refine KI.loop (fun z=>∃ i:Nat,i<=N/\z=(i:Int)) (fun z=>((N:Int)-z).toNat) ⟨0,by omega,rfl⟩ fun z ⟨i,h1,h2⟩ => ?_;subst h2;unfold bf kF;simp only [aO,tnn];refine .bifD (fun hk=>?_) fun hk => .pure trivial;have hg:=fG (f:=f) (show i<N by omega);refine .gdD ⟨by omega,hk⟩ (KI.bind (P:=(· = false)) (KI.bind (P:=(· = false)) (.bifD (fun h=>absurd h (by rw [hg];omega)) fun _ => .gdD (by omega) (.pure (decide_eq_false (by rw [hg,GK (Iz i) (by omega)];omega)))) fun v hv => .pure hv) fun v hv => .bif (fun h=>by rw [hv] at h;cases h) fun _ => .gdI (by omega) (.pure ⟨⟨i+1,by omega,rfl⟩,by omega⟩))
theorem DG (hN:N<=16):KI (cf (KL N f) (KL N g)) (· = true):=by
 unfold cf;refine KI.bind (P:=(· = true)) (.bif (fun _=>(kK hN).bind fun v hv => .pure hv) fun h=>?_) fun v hv=>?_
 ·rw [aO,aO] at h;simp at h
 subst hv;exact KI.bind (P:=(· = true)) (.bif (fun _=>(kK hN).bind fun v hv => .pure hv) fun h=>by cases h) fun v hv => .pure hv
theorem iX (hN:N<=60) {i k:Nat} (hi:i<N) (hk:k<N):KI (bN (KL N f) (i:Int) (k:Int)) (· = f i k):=by
 unfold bN;simp only [aO,tnn];rw [fG hi,FV (aT (by omega)) (by omega),gY,decide_eq_true hk,NY];refine .gdD ⟨by omega,by omega⟩ (.gdD (by omega) (.pure ?_))
 cases f i k <;> rfl
theorem yJ {a b:Nat} (ha:a<9223372036854775808) (hb:b<9223372036854775808):cN .i64 (a:Int) (b:Int)=((a&&&b:Nat):Int):=by
 have hlt:(a&&&b)<2 ^ 63:=Nat.and_lt_two_pow a hb;show IntKind.wrap .i64 (((NW 64 (a:Int)&&&NW 64 (b:Int)).toNat:Nat):Int)=_;have h1:(NW 64 (a:Int)).toNat=a:=by rw [Ob,Oc];omega
 have h2:(NW 64 (b:Int)).toNat=b:=by rw [Ob,Oc];omega
 rw [BitVec.toNat_and,h1,h2];exact qp hlt
theorem zJ (f g:Nat->Bool) {n:Nat} (hn:n<=62):lw .i64 ((KJ f n:Nat):Int) ((KJ g n:Nat):Int)=((KJ (fun j=>f j && !g j) n:Nat):Int):=by
 have ha:=aT (f:=f) hn;have hb:=aT (f:=g) hn;show IntKind.wrap .i64 (((NW 64 ((KJ f n:Nat):Int) &&& ~~~ NW 64 ((KJ g n:Nat):Int)).toNat:Nat):Int)=_;have key:(NW 64 ((KJ f n:Nat):Int) &&& ~~~ NW 64 ((KJ g n:Nat):Int)).toNat=KJ (fun j=>f j && !g j) n:=by
  apply Ox;intro j;rw [gY];have h1:∀ m:Nat,m<9223372036854775808->∀ j,(NW 64 ((m:Nat):Int)).getLsbD j=m.testBit j:=fun m hm j=>by
   show (NW 64 ((m:Nat):Int)).toNat.testBit j=_;rw [Ob,Oc,Nat.mod_eq_of_lt (by omega)]
  show (NW 64 ((KJ f n:Nat):Int) &&& ~~~ NW 64 ((KJ g n:Nat):Int)).getLsbD j=_;rw [BitVec.getLsbD_and,BitVec.getLsbD_not,h1 _ ha,h1 _ hb,gY,gY]
  by_cases hj:j<n
  ·rw [decide_eq_true hj,decide_eq_true (show j<64 by omega)];simp
  rw [decide_eq_false hj];simp
 rw [key];exact qp (aT hn)
theorem yK (hN:N<=16) {by_:Int->Int->Option Int} {q:Int->Int->Bool} (step:((LI)×Int)->Option (((LI)×Int) ⊕ (LI)))
  (hs:∀ s8:(LI)×Int,step s8=bif decide (s8.2<((KL N f).length:Int)) then
   gd (decide (0<=s8.2/\s8.2<((KL N f).length:Int)))<|gd (decide (0<=s8.2/\s8.2<((KL N g).length:Int))) <|
   N8 (by_ ((KL N f).getD s8.2.toNat default) ((KL N g).getD s8.2.toNat default)) fun v14=>
   gd (decide (0<=s8.2/\s8.2<(s8.1.length:Int)))<|gd (KC .i64 (s8.2+(1:Int)))<|some (.inl ((s8.1.set s8.2.toNat v14),(s8.2+(1:Int)))) else some (.inr s8.1))
  (hb:∀ i:Nat,i<N->KI (by_ ((KJ (fun k=>f (i:Int) (k:Int)) N:Nat):Int) ((KJ (fun k=>g (i:Int) (k:Int)) N:Nat):Int)) (· = ((KJ (fun k=>q (i:Int) (k:Int)) N:Nat):Int))) :
  KI (N8 (cf (KL N f) (KL N g)) fun v1=>bif !v1 then some ([]:LI) else
   gd (decide (0<=((KL N f).length:Int)/\((KL N f).length:Int)<=((KL N f).length:Int)/\((KL N f).length:Int)*((8:Nat):Int)<=140737488355328/\((KL N f).length:Int)<=140737488355328)) <|
   N8 (loopO step ((N9 ((KL N f).length:Int).toNat (default:Int)),(0:Int))) fun s4=>some s4) (· = KL N q):=by
 refine (DG hN).bind fun v hv=>?_;subst hv;refine .bif (fun h=>by cases h) fun _=>?_;refine .gdD ⟨by omega,by omega,by rw [aO];omega,by rw [aO];omega⟩ (KI.bind (P:=(· = KL N q)) ?_ fun v hv => .pure hv);rw [aO,tnn,vN];refine KI.loop (fun z=>∃ i:Nat,i<=N/\z=(tab N (fun j=>if j<i then ((KJ (fun k=>q (j:Int) (k:Int)) N:Nat):Int) else 0),(i:Int))) (fun z=>((N:Int)-z.2).toNat) ⟨0,by omega,rfl⟩ fun z ⟨i,h1,h2⟩ => ?_;subst h2;rw [hs];simp only [aO,tnn];refine .bifD (fun hk=>?_) fun hk => .pure ?_
 ·rw [fG (by omega),fG (by omega)];refine .gdD ⟨by omega,hk⟩ (.gdD ⟨by omega,hk⟩ ((hb i (by omega)).bind fun v hv => .gdD ⟨by omega,by rw [pQ];omega⟩ (.gdI (by omega) (.pure ⟨⟨i+1,by omega,?_⟩,by simp only [];omega⟩))));rw [yI,hv];refine Prod.ext (dz fun j _=>?_) rfl
  by_cases e:j=i
  ·subst e;rw [if_pos rfl,if_pos (by omega)]
  rw [if_neg e]
  by_cases e2:j<i
  ·rw [if_pos e2,if_pos (by omega)]
  rw [if_neg e2,if_neg (by omega)]
 have : i=N:=by omega
 subst this;exact dz fun j hj=>by rw [if_pos hj]
theorem GL (hN:N<=16):KI (jw (KL N f) (KL N g)) (· = KL N fun i k=>f i k||g i k):=by
 unfold jw;refine KI.bind (P:=(· = KL N fun i k=>f i k||g i k)) (yK hN (by_:=kG) _ (fun _=>rfl) fun i hi => .pure ?_) fun v hv => .pure hv;rw [nJ (aT (by omega)) (aT (by omega)),xX]
theorem IA (hN:N<=16):KI (kY (KL N f) (KL N g)) (· = KL N fun i k=>f i k&&g i k):=by
 unfold kY;refine KI.bind (P:=(· = KL N fun i k=>f i k&&g i k)) (yK hN (by_:=lI) _ (fun _=>rfl) fun i hi => .pure ?_) fun v hv => .pure hv;rw [yJ (aT (by omega)) (aT (by omega)),DF]
theorem GM (hN:N<=16):KI (jy (KL N f) (KL N g)) (· = KL N fun i k=>f i k && !g i k):=by
 unfold jy;refine KI.bind (P:=(· = KL N fun i k=>f i k && !g i k)) (yK hN (by_:=kH) _ (fun _=>rfl) fun i hi => .pure ?_) fun v hv => .pure hv;rw [zJ _ _ (by omega)]
end
section
variable {p:List (List KE)} {x:XS} {F F':LI}
theorem DI (l:Int):(wrs p l).length<=(evs p).length:=by
 unfold wrs;have := Oy (Wl p l) ((NV (evs p).length).map fun (i:Nat)=>(i:Int));simpa using this
theorem DJ (l:Int):(wrs p l).Pairwise (· <= ·):=List.Pairwise.filter _ (List.pairwise_map.2 ((List.pairwise_lt_range).imp fun h=>by omega))
structure Chk (p:List (List KE)) (x:XS):Prop where
 f:x.1.length=(evs p).length
 o:x.2.length=3
 r:∀ n:Nat,n<(evs p).length->if (ev p (n:Int)).Reads=true then x.1.getD n default∈wrs p (ev p (n:Int)).Loc/\x.1.getD n default≠n else x.1.getD n default = -1
 ords:∀ l:Nat,l<3->(x.2.getD l default).Perm (wrs p (l:Int))/\(x.2.getD l default).getD 0 default=l
theorem Chk.cand (hp:PV p) (h:Chk p x):Cand p x (Kg p):=by
 have e:∀ l:Int,0<=l/\l<=2->(od x l).Perm (wrs p l):=fun l hl=>by
  have := (h.ords l.toNat (by omega)).1;rw [Og hl.1] at this;exact this
 refine ⟨fun n=>yG n,h.f,h.o,fun l hl=>⟨(e l hl).nodup_iff.2 (FW l),fun n=>?_⟩,fun l hl=>?_,fun i hi hr=>?_,fun i hi hr=>?_,fun i hi hr=>?_⟩
 ·rw [(e l hl).mem_iff];unfold wrs;rw [List.mem_filter];unfold Wl;rw [bae,dte];exact Iff.rfl
 ·obtain ⟨h1,h2⟩:=h.ords l hl;obtain ⟨t,ht⟩:=yH (p:=p) hl;have hlen:=h1.length_eq;rw [ht] at hlen;unfold od;rw [tnn]
  cases hq:x.2.getD l default with
  | nil=>rw [hq] at hlen;simp at hlen
  | cons a r=>
   rw [hq] at h2;have h2:a=(l:Int):=h2;exact ⟨r,by rw [<- h2]⟩
 ·obtain ⟨i0,i1⟩:=(yG i).1 hi;have := h.r i.toNat (by omega);rw [Og i0,if_pos hr] at this;exact (e _ (uD hp i0 i1)).mem_iff.2 this.1
 ·obtain ⟨i0,i1⟩:=(yG i).1 hi;have := h.r i.toNat (by omega);rw [Og i0,if_pos hr] at this;exact this.2
 obtain ⟨i0,i1⟩:=(yG i).1 hi;have := h.r i.toNat (by omega);rw [Og i0,if_neg (by rw [hr];decide)] at this;exact this
theorem DK:∀ {w l:LI},w.Nodup->l.length=w.length->(∀ n∈w,n∈l)->l.Perm w
 | [],l,_,h,_=>by rw [List.length_eq_zero_iff.1 h]
 | a::w,l,hn,h,hs=>by
  have ha:=hs a Om;have hp:=List.perm_cons_erase ha;obtain ⟨n1,n2⟩:=List.nodup_cons.1 hn;refine hp.trans (List.Perm.cons a (DK n2 ?_ fun n hm=>?_))
  ·have := hp.length_eq;rw [h] at this;simp only [llc] at this;omega
  exact (List.mem_erase_of_ne (by rintro rfl;exact n1 hm)).2 (hs n (OE _ hm))
theorem Ca {l w:LI} (hl:l.length<=4000000) (hw:w.Nodup) (hwl:w.length<=4000000) (h0:0<w.length):KI (kQ l w) fun b=>b=true↔l.Perm w/\l.getD 0 default=w.getD 0 default:=by
 unfold kQ;refine KI.sum (PS:=fun _=>l.length=w.length/\l.getD 0 default=w.getD 0 default) (PW:=fun b=>b=true↔l.Perm w/\l.getD 0 default=w.getD 0 default) (KI.bind (P:=fun b:Bool=>b=false↔l.length=w.length/\l.getD 0 default=w.getD 0 default) (.bif (fun h=>?_) fun h=>?_) fun v hv => .bif (fun h=>?_) fun h => .pure (hv.1 h)) fun _ ⟨e1,e2⟩ => ?_
 ·have h : ¬ (l.length:Int)=(w.length:Int):=by simpa using h
  exact .pure ⟨fun e=>(by cases e),fun e=>absurd e.1 (by omega)⟩
 ·have h:(l.length:Int)=(w.length:Int):=by simpa using h
  refine .gdD ⟨by omega,by omega⟩ (.gdD ⟨by omega,by omega⟩ (.pure ?_));show (l.getD 0 default != w.getD 0 default)=false↔_;rw [bne_eq_false_iff_eq];exact ⟨fun e=>⟨by omega,e⟩,fun e=>e.2⟩
 ·refine .pure ⟨fun e=>(by cases e),fun e=>?_⟩;have : v=false:=hv.2 ⟨e.1.length_eq,e.2⟩;rw [this] at h
  cases h
 refine KI.sum (PS:=fun _=>∀ n∈w,n∈l) (PW:=fun b=>b=true↔l.Perm w/\l.getD 0 default=w.getD 0 default) ?_ fun _ hs => .pure ⟨fun _=>⟨DK hw e1 hs,e2⟩,fun _=>rfl⟩;refine KI.loop (fun z=>∃ i:Nat,i<=w.length/\z=(i:Int)/\∀ j:Nat,j<i->w.getD j default∈l) (fun z=>((w.length:Int)-z).toNat) ⟨0,by omega,rfl,fun j hj=>absurd hj (by omega)⟩ fun z ⟨i,h1,h2,h3⟩ => ?_;subst h2;unfold mY;simp only [tnn];refine .bifD (fun hk => .gdD ⟨by omega,hk⟩ ((rW hl _).bind fun v hv => .bifD (fun hneg => .pure ?_) fun hpos => .gdI (by omega) (.pure ⟨⟨i+1,by omega,rfl,fun j hj=>?_⟩,by omega⟩))) fun hk => .pure fun n hn=>?_
 ·refine ⟨fun e=>(by cases e),fun e=>?_⟩;have hm:w.getD i default∈l:=e.1.mem_iff.2 (getD_in (by omega));rw [hv,GJ hm] at hneg;omega
 ·by_cases ej:j=i
  ·subst ej
   by_cases hm:w.getD j default∈l
   ·exact hm
   rw [hv] at hpos;unfold plc at hpos;rw [if_neg hm] at hpos;omega
  exact h3 j (by omega)
 obtain ⟨j,hj,rfl⟩:=Ot hn;have := h3 j (by omega);rw [gdq,geq hj] at this;exact this
theorem DL {l:LI} (n:Int):plc l n<0↔n∉l:=by
 unfold plc
 split
 ·rename_i h;exact ⟨fun e=>by omega,fun e=>absurd h e⟩
 rename_i h;exact ⟨fun _=>h,fun _=>by omega⟩
theorem IB (hp:PV p) (hv:da (p.map fun r=>r.map ia)=true) (hsz:p.length<=1048576/\total p<=1048576) (hx:∀ r∈x.2,r.length<=1048576):KI (eZ p ⟨x.1,x.2⟩) fun b=>b=true↔Chk p x:=by
 have hel:=kJ hp.vs;have hS:cn p=some (da (p.map fun r=>r.map ia)):=tz (decide_eq_true hsz);unfold eZ;refine (KI.of (P:=(· = true)) hS hv).bind fun v1 h1=>?_;subst h1;refine .bif (fun h=>by cases h) fun _=>(yE hp.vs).bind fun v3 h3=>?_;subst h3;refine KI.bind (P:=fun b:Bool=>b=false↔x.1.length=(evs p).length/\x.2.length=3) (.bif (fun h => .pure ⟨fun e=>(by cases e),fun e=>?_⟩) fun h => .pure ?_) fun v4 h4 => .bif (fun h => .pure ⟨fun e=>(by cases e),fun e=>?_⟩) fun h=>?_
 ·have h : ¬ (x.1.length:Int)=((evs p).length:Int):=by simpa using h
  omega
 ·have h:(x.1.length:Int)=((evs p).length:Int):=by simpa using h
  show ((x.2.length:Int) != 3)=false↔_;rw [bne_eq_false_iff_eq];exact ⟨fun e=>⟨by omega,by omega⟩,fun e=>by omega⟩
 ·have := h4.2 ⟨e.f,e.o⟩;rw [this] at h
  cases h
 obtain ⟨hf,ho⟩:=h4.1 h;refine KI.sum (PS:=fun _=>∀ n:Nat,n<(evs p).length->if (ev p (n:Int)).Reads=true then x.1.getD n default∈wrs p (ev p (n:Int)).Loc/\x.1.getD n default≠n else x.1.getD n default = -1) (PW:=fun b=>b=true↔Chk p x) ?_ fun _ hr=>?_
 ·refine KI.loop (fun z=>∃ n:Nat,n<=(evs p).length/\z=(n:Int)/\∀ j:Nat,j<n->if (ev p (j:Int)).Reads=true then x.1.getD j default∈wrs p (ev p (j:Int)).Loc/\x.1.getD j default≠j else x.1.getD j default = -1) (fun z=>(((evs p).length:Int)-z).toNat) ⟨0,by omega,rfl,fun j hj=>absurd hj (by omega)⟩ fun z ⟨n,n1,n2,n3⟩ => ?_;subst n2;unfold lN;have en:(evs p).getD n default=ev p (n:Int):=by unfold ev;rw [tnn]
  simp only [tnn,en];refine .bifD (fun hk=>?_) fun hk => .pure fun m hm=>n3 m (by omega);have hl:=uD hp (n:=(n:Int)) (by omega) hk;refine KI.sum (PS:=fun _=>if (ev p (n:Int)).Reads=true then x.1.getD n default∈wrs p (ev p (n:Int)).Loc/\x.1.getD n default≠n else x.1.getD n default = -1) ?_ fun _ hn => .gdI (by omega) (.pure ⟨⟨n+1,by omega,rfl,fun j hj=>?_⟩,by omega⟩)
  ·refine KI.sum (PS:=fun _=>(ev p (n:Int)).Reads=true->x.1.getD n default∈wrs p (ev p (n:Int)).Loc) ?_ fun _ hin=>?_
   ·refine KI.bind (P:=fun b:Bool=>b=false↔((ev p (n:Int)).Reads=true->x.1.getD n default∈wrs p (ev p (n:Int)).Loc)) (.gdD ⟨by omega,hk⟩ (.bif (fun hrd=>(wS hp _).bind fun v18 h18 => .gdD ⟨by omega,by omega⟩ ?_) fun hrd => .pure ⟨fun _ e=>(by rw [hrd] at e;cases e),fun _=>rfl⟩)) fun v hv => .bif (fun h => .pure ⟨fun e=>(by cases e),fun e=>?_⟩) fun h => .pure (hv.1 h)
    ·have h18:v18=wrs p (ev p (n:Int)).Loc:=h18;subst h18;refine (rW (by have := DI (p:=p) (ev p (n:Int)).Loc;omega) _).bind fun v20 h20 => .pure ?_;rw [decide_eq_false_iff_not,h20,DL];exact ⟨fun e _=>Decidable.not_not.1 e,fun e=>Decidable.not_not.2 (e hrd)⟩
    have := e.r n (by omega);have h0:v=false:=hv.2 fun hrd=>by
     rw [if_pos hrd] at this;exact this.1
    rw [h0] at h
    cases h
   refine .gdD ⟨by omega,hk⟩ (KI.bind (P:=fun b:Bool=>b=false↔((ev p (n:Int)).Reads=false->x.1.getD n default = -1)) (.bif (fun hrd => .gdD ⟨by omega,by omega⟩ (.pure ?_)) fun hrd => .pure ⟨fun _ e=>by simp [e] at hrd,fun _=>rfl⟩) fun v23 h23=>?_)
   ·have hrd:(ev p (n:Int)).Reads=false:=by simpa using hrd
    show (x.1.getD n default != -1)=false↔_;rw [bne_eq_false_iff_eq];exact ⟨fun e _=>e,fun e=>e hrd⟩
   refine KI.bind (P:=fun b:Bool=>b=false↔v23=false/\x.1.getD n default≠n) (.bif (fun h => .pure ⟨fun e=>(by cases e),fun e=>by rw [h] at e;exact absurd e.1 (by decide)⟩) fun h => .gdD ⟨by omega,by omega⟩ (.pure ?_)) fun v26 h26 => .bif (fun h => .pure ⟨fun e=>(by cases e),fun e=>?_⟩) fun h => .pure ?_
   ·show (x.1.getD n default==(n:Int))=false↔_;rw [beq_eq_false_iff_ne];exact ⟨fun e=>⟨h,e⟩,fun e=>e.2⟩
   ·have hc:=e.r n (by omega);have h0:v26=false:=h26.2 (by
     cases hrd:(ev p (n:Int)).Reads with
     | true=>
      rw [if_pos hrd] at hc;exact ⟨h23.2 fun e=>(by rw [hrd] at e;cases e),hc.2⟩
     | false=>
      rw [if_neg (by rw [hrd];decide)] at hc;exact ⟨h23.2 fun _=>hc,by rw [hc];omega⟩)
    rw [h0] at h
    cases h
   obtain ⟨g1,g2⟩:=h26.1 h;have g3:=h23.1 g1;have key:if (ev p (n:Int)).Reads=true then x.1.getD n default∈wrs p (ev p (n:Int)).Loc/\x.1.getD n default≠n else x.1.getD n default = -1:=by
    by_cases hrd:(ev p (n:Int)).Reads=true
    ·rw [if_pos hrd];exact ⟨hin hrd,g2⟩
    rw [if_neg hrd];exact g3 (by simpa using hrd)
   exact key
  by_cases ej:j=n
  ·subst ej;exact hn
  exact n3 j (by omega)
 refine KI.sum (PS:=fun _=>∀ l:Nat,l<3->(x.2.getD l default).Perm (wrs p (l:Int))/\(x.2.getD l default).getD 0 default=l) (PW:=fun b=>b=true↔Chk p x) ?_ fun _ hod => .pure ⟨fun _=>⟨hf,ho,hr,hod⟩,fun _=>rfl⟩;refine KI.loop (fun z=>∃ n:Nat,n<=3/\z=(n:Int)/\∀ l:Nat,l<n->(x.2.getD l default).Perm (wrs p (l:Int))/\(x.2.getD l default).getD 0 default=l) (fun z=>(3-z).toNat) ⟨0,by omega,rfl,fun l hl=>absurd hl (by omega)⟩ fun z ⟨n,n1,n2,n3⟩ => ?_;subst n2;unfold lQ;simp only [tnn];refine .bifD (fun hk => .gdD ⟨by omega,by omega⟩ ((wS hp _).bind fun v38 h38=>?_)) fun hk => .pure fun l hl=>n3 l (by omega);have h38:v38=wrs p (n:Int):=h38;subst h38;obtain ⟨t,ht⟩:=yH (p:=p) (l:=n) (by omega);have hwl:=DI (p:=p) (n:Int);refine (Ca (l:=x.2.getD n default) (by have := hx _ (getD_in (show n<x.2.length by omega));omega) (FW _) (by omega) (by rw [ht];simp)).bind fun v39 h39 => .bif (fun h => .pure ⟨fun e=>(by cases e),fun e=>?_⟩) fun h => .gdI (by omega) (.pure ⟨⟨n+1,by omega,rfl,fun l hl=>?_⟩,by omega⟩)
 ·obtain ⟨g1,g2⟩:=e.ords n (by omega);have : v39=true:=h39.2 ⟨g1,by rw [g2,ht];rfl⟩;rw [this] at h
  cases h
 by_cases el:l=n
 ·subst el;obtain ⟨g1,g2⟩:=h39.1 (by simpa using h);exact ⟨g1,by rw [g2,ht];rfl⟩
 exact n3 l (by omega)
theorem DN:∀ {l k:LI},l.Perm k->l.Pairwise (· <= ·)->k.Pairwise (· <= ·)->l=k
 | [],k,h,_,_=>h.nil_eq
 | a::l,[],h,_,_=>absurd h.length_eq (by simp)
 | a::l,b::k,h,h1,h2=>by
  have hab:a=b:=by
   rcases OA.1 (h.subset (Om)) with e | e
   ·exact e
   rcases OA.1 (h.symm.subset (Om)) with e2 | e2
   ·exact e2.symm
   have := (Oq.1 h1).1 b e2;have := (Oq.1 h2).1 a e;omega
  subst hab;rw [DN (List.perm_cons a |>.1 h) (Oq.1 h1).2 (Oq.1 h2).2]
theorem DR {l w:LI} (hw:w.Pairwise (· <= ·)):EY l=w↔l.Perm w:=
 ⟨fun e=>by rw [<- e];exact (mI l).symm,fun h=>DN ((mI l).trans h) (Aq l) hw⟩
theorem tQ {l:LI} (h:l.length<=4000000):KI (aY l) (· = l):=by
 unfold aY
 cases l with
 | nil=>exact .of (v:=[]) (by show nilK true (some ([]:LI)) (some [])=some [];unfold nilK;exact if_pos rfl) rfl
 | cons a l=>exact (KI.gd (dx (by simp at h ⊢;omega) rfl) (.pure (by simp)):KI (gd (ja (([]:LI).length+(a::l).length) 8) (some (([]:LI)++a::l))) (· = a::l))
theorem IC (hp:PV p) (hv:da (p.map fun r=>r.map ia)=true) (hsz:p.length<=1048576/\total p<=1048576) (hx:∀ r∈x.2,r.length<=1048576):KI (fo p ⟨x.1,x.2⟩) fun b=>b=true↔Chk p x:=by
 have hel:=kJ hp.vs;have hS:cm p=some (da (p.map fun r=>r.map ia)):=tz (decide_eq_true hsz);unfold fo;refine (KI.of (P:=(· = true)) hS hv).bind fun v1 h1=>?_;subst h1;refine .bif (fun h=>by cases h) fun _=>(yD hp.vs).bind fun v3 h3=>?_;subst h3;refine KI.bind (P:=fun b:Bool=>b=false↔x.1.length=(evs p).length/\x.2.length=3) (.bif (fun h => .pure ⟨fun e=>(by cases e),fun e=>?_⟩) fun h => .pure ?_) fun v4 h4 => .bif (fun h => .pure ⟨fun e=>(by cases e),fun e=>?_⟩) fun h=>?_
 ·have h : ¬ (x.1.length:Int)=((evs p).length:Int):=by simpa using h
  omega
 ·have h:(x.1.length:Int)=((evs p).length:Int):=by simpa using h
  show ((x.2.length:Int) != 3)=false↔_;rw [bne_eq_false_iff_eq];exact ⟨fun e=>⟨by omega,by omega⟩,fun e=>by omega⟩
 ·have := h4.2 ⟨e.f,e.o⟩;rw [this] at h
  cases h
 obtain ⟨hf,ho⟩:=h4.1 h;refine KI.sum (PS:=fun _=>∀ n:Nat,n<(evs p).length->if (ev p (n:Int)).Reads=true then x.1.getD n default∈wrs p (ev p (n:Int)).Loc/\x.1.getD n default≠n else x.1.getD n default = -1) (PW:=fun b=>b=true↔Chk p x) ?_ fun _ hr=>?_
 ·refine KI.loop (fun z=>∃ n:Nat,n<=(evs p).length/\z=(n:Int)/\∀ j:Nat,j<n->if (ev p (j:Int)).Reads=true then x.1.getD j default∈wrs p (ev p (j:Int)).Loc/\x.1.getD j default≠j else x.1.getD j default = -1) (fun z=>(((evs p).length:Int)-z).toNat) ⟨0,by omega,rfl,fun j hj=>absurd hj (by omega)⟩ fun z ⟨n,n1,n2,n3⟩ => ?_;subst n2;unfold lV;have en:(evs p).getD n default=ev p (n:Int):=by unfold ev;rw [tnn]
  simp only [tnn,en];refine .bifD (fun hk => .gdD ⟨by omega,hk⟩ (.gdD ⟨by omega,by omega⟩ ?_)) fun hk => .pure fun m hm=>n3 m (by omega);have hl:=uD hp (n:=(n:Int)) (by omega) hk;refine KI.bind (P:=fun b:Bool=>b=false↔((ev p (n:Int)).Reads=false->x.1.getD n default = -1)) (.bif (fun hrd => .pure ?_) fun hrd => .pure ⟨fun _ e=>(by simp [e] at hrd),fun _=>rfl⟩) fun s15 h15=>?_
  ·have hrd:(ev p (n:Int)).Reads=false:=by simpa using hrd
   show (x.1.getD n default != -1)=false↔_;rw [bne_eq_false_iff_eq];exact ⟨fun e _=>e,fun e=>e hrd⟩
  refine KI.bind (P:=fun b:Bool=>b=false↔if (ev p (n:Int)).Reads=true then x.1.getD n default∈wrs p (ev p (n:Int)).Loc/\x.1.getD n default≠n else x.1.getD n default = -1) ?_ fun s17 h17 => .bif (fun h => .pure ⟨fun e=>(by cases e),fun e=>?_⟩) fun h => .gdI (by omega) (.pure ⟨⟨n+1,by omega,rfl,fun j hj=>?_⟩,by omega⟩)
  ·refine .bif (fun h => .pure ⟨fun e=>(by cases e),fun e=>?_⟩) fun h=>?_
   ·have h0:s15=false:=h15.2 fun hrd=>by
     rw [if_neg (by rw [hrd];decide)] at e;exact e
    rw [h0] at h
    cases h
   refine KI.bind (P:=fun b:Bool=>b=false↔if (ev p (n:Int)).Reads=true then x.1.getD n default∈wrs p (ev p (n:Int)).Loc/\x.1.getD n default≠n else x.1.getD n default = -1) (.bif (fun hrd=>?_) fun hrd => .pure ⟨fun _=>by rw [if_neg (by rw [hrd];decide)];exact h15.1 h hrd,fun _=>rfl⟩) fun v hv => .pure hv;refine KI.bind (P:=fun b:Bool=>b=false↔x.1.getD n default∈wrs p (ev p (n:Int)).Loc/\x.1.getD n default≠n) (.bif (fun he => .pure ⟨fun e=>(by cases e),fun e=>?_⟩) fun he=>(Bn hp _).bind fun v23 h23=>(zE _ _ (by rw [h23];have := DI (p:=p) (ev p (n:Int)).Loc;omega)).bind fun v24 h24 => .pure ?_) fun v hv => .pure (by rw [if_pos hrd];exact hv)
   ·have he:x.1.getD n default=n:=by simpa using he
    exact absurd he e.2
   have he:x.1.getD n default≠n:=by simpa using he
   subst h23;rw [h24];show (!decide (x.1.getD n default∈wrs p (ev p (n:Int)).Loc))=false↔_;rw [Bool.not_eq_false',dte];exact ⟨fun e=>⟨e,he⟩,fun e=>e.1⟩
  ·have h0:s17=false:=h17.2 (e.r n (by omega));rw [h0] at h
   cases h
  by_cases ej:j=n
  ·subst ej;exact h17.1 h
  exact n3 j (by omega)
 refine KI.sum (PS:=fun _=>∀ l:Nat,l<3->(x.2.getD l default).Perm (wrs p (l:Int))/\(x.2.getD l default).getD 0 default=l) (PW:=fun b=>b=true↔Chk p x) ?_ fun _ hod => .pure ⟨fun _=>⟨hf,ho,hr,hod⟩,fun _=>rfl⟩;refine KI.loop (fun z=>∃ n:Nat,n<=3/\z=(n:Int)/\∀ l:Nat,l<n->(x.2.getD l default).Perm (wrs p (l:Int))/\(x.2.getD l default).getD 0 default=l) (fun z=>(3-z).toNat) ⟨0,by omega,rfl,fun l hl=>absurd hl (by omega)⟩ fun z ⟨n,n1,n2,n3⟩ => ?_;subst n2;unfold lW;simp only [tnn];refine .bifD (fun hk => .gdD ⟨by omega,by omega⟩ ?_) fun hk => .pure fun l hl=>n3 l (by omega);have hrl:=hx _ (getD_in (show n<x.2.length by omega));refine (tQ (l:=x.2.getD n default) (by omega)).bind fun v34 h34=>?_;subst h34;refine KI.bind (P:=(· = EY (x.2.getD n default))) (.gdD (by omega) (.pure rfl)) fun v38 h38=>(Bn hp _).bind fun v39 h39=>?_;subst h38 h39;have hsl:(EY (x.2.getD n default)).length=(x.2.getD n default).length:=(mI _).length_eq;refine (BZ (by omega)).bind fun v40 h40=>?_;subst h40;obtain ⟨t,ht⟩:=yH (p:=p) (l:=n) (by omega);refine KI.bind (P:=fun b:Bool=>b=false↔(x.2.getD n default).Perm (wrs p (n:Int))/\(x.2.getD n default).getD 0 default=n) (.bif (fun h => .pure ⟨fun e=>(by cases e),fun e=>?_⟩) fun h=>?_) fun s41 h41 => .bif (fun h => .pure ⟨fun e=>(by cases e),fun e=>?_⟩) fun h => .gdI (by omega) (.pure ⟨⟨n+1,by omega,rfl,fun l hl=>?_⟩,by omega⟩)
 ·rw [decide_eq_true ((DR (DJ _)).2 e.1)] at h
  cases h
 ·have hp2:(x.2.getD n default).Perm (wrs p (n:Int)):=(DR (DJ _)).1 (by simpa using h);have hpos:0<(x.2.getD n default).length:=by rw [hp2.length_eq,ht];simp
  refine .gdD ⟨by omega,by show (0:Int)<((x.2.getD n default).length:Int);omega⟩ (.pure ?_);show ((x.2.getD n default).getD 0 default != (n:Int))=false↔_;rw [bne_eq_false_iff_eq];exact ⟨fun e=>⟨hp2,e⟩,fun e=>e.2⟩
 ·have h0:s41=false:=h41.2 (e.ords n (by omega));rw [h0] at h
  cases h
 by_cases el:l=n
 ·subst el;exact h41.1 h
 exact n3 l (by omega)
end
section
variable {N:Nat} {f g:Int->Int->Bool}
theorem Ay (i:Nat) (h:Int->Int->Bool) (hi:∀ j k:Nat,j<N->k<N->h j k=if j=i then g i k else f j k):(KL N f).set i ((KJ (fun k=>g (i:Int) (k:Int)) N:Nat):Int)=KL N h:=by
 unfold KL;rw [yI];refine dz fun j hj=>?_
 by_cases e:j=i
 ·subst e;rw [if_pos rfl];exact congrArg (fun n:Nat=>(n:Int)) (bR fun k hk=>((hi j k hj hk).trans (if_pos rfl)).symm)
 rw [if_neg e];exact congrArg (fun n:Nat=>(n:Int)) (bR fun k hk=>((hi j k hj hk).trans (if_neg e)).symm)
theorem DT (hN:N<=16):KI (gM (KL N f)) (· = KL N fun i k=>f k i):=by
 unfold gM;refine (kK hN).bind fun v hv=>?_;subst hv;refine .bif (fun h=>by cases h) fun _=>?_;rw [aO];exact KI.bind (P:=(· = KL N fun i k=>f k i)) (zI (by omega) (is:=fun i k=>iU i k (KL N f)) fun i k hi hk=>(iX (by omega) hk hi).bind fun v hv => .pure hv) fun v hv => .pure hv
def xz (f g:Int->Int->Bool) (M:Nat) (i k:Int):Bool:=(NV M).any fun m=>f i (m:Int)&&g (m:Int) k
theorem rX (M:Nat) (i k:Int):xz f g (M+1) i k=(xz f g M i k||(f i (M:Int)&&g (M:Int) k)):=by
 unfold xz;rw [Oi,List.any_append];simp
theorem DU (hN:N<=16):KI (gP (KL N f) (KL N g)) (· = KL N (xz f g N)):=by
 unfold gP;refine (DG hN).bind fun v hv=>?_;subst hv;refine .bif (fun h=>by cases h) fun _=>?_;refine .gdD ⟨by omega,by omega,by rw [aO];omega,by rw [aO];omega⟩ (KI.bind (P:=(· = KL N (xz f g N))) ?_ fun v hv => .pure hv);have e0:N9 ((KL N f).length:Int).toNat (default:Int)=KL N fun i k=>decide (i<(0:Nat))&&xz f g N i k:=by
  rw [aO,tnn,vN];refine dz fun i hi=>?_;rw [bR (g:=fun _=>false) fun k hk=>by show (decide ((i:Int)<((0:Nat):Int))&&_)=false;rw [decide_eq_false (by omega)];rfl,vP]
  rfl
 rw [e0];refine KI.loop (fun z=>∃ i:Nat,i<=N/\z=(KL N (fun j k=>decide (j<(i:Int))&&xz f g N j k),(i:Int))) (fun z=>((N:Int)-z.2).toNat) ⟨0,by omega,rfl⟩ fun z ⟨i,h1,h2⟩ => ?_;subst h2;unfold gX;simp only [aO];refine .bifD (fun hk=>?_) fun hk => .pure ?_
 ·refine KI.bind (P:=(· = KL N (fun j k=>decide (j<((i+1:Nat):Int))&&xz f g N j k))) ?_ fun v hv => .gdI (by omega) (.pure ⟨⟨i+1,by omega,by rw [hv];rfl⟩,by simp only [];omega⟩);refine KI.loop (fun z=>∃ m:Nat,m<=N/\z=(KL N (fun j k=>if j=(i:Int) then xz f g m j k else decide (j<(i:Int))&&xz f g N j k),(m:Int))) (fun z=>((N:Int)-z.2).toNat) ⟨0,by omega,congrArg (fun l=>(l,(0:Int))) (il fun j k hj hk=>?_)⟩ fun z ⟨m,m1,m2⟩ => ?_
  ·by_cases e:(j:Int)=(i:Int)
   ·rw [if_pos e,decide_eq_false (by omega)];rfl
   rw [if_neg e]
  subst m2;unfold gq;simp only [aO];refine .bifD (fun hkk=>?_) fun hkk => .pure (il fun j k hj hk=>?_)
  ·refine KI.bind (P:=(· = KL N (fun j k=>if j=(i:Int) then xz f g (m+1) j k else decide (j<(i:Int))&&xz f g N j k))) ?_ fun v hv => .gdI (by omega) (.pure ⟨⟨m+1,by omega,by rw [hv];rfl⟩,by simp only [];omega⟩);refine (iX (by omega) (i:=i) (k:=m) (by omega) (by omega)).bind fun v hv => .bif (fun hb=>?_) fun hb => .pure (il fun j k hj hk=>?_)
   ·simp only [tnn];refine .gdD ⟨by omega,by omega⟩ (.gdD ⟨by omega,by omega⟩ (.pure ?_));rw [fG (by omega),fG (by omega),nJ (aT (by omega)) (aT (by omega)),xX];refine Ay (g:=fun j k=>(if j=(i:Int) then xz f g m j k else decide (j<(i:Int))&&xz f g N j k)||g (m:Int) k) i _ fun j k hj hk=>?_;rw [hv] at hb
    by_cases e:j=i
    ·subst e;rw [if_pos rfl,if_pos rfl,if_pos rfl,rX,hb,NY]
    rw [if_neg (by omega),if_neg (by omega),if_neg (by omega)]
   rw [hv] at hb
   by_cases e:(j:Int)=(i:Int)
   ·rw [if_pos e,if_pos e,rX,e,hb];simp
   rw [if_neg e,if_neg e]
  have : m=N:=by omega
  subst this
  by_cases e:(j:Int)=(i:Int)
  ·rw [if_pos e,decide_eq_true (by omega)];rfl
  rw [if_neg e]
  congr 1
  exact decide_eq_decide.2 (by omega)
 have : i=N:=by omega
 subst this;exact il fun j k hj hk=>by rw [decide_eq_true (by omega)];rfl
def KM (f:Int->Int->Bool):Nat->Int->Int->Bool
 | 0=>f
 | m+1=>fun i k=>KM f m i k||(KM f m i (m:Int)&&KM f m (m:Int) k)
theorem DV (m:Nat) (k:Int):KM f (m+1) (m:Int) k=KM f m (m:Int) k:=by
 show (KM f m (m:Int) k||(KM f m (m:Int) (m:Int)&&KM f m (m:Int) k))=_
 cases KM f m (m:Int) k <;> simp
theorem Fe (hN:N<=16) {m:Nat} (hk:m<N):KI (loopO (dm (KL N (KM f m),(m:Int))) (KL N (KM f m),(0:Int))) (· = KL N (KM f (m+1))):=by
 refine KI.loop (fun z=>∃ i:Nat,i<=N/\z=(KL N (fun j k=>if j<(i:Int) then KM f (m+1) j k else KM f m j k),(i:Int))) (fun z=>((N:Int)-z.2).toNat) ⟨0,by omega,congrArg (fun l=>(l,(0:Int))) (il (g:=fun j k=>if j<((0:Nat):Int) then KM f (m+1) j k else KM f m j k) fun j k _ _=>(if_neg (by omega)).symm)⟩ fun z ⟨i,i1,i2⟩ => ?_;subst i2;unfold dm;simp only [aO];refine .bifD (fun hkk=>?_) fun hkk => .pure (il fun j k hj _=>by rw [if_pos (by omega)]);refine KI.bind (P:=(· = KL N (fun j k=>if j<((i+1:Nat):Int) then KM f (m+1) j k else KM f m j k))) ?_ fun v hv => .gdI (by omega) (.pure ⟨⟨i+1,by omega,by rw [hv];rfl⟩,by simp only [];omega⟩);refine (iX (by omega) (i:=i) (k:=m) (by omega) (by omega)).bind fun v hv=>?_;rw [if_neg (by omega)] at hv;refine .bif (fun hb=>?_) fun hb => .pure (il fun j k hj hk=>?_)
 ·simp only [tnn];refine .gdD ⟨by omega,by omega⟩ (.gdD ⟨by omega,by omega⟩ (.pure ?_));rw [fG (by omega),fG (by omega),nJ (aT (by omega)) (aT (by omega)),xX];have e1:KJ (fun j=>(if (i:Int)<(i:Int) then KM f (m+1) (i:Int) (j:Int) else KM f m (i:Int) (j:Int))||(if (m:Int)<(i:Int) then KM f (m+1) (m:Int) (j:Int) else KM f m (m:Int) (j:Int))) N=KJ (fun k=>KM f (m+1) (i:Int) (k:Int)) N:=bR fun k hk=>by
   rw [if_neg (by omega),DV];rw [hv] at hb;show _=(KM f m (i:Int) (k:Int)||(KM f m (i:Int) (m:Int)&&KM f m (m:Int) (k:Int)));rw [hb];simp
  rw [e1];refine Ay (g:=KM f (m+1)) i _ fun j k hj hk=>?_
  by_cases e:j=i
  ·subst e;rw [if_pos (by omega),if_pos rfl]
  rw [if_neg e]
  by_cases e2:(j:Int)<(i:Int)
  ·rw [if_pos e2,if_pos (by omega)]
  rw [if_neg e2,if_neg (by omega)]
 by_cases e:(j:Int)<(i:Int)
 ·rw [if_pos e,if_pos (by omega)]
 rw [if_neg e]
 by_cases e2:j=i
 ·subst e2;rw [if_pos (by omega)];rw [hv] at hb;show _=(KM f m (j:Int) (k:Int)||(KM f m (j:Int) (m:Int)&&KM f m (m:Int) (k:Int)));rw [hb];simp
 rw [if_neg (by omega)]
theorem zK (hN:N<=16):KI (eu (KL N f)) (· = KL N (KM f N)):=by
 unfold eu;refine (kK hN).bind fun v hv=>?_;subst hv;refine .bif (fun h=>by cases h) fun _=>(tQ (by rw [aO];omega)).bind fun v3 h3=>?_;subst h3;refine KI.bind (P:=(· = KL N (KM f N))) ?_ fun v hv => .pure hv;refine KI.loop (fun z=>∃ m:Nat,m<=N/\z=(KL N (KM f m),(m:Int))) (fun z=>((N:Int)-z.2).toNat) ⟨0,by omega,rfl⟩ fun z ⟨m,h1,h2⟩ => ?_;subst h2;unfold gp;simp only [aO];refine .bifD (fun hk=>?_) fun hk => .pure ?_
 ·exact KI.bind (P:=(· = KL N (KM f (m+1)))) (Fe hN (by omega)) fun v hv => .gdI (by omega) (.pure ⟨⟨m+1,by omega,by rw [hv];rfl⟩,by simp only [];omega⟩)
 have : m=N:=by omega
 subst this
 rfl
def qN (N:Nat) (f:Int->Int->Bool):Bool:=(NV N).all fun i => !f (i:Int) (i:Int)
theorem zL:qN N f=true↔∀ i:Nat,i<N->f i i=false:=by
 unfold qN;rw [List.all_eq_true];exact ⟨fun h i hi=>by simpa using h i (Oe.2 hi),fun h i hi=>by simp [h i (Oe.1 hi)]⟩
theorem Az (hN:N<=16):KI (bX (KL N f)) (· = qN N f):=by
 unfold bX;refine KI.sum (PS:=fun _=>∀ i:Nat,i<N->f i i=false) (PW:=(· = qN N f)) ?_ fun _ h => .pure (zL.2 h).symm;refine KI.loop (fun z=>∃ i:Nat,i<=N/\z=(i:Int)/\∀ j:Nat,j<i->f j j=false) (fun z=>((N:Int)-z).toNat) ⟨0,by omega,rfl,fun j hj=>absurd hj (by omega)⟩ fun z ⟨i,h1,h2,h3⟩ => ?_;subst h2;unfold jJ;simp only [aO];refine .bifD (fun hk=>(iX (by omega) (i:=i) (k:=i) (by omega) (by omega)).bind fun v hv => .bif (fun hb => .pure ?_) fun hb => .gdI (by omega) (.pure ⟨⟨i+1,by omega,rfl,fun j hj=>?_⟩,by omega⟩)) fun hk => .pure fun j hj=>h3 j (by omega)
 ·show false=_
  symm
  rw [Bool.eq_false_iff];intro hl;have := zL.1 hl i (by omega);rw [<- hv,hb] at this
  cases this
 by_cases e:j=i
 ·subst e;rw [<- hv];exact hb
 exact h3 j (by omega)
theorem DW (hN:N<=16):KI (gQ (KL N f)) (· = qN N (KM f N)):=by
 unfold gQ;refine (kK hN).bind fun v hv=>?_;subst hv;exact KI.bind (P:=(· = qN N (KM f N))) (.bif (fun _=>(zK hN).bind fun v hv=>by subst hv;exact (Az hN).bind fun w hw => .pure hw) fun h=>by cases h) fun v hv => .pure hv
end
def AA (base:ByteArray->Int->Int->Bool) (N:Nat) (op:Int) (nm:ByteArray) (rs:List (Int->Int->Bool)):Int->Int->Bool:=
 if op=1 then base nm else
 let a:=rs.getD 0 fun _ _=>false;let b:=rs.getD 1 fun _ _=>false
 if op=6 then fun i k=>a k i else if op=7 then KM a N else
 if op=2 then fun i k=>a i k||b i k else if op=3 then fun i k=>a i k&&b i k else if op=4 then fun i k=>a i k && !b i k else xz a b N
mutual
def uE (base:ByteArray->Int->Int->Bool) (N:Nat):TXimpl_RelExpr->Int->Int->Bool
 | .mk op nm ks=>AA base N op nm (qq base N ks)
def qq (base:ByteArray->Int->Int->Bool) (N:Nat):List TXimpl_RelExpr->List (Int->Int->Bool)
 | []=>[]
 | t::l=>uE base N t::qq base N l
end
mutual
def VT:TXimpl_RelExpr->Prop
 | .mk op nm ks=>(op=1/\nm∈vJ)\/((op=6\/op=7)/\ks.length=1/\VL ks)\/((op=2\/op=3\/op=4\/op=5)/\ks.length=2/\VL ks)
def VL:List TXimpl_RelExpr->Prop
 | []=>True
 | t::l=>VT t/\VL l
end
theorem FY {α:Type} {l:List α} (h:l.length=1):∃ a,l=[a]:=by
 match l,h with
 | [a],_=>exact ⟨a,rfl⟩
theorem FZ {α:Type} {l:List α} (h:l.length=2):∃ a b,l=[a,b]:=by
 match l,h with
 | [a,b],_=>exact ⟨a,b,rfl⟩
section
variable {p:List (List KE)} {x:KG} {N:Nat} {base:ByteArray->Int->Int->Bool}
def EvT (p:List (List KE)) (x:KG) (N:Nat) (base:ByteArray->Int->Int->Bool) (d:Nat) (t:TXimpl_RelExpr):Prop:=∀ m,d<m->KI (bD m p x t.out) (· = KL N (uE base N t))
mutual
theorem ID (hN:N<=16) (hb:∀ nm∈vJ,KI (eF p x nm) (· = KL N (base nm))):∀ t:TXimpl_RelExpr,VT t->∃ d,EvT p x N base d t
 | .mk op nm ks,h=>by
  rw [VT] at h;rcases h with ⟨h1,h2⟩ | ⟨h1,h2,h3⟩ | ⟨h1,h2,h3⟩
  ·refine ⟨0,fun m hm=>?_⟩;obtain ⟨m,rfl⟩:∃ q,m=q+1:=⟨m-1,by omega⟩;show KI (bC (bD m) p x ⟨op,nm,ks⟩) _;unfold bC;simp only [];subst h1;refine .bif (fun _=>(hb nm h2).bind fun v hv => .pure ?_) fun h=>absurd h (by decide);rw [hv,uE,AA,if_pos rfl]
  ·obtain ⟨d,hd⟩:=GN hN hb ks h3;obtain ⟨a,rfl⟩:=FY h2;refine ⟨d+1,fun m hm=>?_⟩;obtain ⟨m,rfl⟩:∃ q,m=q+1:=⟨m-1,by omega⟩;have ha:=hd a (by simp) m (by omega);show KI (bC (bD m) p x ⟨op,nm,[a]⟩) _;unfold bC;simp only [];refine .bif (fun h=>absurd (eq_of_beq h) (by omega)) fun _ => .gdD ⟨by decide,by simp⟩ (ha.bind fun v hv=>?_);subst hv;rcases h1 with rfl | rfl
   ·refine .bif (fun _=>(DT hN).bind fun v hv => .pure ?_) fun h=>absurd h (by decide);rw [hv,uE,qq,qq,AA,if_neg (by decide),if_pos rfl]
    rfl
   refine .bif (fun h=>absurd h (by decide)) fun _ => .bif (fun _=>(zK hN).bind fun v hv => .pure ?_) fun h=>absurd h (by decide);rw [hv,uE,qq,qq,AA,if_neg (by decide),if_neg (by decide),if_pos rfl]
   rfl
  obtain ⟨d,hd⟩:=GN hN hb ks h3;obtain ⟨a,b,rfl⟩:=FZ h2;refine ⟨d+1,fun m hm=>?_⟩;obtain ⟨m,rfl⟩:∃ q,m=q+1:=⟨m-1,by omega⟩;have ha:=hd a (by simp) m (by omega);have hbb:=hd b (by simp) m (by omega);show KI (bC (bD m) p x ⟨op,nm,[a,b]⟩) _;unfold bC;simp only [];refine .bif (fun h=>absurd (eq_of_beq h) (by omega)) fun _ => .gdD ⟨by decide,by simp⟩ (ha.bind fun v hv=>?_);subst hv;refine .bif (fun h=>absurd (eq_of_beq h) (by omega)) fun _ => .bif (fun h=>absurd (eq_of_beq h) (by omega)) fun _ => .gdD ⟨by decide,by simp⟩ (hbb.bind fun w hw=>?_);subst hw;rcases h1 with rfl | rfl | rfl | rfl
  ·refine .bif (fun _=>(GL hN).bind fun v hv => .pure ?_) fun h=>absurd h (by decide);rw [hv,uE,qq,qq,qq,AA,if_neg (by decide),if_neg (by decide),if_neg (by decide),if_pos rfl]
   rfl
  ·refine .bif (fun h=>absurd h (by decide)) fun _ => .bif (fun _=>(IA hN).bind fun v hv => .pure ?_) fun h=>absurd h (by decide);rw [hv,uE,qq,qq,qq,AA,if_neg (by decide),if_neg (by decide),if_neg (by decide),if_neg (by decide),if_pos rfl]
   rfl
  ·refine .bif (fun h=>absurd h (by decide)) fun _ => .bif (fun h=>absurd h (by decide)) fun _ => .bif (fun _=>(GM hN).bind fun v hv => .pure ?_) fun h=>absurd h (by decide);rw [hv,uE,qq,qq,qq,AA,if_neg (by decide),if_neg (by decide),if_neg (by decide),if_neg (by decide),if_neg (by decide),if_pos rfl]
   rfl
  refine .bif (fun h=>absurd h (by decide)) fun _ => .bif (fun h=>absurd h (by decide)) fun _ => .bif (fun h=>absurd h (by decide)) fun _=>(DU hN).bind fun v hv => .pure ?_;rw [hv,uE,qq,qq,qq,AA,if_neg (by decide),if_neg (by decide),if_neg (by decide),if_neg (by decide),if_neg (by decide),if_neg (by decide)]
  rfl
theorem GN (hN:N<=16) (hb:∀ nm∈vJ,KI (eF p x nm) (· = KL N (base nm))):∀ l:List TXimpl_RelExpr,VL l->∃ d,∀ t∈l,EvT p x N base d t
 | [],_=>⟨0,fun t h=>by cases h⟩
 | t::l,h=>by
  rw [VL] at h;obtain ⟨d1,h1⟩:=ID hN hb t h.1;obtain ⟨d2,h2⟩:=GN hN hb l h.2;refine ⟨max d1 d2,fun u hu=>?_⟩;rcases OA.1 hu with rfl | hu
  ·exact fun m hm=>h1 m (by omega)
  exact fun m hm=>h2 u hu m (by omega)
end
theorem IE (hN:N<=16) (hb:∀ nm∈vJ,KI (eF p x nm) (· = KL N (base nm))) {t:TXimpl_RelExpr} (h:VT t):KI (nI p x t.out) (· = KL N (uE base N t)):=by
 obtain ⟨d,hd⟩:=ID hN hb t h;exact mh d hd
end
theorem DX {l:LI} (hl:l.length<=4000000) (n:Int):KI (aU l n) (· = plc l n):=by
 unfold aU;refine KI.sum (PS:=fun _=>n∉l) (PW:=(· = plc l n)) ?_ fun _ hn => .pure (by unfold plc;rw [if_neg hn]);refine KI.loop (fun z=>∃ i:Nat,i<=l.length/\z=(i:Int)/\∀ j,j<i->l.getD j default≠n) (fun z=>((l.length:Int)-z).toNat) ⟨0,by omega,rfl,fun j hj=>by omega⟩ fun z ⟨i,h1,h2,h3⟩ => ?_;subst h2;unfold dI;refine .bifD (fun hk => .gdD ⟨by omega,hk⟩ (.bif (fun he => .pure ?_) fun he => .gdI (by omega) (.pure ⟨⟨i+1,by omega,rfl,fun j hj=>?_⟩,by omega⟩))) fun hk => .pure ?_
 ·simp only [tnn,beq_iff_eq] at he;have hi:i<l.length:=by omega
  have hm:n∈l:=by rw [he];exact pO hi
  show (i:Int)=plc l n;unfold plc;rw [if_pos hm]
  congr 1
  have h4:=N7 hm;rcases Nat.lt_trichotomy i (l.idxOf n) with h5 | h5 | h5
  ·exfalso;have : l.idxOf n<=i:=by
    have e:l=l.take i++l.drop i:=(OI i l).symm;rw [e,List.idxOf_append]
    split
    ·have := N7 (by assumption:n∈l.take i);rw [Oh] at this;omega
    rw [OJ hi,show l[i]=n by rw [he,gdq,geq hi];rfl,OL,Oh];omega
   omega
  ·exact h5
  exact absurd (vL hm) (h3 _ h5)
 ·simp only [tnn,beq_eq_false_iff_ne] at he;rcases Oa j i with h | h
  ·exact h3 j h
  rw [show j=i by omega];exact fun e=>he e.symm
 intro hm;have h4:=N7 hm;exact h3 (l.idxOf n) (by omega) (vL hm)
def kr (e:KH) (w:Bool):Bool:=(e.aC==w) && !(e.Reads==w)
theorem Bp (e:KH) (w:Bool):KI (bH e w) (· = kr e w):=by
 unfold bH;exact KI.bind (P:=(· = kr e w)) (.bif (fun h => .pure (by unfold kr;rw [h];rfl)) fun h => .pure (by unfold kr;rw [h];rfl)) fun v hv => .pure hv
def zS (l:List KE):Bool:=l.any fun y=>y.Op==4
theorem IG {l:List KE} (hl:l.length<=4000000):KI (az l) (· = zS l):=by
 unfold az aH;refine KI.bind (P:=fun v:Int=>(0<=v↔zS l=true)) ?_ fun v hv => .pure ?_
 ·refine KI.sum (PS:=fun _=>zS l=false) (PW:=fun v:Int=>(0<=v↔zS l=true)) ?_ fun _ hn => .pure (by rw [hn];simp);refine KI.loop (fun z=>∃ i:Nat,i<=l.length/\z=(i:Int)/\∀ j,j<i->((l.getD j default).Op==4)=false) (fun z=>((l.length:Int)-z).toNat) ⟨0,by omega,rfl,fun j hj=>by omega⟩ fun z ⟨i,h1,h2,h3⟩ => ?_;subst h2;unfold aQ mL;simp only [tnn];refine .bifD (fun hk => .gdD ⟨by omega,hk⟩ (KI.bind (P:=(· = ((l.getD i default).Op==4))) (.pure rfl) fun v hv => .bif (fun he => .pure ⟨fun _=>?_,fun _=>by omega⟩) fun he => .gdI (by omega) (.pure ⟨⟨i+1,by omega,rfl,fun j hj=>?_⟩,by omega⟩))) fun hk => .pure ?_
  ·unfold zS;rw [List.any_eq_true];exact ⟨l.getD i default,getD_in (by omega),by rw [<- hv];exact he⟩
  ·by_cases e:j=i
   ·subst e;rw [<- hv];exact he
   exact h3 j (by omega)
  show zS l=false;unfold zS;rw [List.any_eq_false];intro y hy;obtain ⟨j,hj,rfl⟩:=Ot hy;have := h3 j (by omega);rw [gdq,geq hj] at this;rw [show l[j]=(some l[j]).getD default from rfl,this]
  decide
 show decide ((0:Int)<=v)=zS l
 cases h:zS l with
 | true=>exact decide_eq_true (hv.2 h)
 | false=>exact decide_eq_false fun e=>by rw [hv.1 e] at h;cases h
section
variable {p:List (List KE)} {x:XS} {F:LI}
def Ff (p:List (List KE)) (i k:Int):Bool:=poB p i k&&zS (((p.getD (ev p i).Thread.toNat default).drop (ev p i).Index.toNat).take ((ev p k).Index.toNat-(ev p i).Index.toNat))
def J1 (p:List (List KE)) (i k:Int):Bool:=decide ((ev p i).Loc=(ev p k).Loc)
def HZ (p:List (List KE)) (i k:Int):Bool:=decide ((ev p i).Thread≠(ev p k).Thread)||decide ((ev p i).Thread<0)
def nmR (p:List (List KE)) (x:XS) (nm:ByteArray):Int->Int->Bool:=
 if nm=⟨#[112,111]⟩ then poB p else if nm=⟨#[108,111,99]⟩ then J1 p else if nm=⟨#[101,120,116]⟩ then HZ p else if nm=⟨#[114,102]⟩ then rfB p x else
 if nm=⟨#[99,111]⟩ then coB p x else if nm=⟨#[102,114]⟩ then frB p x else if nm=⟨#[102,101,110,99,101]⟩ then Ff p else
 if nm=⟨#[119,114]⟩ then (fun i k=>kr (ev p i) true&&kr (ev p k) false) else if nm=⟨#[119,119]⟩ then (fun i k=>kr (ev p i) true&&kr (ev p k) true) else fun i k=>decide (i=k)
theorem DY {l:LI} {n:Int}:0<=plc l n↔n∈l:=by
 unfold plc
 split
 ·rename_i h;exact ⟨fun _=>h,fun _=>by omega⟩
 rename_i h;exact ⟨fun e=>by omega,fun e=>absurd e h⟩
theorem Bq (hX:XOk p x) {l:Int} (hl:0<=l/\l<=2) (i k:Int):KI (bV ⟨x.1,x.2⟩ l i k) (· = (decide (i∈od x l)&&decide (k∈od x l)&&decide (plc (od x l) i<plc (od x l) k))):=by
 unfold bV;refine .gdD ⟨hl.1,by simp only [];rw [hX.o];omega⟩ ((DX (hX.r _) i).bind fun v hv=>(DX (hX.r _) k).bind fun w hw=>?_);change v=plc (od x l) i at hv;change w=plc (od x l) k at hw;subst hv hw;refine KI.bind (P:=(· = (decide (i∈od x l)&&decide (k∈od x l)))) (.bifD (fun h => .pure ?_) fun h => .pure ?_) fun v hv=>KI.bind (P:=(· = (decide (i∈od x l)&&decide (k∈od x l)&&decide (plc (od x l) i<plc (od x l) k)))) (.bif (fun h => .pure ?_) fun h => .pure ?_) fun v hv => .pure hv
 ·rw [decide_eq_true (DY.1 h),NY];exact decide_eq_decide.2 DY
 ·rw [decide_eq_false fun e=>h (DY.2 e)]
  rfl
 ·rw [<- hv,h,NY]
 rw [<- hv,h,Oo]
theorem II (hp:PV p) (C:Cand p x F) {i k:Nat} (hi:i<(evs p).length) (hk:k<(evs p).length) (nm:ByteArray) (hn:nm∈vJ):KI (mb p ⟨x.1,x.2⟩ (evs p) nm (i:Int) (k:Int)) (· = nmR p x nm i k):=by
 have ei:(evs p).getD i default=ev p (i:Int):=by unfold ev;rw [tnn]
 have ek:(evs p).getD k default=ev p (k:Int):=by unfold ev;rw [tnn]
 have hl:=uD hp (n:=(i:Int)) (by omega) (by omega);have hX:=J0 hp C;have hiF:(i:Int)∈F:=(C.mem _).2 ⟨by omega,by omega⟩;have hkF:(k:Int)∈F:=(C.mem _).2 ⟨by omega,by omega⟩;unfold mb;simp only [tnn,ei,ek];refine .gdD ⟨by omega,by omega⟩ (.gdD ⟨by omega,by omega⟩ (KI.bind (P:=(· = (decide (0<=(ev p i).Thread)&&decide ((ev p i).Thread=(ev p k).Thread)))) (.bifD (fun h => .pure ?_) fun h => .pure ?_) fun same hs=>KI.bind (P:=(· = poB p i k)) (.bif (fun h => .pure ?_) fun h => .pure ?_) fun po hpo=>?_))
 ·rw [decide_eq_true h,NY];exact Bl _ _
 ·rw [decide_eq_false h];rfl
 ·unfold poB;rw [Bool.and_comm (decide ((ev p i).Thread=(ev p k).Thread)),<- hs,h,NY]
 ·unfold poB;rw [Bool.and_comm (decide ((ev p i).Thread=(ev p k).Thread)),<- hs,h,Oo]
 subst hpo;clear hs;have hn':nm=⟨#[112,111]⟩\/nm=⟨#[108,111,99]⟩\/nm=⟨#[101,120,116]⟩\/nm=⟨#[114,102]⟩\/nm=⟨#[99,111]⟩\/nm=⟨#[102,114]⟩\/nm=⟨#[102,101,110,99,101]⟩\/nm=⟨#[119,114]⟩\/nm=⟨#[119,119]⟩\/nm=⟨#[105,100]⟩:=by
  simpa [vJ] using hn
 rcases hn' with rfl | rfl | rfl | rfl | rfl | rfl | rfl | rfl | rfl | rfl
 ·exact KI.sumR (.bif (fun _ => .pure rfl) fun h=>absurd h (by decide))
 ·exact KI.sumR (.bif (fun h=>absurd h (by decide)) fun _ => .bif (fun _ => .pure (congrArg Sum.inr (Bl _ _))) fun h=>absurd h (by decide))
 ·refine KI.sumR (.bif (fun h=>absurd h (by decide)) fun _ => .bif (fun h=>absurd h (by decide)) fun _ => .bif (fun _=>?_) fun h=>absurd h (by decide));refine KI.bind (P:=(· = HZ p i k)) (.bif (fun h => .pure ?_) fun h => .pure ?_) fun v hv => .pure (congrArg Sum.inr hv)
  ·unfold HZ;rw [decide_eq_true (show (ev p i).Thread≠(ev p k).Thread by simpa using h)]
   rfl
  unfold HZ;rw [decide_eq_false (show ¬ (ev p i).Thread≠(ev p k).Thread by simpa using h)]
  rfl
 ·refine KI.sumR (.bif (fun h=>absurd h (by decide)) fun _ => .bif (fun h=>absurd h (by decide)) fun _ => .bif (fun h=>absurd h (by decide)) fun _ => .bif (fun _=>?_) fun h=>absurd h (by decide));refine .gdD ⟨by omega,by show _<((x.1.length:Nat):Int);rw [C.flen];omega⟩ (.pure (congrArg Sum.inr ?_));show (x.1.getD k default==(i:Int))=rfB p x i k;unfold rfB;rw [tnn,Bl]
  cases hr:(ev p (k:Int)).Reads with
  | true=>rw [NY]
  | false=>
   have := C.frN _ hkF hr;rw [tnn] at this;rw [this,Oo];exact decide_eq_false (by omega)
 ·refine KI.sumR (.bif (fun h=>absurd h (by decide)) fun _ => .bif (fun h=>absurd h (by decide)) fun _ => .bif (fun h=>absurd h (by decide)) fun _ => .bif (fun h=>absurd h (by decide)) fun _ => .bif (fun _=>?_) fun h=>absurd h (by decide));refine (Bq hX hl i k).bind fun v hv => .pure (congrArg Sum.inr ?_);show v=coB p x i k;rw [hv];unfold coB
  congr 1
  have O:=C.ods _ hl;rw [Bool.eq_iff_iff];simp only [bae,dte]
  constructor
  ·rintro ⟨h1,h2⟩;exact ⟨⟨((O.mem _).1 h1).2.1,((O.mem _).1 h2).2.1⟩,((O.mem _).1 h2).2.2.symm⟩
  rintro ⟨⟨h1,h2⟩,h3⟩;exact ⟨(O.mem _).2 ⟨hiF,h1,rfl⟩,(O.mem _).2 ⟨hkF,h2,h3.symm⟩⟩
 ·refine KI.sumR (.bif (fun h=>absurd h (by decide)) fun _ => .bif (fun h=>absurd h (by decide)) fun _ => .bif (fun h=>absurd h (by decide)) fun _ => .bif (fun h=>absurd h (by decide)) fun _ => .bif (fun h=>absurd h (by decide)) fun _ => .bif (fun _=>?_) fun h=>absurd h (by decide));refine KI.bind (P:=(· = frB p x i k)) (.bif (fun h1 => .bif (fun h2 => .bif (fun h3 => .gdD ⟨by omega,by show _<((x.1.length:Nat):Int);rw [C.flen];omega⟩ ((Bq hX hl _ _).bind fun v hv => .pure ?_)) fun h3 => .pure ?_) fun h2 => .pure ?_) fun h1 => .pure ?_) fun v hv => .pure (congrArg Sum.inr hv)
  ·have h3 : ¬ (i:Int)=(k:Int):=by simpa using h3
   have O:=C.ods _ hl;rw [hv];unfold frB;have hrd:=C.rdc _ hiF h1;rw [tnn] at hrd ⊢;rw [h1,h2,decide_eq_false h3,decide_eq_true hrd];simp only [Bool.and_self,NY,Bool.not_false,Bool.and_true]
   congr 1
   refine decide_eq_decide.2 ⟨fun h=>((O.mem _).1 h).2.2.symm,fun h=>(O.mem _).2 ⟨hkF,h2,h.symm⟩⟩
  ·have h3:(i:Int)=(k:Int):=by simpa using h3
   unfold frB;rw [decide_eq_true h3];simp
  ·unfold frB;rw [h2];simp
  unfold frB;rw [h1];simp
 ·refine KI.sumR (.bif (fun h=>absurd h (by decide)) fun _ => .bif (fun h=>absurd h (by decide)) fun _ => .bif (fun h=>absurd h (by decide)) fun _ => .bif (fun h=>absurd h (by decide)) fun _ => .bif (fun h=>absurd h (by decide)) fun _ => .bif (fun h=>absurd h (by decide)) fun _ => .bif (fun _=>?_) fun h=>absurd h (by decide));refine KI.bind (P:=(· = Ff p i k)) (.bif (fun h=>?_) fun h => .pure (by unfold Ff;rw [h];rfl)) fun v hv => .pure (congrArg Sum.inr hv);have hpo:=h;unfold poB at h;simp only [bae,dte] at h;obtain ⟨⟨h1,h2⟩,h3⟩:=h;rcases vK (p:=p) (n:=(k:Int)) (by omega) (by omega) with hc | ⟨t,q,hI,e⟩
  ·exfalso;have : (ev p (k:Int)).Thread = -1:=by
    rw [show (k:Int)=((k:Nat):Int) from rfl,(wR (p:=p) (l:=k) (by omega)).1]
   omega
  rcases vK (p:=p) (n:=(i:Int)) (by omega) (by omega) with hc | ⟨t',q',hI',e'⟩
  ·exfalso;have : (ev p (i:Int)).Thread = -1:=by
    rw [(wR (p:=p) (l:=i) (by omega)).1]
   omega
  have a1:=(hI.ev (p:=p)).1;have a2:=(hI'.ev (p:=p)).1;rw [<- e] at a1;rw [<- e'] at a2;rw [a1,a2] at h1 h3;simp only at h1 h3;have ht:t'=t:=by omega
  subst ht;have hlen:=hI.k;refine .gdD ⟨by rw [a2];simp only [];omega,by rw [a2];simp only [];have := hI'.t;omega⟩ (.gdD ⟨by rw [a2];simp only [];omega,by rw [a1,a2];simp only [];omega,by rw [a1,a2];simp only [];rw [tnn];omega⟩ ((IG ?_).bind fun v hv => .pure ?_))
  ·have := hp.vs.2 t';rw [a2];simp only [Oh,List.length_drop,tnn];omega
  rw [hv];unfold Ff;rw [hpo,NY]
 ·refine KI.sumR (.bif (fun h=>absurd h (by decide)) fun _ => .bif (fun h=>absurd h (by decide)) fun _ => .bif (fun h=>absurd h (by decide)) fun _ => .bif (fun h=>absurd h (by decide)) fun _ => .bif (fun h=>absurd h (by decide)) fun _ => .bif (fun h=>absurd h (by decide)) fun _ => .bif (fun h=>absurd h (by decide)) fun _ => .bif (fun _=>?_) fun h=>absurd h (by decide));refine (Bp _ _).bind fun v hv=>KI.bind (P:=(· = (kr (ev p i) true&&kr (ev p k) false))) (.bif (fun h=>(Bp _ _).bind fun w hw => .pure ?_) fun h => .pure ?_) fun v hv => .pure (congrArg Sum.inr hv)
  ·have e:kr (ev p i) true=true:=hv.symm.trans h;show w=(kr (ev p i) true&&kr (ev p k) false);rw [e];exact hw
  have e:kr (ev p i) true=false:=hv.symm.trans h;show false=(kr (ev p i) true&&kr (ev p k) false);rw [e]
  rfl
 ·refine KI.sumR (.bif (fun h=>absurd h (by decide)) fun _ => .bif (fun h=>absurd h (by decide)) fun _ => .bif (fun h=>absurd h (by decide)) fun _ => .bif (fun h=>absurd h (by decide)) fun _ => .bif (fun h=>absurd h (by decide)) fun _ => .bif (fun h=>absurd h (by decide)) fun _ => .bif (fun h=>absurd h (by decide)) fun _ => .bif (fun h=>absurd h (by decide)) fun _ => .bif (fun _=>?_) fun h=>absurd h (by decide));refine (Bp _ _).bind fun v hv=>KI.bind (P:=(· = (kr (ev p i) true&&kr (ev p k) true))) (.bif (fun h=>(Bp _ _).bind fun w hw => .pure ?_) fun h => .pure ?_) fun v hv => .pure (congrArg Sum.inr hv)
  ·have e:kr (ev p i) true=true:=hv.symm.trans h;show w=(kr (ev p i) true&&kr (ev p k) true);rw [e];exact hw
  have e:kr (ev p i) true=false:=hv.symm.trans h;show false=(kr (ev p i) true&&kr (ev p k) true);rw [e]
  rfl
 refine KI.sum (PS:=fun _=>True) (PW:=(· = nmR p x ⟨#[105,100]⟩ i k)) (.bif (fun h=>absurd h (by decide)) fun _ => .bif (fun h=>absurd h (by decide)) fun _ => .bif (fun h=>absurd h (by decide)) fun _ => .bif (fun h=>absurd h (by decide)) fun _ => .bif (fun h=>absurd h (by decide)) fun _ => .bif (fun h=>absurd h (by decide)) fun _ => .bif (fun h=>absurd h (by decide)) fun _ => .bif (fun h=>absurd h (by decide)) fun _ => .bif (fun h=>absurd h (by decide)) fun _ => .pure trivial) fun _ _ => .pure (Bl _ _)
theorem JA (hp:PV p) (C:Cand p x F) {nm:ByteArray} (hn:nm∈vJ):KI (eF p ⟨x.1,x.2⟩ nm) (· = KL (evs p).length (nmR p x nm)):=by
 have hel:=kJ hp.vs;unfold eF;refine (yD hp.vs).bind fun v1 h1=>?_;subst h1;exact KI.bind (P:=(· = KL (evs p).length (nmR p x nm))) (zI (by omega) (is:=fun i k=>nH i k p ⟨x.1,x.2⟩ (evs p) nm) fun i k hi hk=>(II hp C hi hk nm hn).bind fun v hv => .pure hv) fun v hv => .pure hv
theorem IJ (hv:da (toI p)=true):(evs p).length<=15:=by
 have h1:=DD (p:=p) (fun e=>decide (0<=e.Thread)||true) qx (fun t k x ho=>by simp [qx,ia,ho]) (fun x ho=>by simp [qx,ia,ho]);rw [show (ev0.filter fun e=>decide (0<=e.Thread)||true).length=3 from rfl,List.filter_eq_self.2 (fun a _=>by simp)] at h1;simp only [da,nT,bae,dte] at hv;have := hv.1.1.2;omega
end
end
end Go.Proofs.YtpkhamajimidnaaGreatDoor
