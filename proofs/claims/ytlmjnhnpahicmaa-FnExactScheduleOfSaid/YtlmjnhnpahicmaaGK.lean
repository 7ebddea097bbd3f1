/-
 Contracts and words, several texts joined. No conditions.
-/
import Derived.Test.YtlmjnhnpahicmaaS26d
import Derived.Test.YtlmjnhnpahicmaaGP
import Derived.Test.YtlmjnhnpahicmaaHo
namespace Go.Proofs.Ytlmjnhnpahicmaa
open Go.RowKit
set_option maxRecDepth 100000
def evI (t k:Nat) (x:ZIn):List ZEv:=if x.Op=4 then [] else [⟨t,k,x.Loc,rdX x,wrX x⟩]
def evR (t:Nat) (row:List ZIn):Nat->List ZEv
 | 0=>[]
 | n+1=>evR t row n++evI t n (row.getD n default)
def ev0:List ZEv:=[⟨-1,0,0,false,true⟩,⟨-1,1,1,false,true⟩,⟨-1,2,2,false,true⟩]
def evP (p:List (List ZIn)):Nat->List ZEv
 | 0=>ev0
 | n+1=>evP p n++evR n (p.getD n default) (p.getD n default).length
def evs (p:List (List ZIn)):List ZEv:=evP p p.length
theorem evI_len (t k:Nat) (x:ZIn):(evI t k x).length<=1:=by unfold evI;split <;> simp
theorem evR_len (t:Nat) (row:List ZIn) (n:Nat):(evR t row n).length<=n:=by
 induction n with
 | zero=>exact Nat.le_refl _
 | succ n ih=>
  have := evI_len t n (row.getD n default)
  simp only [evR,List.length_append]
  omega
theorem evP_len {p:List (List ZIn)} (h:Vs p) (n:Nat):(evP p n).length<=3+7*n:=by
 induction n with
 | zero=>exact Nat.le_refl _
 | succ n ih=>
  have h1:=evR_len n (p.getD n default) (p.getD n default).length
  have h2:=h.2 n
  simp only [evP,List.length_append]
  omega
theorem sreads (x:ZIn):Ret (F_spec_l1Reads x) (· = rdX x):=by
 unfold F_spec_l1Reads rdX
 exact Ret.bind (P:=(· = (x.Op==1||x.Op==5))) (.bif (fun h => .pure (by rw [h];rfl)) fun h => .pure (by rw [h];rfl)) fun v hv => .pure hv
theorem swrites (x:ZIn):Ret (F_spec_l1Writes x) (· = wrX x):=by
 unfold F_spec_l1Writes wrX
 exact Ret.bind (P:=(· = (x.Op==2||x.Op==3))) (.bif (fun h => .pure (by rw [h];rfl)) fun h => .pure (by rw [h];rfl)) fun v hv=>Ret.bind (P:=(· = (x.Op==2||x.Op==3||x.Op==5))) (.bif (fun h => .pure (by rw [<- hv,h];rfl)) fun h => .pure (by rw [<- hv,h];rfl)) fun v hv => .pure hv
theorem ievents {p:List (List ZIn)} (hp:Vs p):Ret (F_impl_events p) (· = evs p):=by
 have hpl:=hp.1
 unfold F_impl_events
 refine Ret.bind (P:=(· = ev0)) ?_ fun l hl=>Ret.bind (P:=(· = evs p)) ?_ fun v hv => .pure hv
 ·refine Ret.loop (fun s=>∃ n:Nat,n<=3/\s=(ev0.take n,(n:Int))) (fun s=>(3-s.2).toNat) ⟨0,by omega,rfl⟩ fun s ⟨n,h1,h2⟩ => ?_
  subst h2
  unfold F_impl_events_L8
  refine .bifD (fun h => ?_) fun h => .pure ?_
  ·match n,h1,h with
   | 0,_,_=>exact .gdC (by decide) rfl (.gdI (by decide) (.pure ⟨⟨1,by omega,rfl⟩,by decide⟩))
   | 1,_,_=>exact .gdC (by decide) rfl (.gdI (by decide) (.pure ⟨⟨2,by omega,rfl⟩,by decide⟩))
   | 2,_,_=>exact .gdC (by decide) rfl (.gdI (by decide) (.pure ⟨⟨3,by omega,rfl⟩,by decide⟩))
   | 3,_,h=>exact absurd h (by decide)
  ·have : n=3:=by simp only [] at h;omega
   subst this
   rfl
 ·subst hl
  refine Ret.loop (fun s=>∃ n:Nat,n<=p.length/\s=(evP p n,(n:Int))) (fun s=>((p.length:Int)-s.2).toNat) ⟨0,by omega,rfl⟩ fun s ⟨n,h1,h2⟩ => ?_
  subst h2
  unfold F_impl_events_L25
  refine .bifD (fun h => ?_) fun h => .pure ?_
  ·have hlen:=evP_len hp n
   have hrow:=hp.2 n
   simp only [] at h
   refine Ret.bind (P:=(· = evP p (n+1))) (.gdD ⟨by simp only [];omega,h⟩ ?_) fun v hv => .gdI (by simp only [];omega) (.pure ⟨⟨n+1,by omega,by rw [hv];rfl⟩,by simp only [];omega⟩)
   refine Ret.loop (fun t=>∃ k:Nat,k<=(p.getD n default).length/\t=(evP p n++evR n (p.getD n default) k,(k:Int))) (fun t=>(((p.getD n default).length:Int)-t.2).toNat) ⟨0,by omega,by simp [evR]⟩ fun t ⟨k,k1,k2⟩ => ?_
   subst k2
   unfold F_impl_events_L38
   simp only [Int.toNat_natCast]
   refine .bifD (fun hk => ?_) fun hk => .pure ?_
   ·have hl2:=evR_len n (p.getD n default) k
    refine Ret.bind (P:=(· = evP p n++evR n (p.getD n default) (k+1))) (.gdD ⟨by omega,hk⟩ ?_) fun v hv => .gdI (by omega) (.pure ⟨⟨k+1,by omega,by rw [hv];rfl⟩,by simp only [];omega⟩)
    refine .bif (fun ho => ?_) fun ho => .pure ?_
    ·refine (ireads _).bind fun a ha=>(iwrites _).bind fun b hb => .gdC (by simp only [List.length_append];omega) rfl (.pure ?_)
     have h4 : ¬ ((p.getD n default).getD k default).Op=4:=by simpa using ho
     subst ha hb
     simp only [evR,evI,if_neg h4,List.append_assoc]
    ·have h4:((p.getD n default).getD k default).Op=4:=by simpa using ho
     simp only [evR,evI,if_pos h4,List.append_nil]
   ·have : k=(p.getD n default).length:=by omega
    subst this
    rfl
  ·have : n=p.length:=by simp only [] at h;omega
   subst this
   rfl
theorem sevents {p:List (List ZIn)} (hp:Vs p):Ret (F_spec_l6Events p) (· = evs p):=by
 have hpl:=hp.1
 unfold F_spec_l6Events
 refine Ret.bind (P:=(· = ev0)) ?_ fun l hl=>Ret.bind (P:=(· = evs p)) ?_ fun v hv => .pure hv
 ·refine Ret.loop (fun s=>∃ n:Nat,n<=3/\s=(ev0.take n,(n:Int))) (fun s=>(3-s.2).toNat) ⟨0,by omega,rfl⟩ fun s ⟨n,h1,h2⟩ => ?_
  subst h2
  unfold F_spec_l6Events_L6
  refine .bifD (fun h => ?_) fun h => .pure ?_
  ·match n,h1,h with
   | 0,_,_=>exact .gdC (by decide) rfl (.gdI (by decide) (.pure ⟨⟨1,by omega,rfl⟩,by decide⟩))
   | 1,_,_=>exact .gdC (by decide) rfl (.gdI (by decide) (.pure ⟨⟨2,by omega,rfl⟩,by decide⟩))
   | 2,_,_=>exact .gdC (by decide) rfl (.gdI (by decide) (.pure ⟨⟨3,by omega,rfl⟩,by decide⟩))
   | 3,_,h=>exact absurd h (by decide)
  ·have : n=3:=by simp only [] at h;omega
   subst this
   rfl
 ·subst hl
  refine Ret.loop (fun s=>∃ n:Nat,n<=p.length/\s=(evP p n,(n:Int))) (fun s=>((p.length:Int)-s.2).toNat) ⟨0,by omega,rfl⟩ fun s ⟨n,h1,h2⟩ => ?_
  subst h2
  unfold F_spec_l6Events_L17
  refine .bifD (fun h => ?_) fun h => .pure ?_
  ·have hlen:=evP_len hp n
   have hrow:=hp.2 n
   simp only [] at h
   refine Ret.bind (P:=(· = evP p (n+1))) ?_ fun v hv => .gdI (by simp only [];omega) (.pure ⟨⟨n+1,by omega,by rw [hv];rfl⟩,by simp only [];omega⟩)
   refine Ret.loop (fun t=>∃ k:Nat,k<=(p.getD n default).length/\t=(evP p n++evR n (p.getD n default) k,(k:Int))) (fun t=>(((p.getD n default).length:Int)-t.2).toNat) ⟨0,by omega,by simp [evR]⟩ fun t ⟨k,k1,k2⟩ => ?_
   subst k2
   unfold F_spec_l6Events_L25
   simp only [Int.toNat_natCast]
   refine .gdD ⟨by omega,h⟩ (.bifD (fun hk => ?_) fun hk => .pure ?_)
   ·have hl2:=evR_len n (p.getD n default) k
    refine Ret.bind (P:=(· = evP p n++evR n (p.getD n default) (k+1))) (.gdD ⟨by omega,hk⟩ ?_) fun v hv => .gdI (by omega) (.pure ⟨⟨k+1,by omega,by rw [hv];rfl⟩,by simp only [];omega⟩)
    refine .bif (fun ho => ?_) fun ho => .pure ?_
    ·refine (sreads _).bind fun a ha=>(swrites _).bind fun b hb => .gdC (by simp only [List.length_append];omega) rfl (.pure ?_)
     have h4 : ¬ ((p.getD n default).getD k default).Op=4:=by simpa using ho
     subst ha hb
     simp only [evR,evI,if_neg h4,List.append_assoc]
    ·have h4:((p.getD n default).getD k default).Op=4:=by simpa using ho
     simp only [evR,evI,if_pos h4,List.append_nil]
   ·have : k=(p.getD n default).length:=by omega
    subst this
    rfl
  ·have : n=p.length:=by simp only [] at h;omega
   subst this
   rfl
theorem evR_mem {t:Nat} {row:List ZIn} {n:Nat} {e:ZEv} (h:e∈evR t row n):∃ k:Nat,k<n/\e.Thread=t/\e.Index=k:=by
 induction n with
 | zero=>simp [evR] at h
 | succ n ih=>
  simp only [evR,List.mem_append] at h
  rcases h with h | h
  ·obtain ⟨k,h1,h2⟩:=ih h
   exact ⟨k,by omega,h2⟩
  ·unfold evI at h
   split at h
   ·simp at h
   ·rw [List.mem_singleton] at h
    subst h
    exact ⟨n,by omega,rfl,rfl⟩
end Go.Proofs.Ytlmjnhnpahicmaa
namespace Go.Proofs.Ytlmjnhnpahicmaa
open Go.RowKit
set_option maxRecDepth 100000
theorem getD_set_eq {l:List Int} {i j:Nat} {v:Int} (hj:i<l.length):(l.set i v).getD j default=if j=i then v else l.getD j default:=by
 rw [List.getD_eq_getElem?_getD,List.getElem?_set]
 by_cases e:i=j
 ·subst e
  rw [if_pos rfl,if_pos hj,if_pos rfl]
  rfl
 ·rw [if_neg e,if_neg (Ne.symm e),List.getD_eq_getElem?_getD]
theorem getD_memI {l:List Int} {i:Nat} (h:i<l.length):l.getD i default∈l:=by
 rw [List.getD_eq_getElem?_getD,List.getElem?_eq_getElem h]
 exact List.getElem_mem _
theorem set_allI {l:List Int} {P:Int->Prop} (h:∀ v∈l,P v) {i:Nat} {x:Int} (hx:P x):∀ v∈l.set i x,P v:=fun v hv=>by
 rcases List.mem_or_eq_of_mem_set hv with hv | rfl
 ·exact h v hv
 ·exact hx
structure Rel (p:List (List ZIn)) (u:ZVa) (z:ZSt):Prop where
 up:u.p=p
 al:z.at_.length=p.length
 a:∀ i:Nat,i<p.length->z.at_.getD i default=Z3b.get u.pc i
 al1:∀ i:Nat,i<p.length->0<=z.at_.getD i default/\z.at_.getD i default<=((p.getD i default).length:Int)
 rl:z.regs.length=3*p.length
 r:∀ t g:Nat,t<p.length->g<3->z.regs.getD (3*t+g) default=Z3b.get (Z33.get u.reg t) g
 rv:∀ v∈z.regs,0<=v/\v<=3
 ml:z.mem.length=3
 m:∀ l:Nat,l<3->z.mem.getD l default=Z3b.get u.mem l
 mv:∀ v∈z.mem,0<=v/\v<=3
 b:z.buf=[]
section
variable {p:List (List ZIn)} {u:ZVa} {z:ZSt}
theorem Rel.regv (h:Rel p u z) {t g:Nat} (ht:t<p.length) (hg:g<3):0<=Z3b.get (Z33.get u.reg t) g/\Z3b.get (Z33.get u.reg t) g<=3:=by
 rw [<- h.r t g ht hg]
 exact h.rv _ (getD_memI (by rw [h.rl];omega))
theorem Rel.memv (h:Rel p u z) {l:Nat} (hl:l<3):0<=Z3b.get u.mem l/\Z3b.get u.mem l<=3:=by
 rw [<- h.m l hl]
 exact h.mv _ (getD_memI (by rw [h.ml];omega))
theorem contains_ret (s:List Int) (v:Int) (hs:s.length<=1048576):Ret (F_slices_Contains_int_int s v) (· = decide (v∈s)):=by
 unfold F_slices_Contains_int_int
 refine Ret.bind (P:=fun r:Int=>0<=r↔v∈s) ?_ fun r hr => .pure (decide_eq_decide.2 hr)
 unfold F_slices_Index_int_int
 refine Ret.sum (PS:=fun _=>v∉s) (PW:=fun r:Int=>0<=r↔v∈s) ?_ fun _ hn => .pure ⟨fun h=>absurd h (by decide),fun h=>absurd h hn⟩
 refine Ret.loop (fun i=>0<=i/\i<=(s.length:Int)/\∀ j:Nat,(j:Int)<i->s[j]? ≠ some v) (fun i=>((s.length:Int)-i).toNat) ⟨Int.le_refl _,by omega,fun j hj=>absurd hj (by omega)⟩ fun i ⟨h1,h2,h3⟩ => ?_
 unfold F_slices_Index_int_int_L5
 refine .bifD (fun hlt => .gdD ⟨h1,hlt⟩ ?_) fun hge => .pure fun hm => ?_
 ·have hi:i.toNat<s.length:=by omega
  have e:s.getD i.toNat default=s[i.toNat]:=by rw [List.getD_eq_getElem?_getD,List.getElem?_eq_getElem hi];rfl
  rw [e]
  refine .bif (fun hb => .pure ⟨fun _ => ?_,fun _=>h1⟩) fun hb => .gdI (by omega) (.pure ⟨⟨by omega,by omega,fun j hj => ?_⟩,by omega⟩)
  ·have : v=s[i.toNat]:=by simpa using hb
   rw [this]
   exact List.getElem_mem _
  ·by_cases ej:j=i.toNat
   ·subst ej
    rw [List.getElem?_eq_getElem hi]
    intro he
    have := Option.some.inj he
    rw [this] at hb
    simp at hb
   ·exact h3 j (by omega)
 ·obtain ⟨j,hj,rfl⟩:=List.getElem_of_mem hm
  exact h3 j (by omega) (List.getElem?_eq_getElem hj)
def valS (z:ZSt) (t:Int) (x:ZIn):Int:=if x.Op=3 then z.regs.getD (t*3+x.Reg).toNat default else x.Val
def aftS (z:ZSt) (t:Int) (x:ZIn):ZSt:=
 ⟨z.at_.set t.toNat (z.at_.getD t.toNat default+1),if rdX x=true then z.regs.set (t*3+x.Reg).toNat (z.mem.getD x.Loc.toNat default) else z.regs,if wrX x=true then z.mem.set x.Loc.toNat (valS z t x) else z.mem,[]⟩
theorem Rel.after (hp:PV p) (h:Rel p u z) {t:Int} (ht:0<=t/\t<(p.length:Int)) (hlt:z.at_.getD t.toNat default<((p.getD t.toNat default).length:Int)) {x:ZIn} (hx:InR x):Rel p (aftI u t x) (aftS z t x):=by
 have hl:=hp.vs.1
 obtain ⟨n,rfl⟩:∃ n:Nat,t=n:=⟨t.toNat,by omega⟩
 simp only [Int.toNat_natCast] at hlt
 have hn:n<p.length:=by omega
 obtain ⟨x1,x2,x3,x4,x5,x6⟩:=hx
 obtain ⟨l,hlx⟩:∃ l:Nat,x.Loc=l:=⟨x.Loc.toNat,by omega⟩
 obtain ⟨g,hgx⟩:∃ g:Nat,x.Reg=g:=⟨x.Reg.toNat,by omega⟩
 have e3:((n:Int)*3+(g:Int)).toNat=3*n+g:=by omega
 have hval:valI u n x=valS z n x:=by
  unfold valI valS
  split
  ·rw [hgx,e3,h.r n g hn (by omega)]
  ·rfl
 have hvv:0<=valS z n x/\valS z n x<=3:=by
  rw [<- hval]
  unfold valI
  split
  ·rw [hgx]
   exact h.regv hn (by omega)
  ·omega
 unfold aftI aftS
 simp only [Int.toNat_natCast]
 refine ⟨h.up,by simp only [List.length_set];exact h.al,fun i hi => ?_,fun i hi => ?_,?_,fun t' g' ht' hg' => ?_,?_,?_,fun l' hl' => ?_,?_,rfl⟩
 ·simp only []
  rw [getD_set_eq (by rw [h.al];exact hn),get_set3 _ _ _ _ (by omega) (by omega),h.a i hi,h.a n hn]
  by_cases e:i=n
  ·rw [if_pos e,if_pos (by omega)]
  ·rw [if_neg e,if_neg (by omega)]
 ·simp only []
  rw [getD_set_eq (by rw [h.al];exact hn)]
  by_cases e:i=n
  ·subst e
   have := h.al1 i hi
   rw [if_pos rfl]
   omega
  ·rw [if_neg e]
   exact h.al1 i hi
 ·simp only []
  split
  ·rw [List.length_set];exact h.rl
  ·exact h.rl
 ·simp only []
  split
  ·rw [hlx,hgx,e3,Int.toNat_natCast,getD_set_eq (by rw [h.rl];omega),get_set33 _ _ _ _ (by omega) (by omega)]
   by_cases e:t'=n
   ·subst e
    rw [if_pos rfl,get_set3 _ _ _ _ (by omega) (by omega)]
    by_cases e2:g'=g
    ·subst e2
     rw [if_pos rfl,if_pos rfl,h.m l (by omega)]
    ·rw [if_neg (by omega),if_neg (by omega)]
     exact h.r t' g' ht' hg'
   ·rw [if_neg (by omega),if_neg (by omega)]
    exact h.r t' g' ht' hg'
  ·exact h.r t' g' ht' hg'
 ·simp only []
  split
  ·refine set_allI h.rv ?_
   rw [hlx,Int.toNat_natCast,h.m l (by omega)]
   exact h.memv (by omega)
  ·exact h.rv
 ·simp only []
  split
  ·rw [List.length_set];exact h.ml
  ·exact h.ml
 ·simp only []
  split
  ·rw [hlx,Int.toNat_natCast,getD_set_eq (by rw [h.ml];omega),get_set3 _ _ _ _ (by omega) (by omega),hval]
   by_cases e:l'=l
   ·rw [if_pos e,if_pos (by omega)]
   ·rw [if_neg e,if_neg (by omega)]
    exact h.m l' hl'
  ·exact h.m l' hl'
 ·simp only []
  split
  ·exact set_allI h.mv hvv
  ·exact h.mv
def Good (p:List (List ZIn)) (s:List Int) (n:Nat):Prop:=∀ j,j<n->(0<=s.getD j default/\s.getD j default<(p.length:Int))/\(s.take j).count (s.getD j default)<(p.getD (s.getD j default).toNat default).length
theorem take_count {s:List Int} {i:Nat} (h:i<s.length) (v:Int):(s.take (i+1)).count v=(s.take i).count v+if s.getD i default=v then 1 else 0:=by
 have e:s.getD i default=s[i]:=by rw [List.getD_eq_getElem?_getD,List.getElem?_eq_getElem h];rfl
 rw [<- List.take_append_getElem h,List.count_append,List.count_singleton,e]
 simp only [beq_iff_eq]
end
end Go.Proofs.Ytlmjnhnpahicmaa
namespace Go.Proofs.Ytlmjnhnpahicmaa
open Go.RowKit
set_option maxRecDepth 100000
section
variable {p:List (List ZIn)} {u:ZVa} {z:ZSt}
def u0 (p:List (List ZIn)):ZVa:=⟨p,⟨0,0,0⟩,⟨⟨0,0,0⟩,⟨0,0,0⟩,⟨0,0,0⟩⟩,⟨0,0,0⟩⟩
def Whole (p:List (List ZIn)) (s:List Int):Prop:=validB (p.map fun r=>r.map toIns)=true/\Good p s s.length/\∀ t:Nat,t<p.length->s.count (t:Int)=(p.getD t default).length
end
end Go.Proofs.Ytlmjnhnpahicmaa
namespace Go.Proofs.Ytlmjnhnpahicmaa
open Go.RowKit
set_option maxRecDepth 100000
section
variable {α β W:Type} [Inhabited α]
theorem eqLoop {a b:List α} [DecidableEq α] (hl:a.length=b.length) {bad:W} {step:Int->Option (Int ⊕ (Unit ⊕ W))}
  (hs:∀ i:Int,0<=i->i<(a.length:Int)->Ret (step i) (· = if a.getD i.toNat default=b.getD i.toNat default then .inl (i+1) else .inr (.inr bad)))
  (he:∀ i:Int,¬ i<(a.length:Int)->step i=some (.inr (.inl ()))):Ret (loopO step 0) (· = if a=b then .inl () else .inr bad):=by
 refine Ret.loop (fun i=>0<=i/\i<=(a.length:Int)/\∀ j:Nat,(j:Int)<i->a[j]? = b[j]?) (fun i=>((a.length:Int)-i).toNat) ⟨Int.le_refl _,by omega,fun i hi=>absurd hi (by omega)⟩ fun i ⟨h1,h2,h3⟩ => ?_
 by_cases h:i<(a.length:Int)
 ·refine (hs i h1 h).mono ?_
  have ha:i.toNat<a.length:=by omega
  have hb:i.toNat<b.length:=by omega
  have ea:a.getD i.toNat default=a[i.toNat]:=by rw [List.getD_eq_getElem?_getD,List.getElem?_eq_getElem ha];rfl
  have eb:b.getD i.toNat default=b[i.toNat]:=by rw [List.getD_eq_getElem?_getD,List.getElem?_eq_getElem hb];rfl
  rintro _ rfl
  by_cases e:a.getD i.toNat default=b.getD i.toNat default
  ·rw [if_pos e]
   refine ⟨⟨by omega,by omega,fun j hj => ?_⟩,by omega⟩
   by_cases ej:j=i.toNat
   ·subst ej
    rw [List.getElem?_eq_getElem ha,List.getElem?_eq_getElem hb,<- ea,<- eb,e]
   ·exact h3 j (by omega)
  ·rw [if_neg e]
   show _=_
   rw [if_neg]
   rintro rfl
   exact e rfl
 ·rw [he i h]
  refine .pure ?_
  show _=_
  rw [if_pos]
  refine List.ext_getElem? fun j => ?_
  by_cases hj:(j:Int)<i
  ·exact h3 j hj
  ·rw [List.getElem?_eq_none (by omega),List.getElem?_eq_none (by omega)]
end
instance:DecidableEq ZIn:=fun a b=>decidable_of_iff (a.Op=b.Op/\a.Loc=b.Loc/\a.Reg=b.Reg/\a.Val=b.Val) ⟨fun ⟨h1,h2,h3,h4⟩=>by cases a;cases b;simp only at h1 h2 h3 h4;subst h1 h2 h3 h4;rfl,fun h=>by subst h;exact ⟨rfl,rfl,rfl,rfl⟩⟩
end Go.Proofs.Ytlmjnhnpahicmaa
namespace Go.Proofs.Ytlmjnhnpahicmaa
open Go.RowKit
set_option maxRecDepth 100000
section
variable {p:List (List ZIn)}
def base (p:List (List ZIn)) (t k:Nat):Nat:=(evP p t).length+(evR t (p.getD t default) k).length
def num (p:List (List ZIn)) (t k:Nat):Int:=if ((p.getD t default).getD k default).Op=4 then -1 else (base p t k:Int)
theorem evR_pre (t:Nat) (row:List ZIn):∀ {n m:Nat},n<=m->evR t row n <+: evR t row m:=by
 intro n m h
 induction h with
 | refl=>exact List.prefix_refl _
 | step _ ih=>exact ih.trans (List.prefix_append _ _)
theorem evP_pre (p:List (List ZIn)):∀ {n m:Nat},n<=m->evP p n <+: evP p m:=by
 intro n m h
 induction h with
 | refl=>exact List.prefix_refl _
 | step _ ih=>exact ih.trans (List.prefix_append _ _)
theorem pre_getD {l m:List ZEv} (h:l <+: m) {i:Nat} (hi:i<l.length):m.getD i default=l.getD i default/\i<m.length:=by
 obtain ⟨r,rfl⟩:=h
 refine ⟨?_,by rw [List.length_append];omega⟩
 rw [List.getD_eq_getElem?_getD,List.getD_eq_getElem?_getD,List.getElem?_append_left hi]
theorem num_ev {t k:Nat} (ht:t<p.length) (hk:k<(p.getD t default).length) (ho : ¬ ((p.getD t default).getD k default).Op=4) :
  (evs p).getD (base p t k) default=⟨t,k,((p.getD t default).getD k default).Loc,rdX ((p.getD t default).getD k default),wrX ((p.getD t default).getD k default)⟩/\base p t k<(evs p).length:=by
 have h1:evP p t++(evR t (p.getD t default) k++[⟨t,k,((p.getD t default).getD k default).Loc,rdX ((p.getD t default).getD k default),wrX ((p.getD t default).getD k default)⟩]) <+: evs p:=by
  refine List.IsPrefix.trans ?_ (evP_pre p (show t+1<=p.length by omega))
  refine (List.prefix_append_right_inj _).2 ?_
  refine List.IsPrefix.trans ?_ (evR_pre t (p.getD t default) (show k+1<=(p.getD t default).length by omega))
  show _ <+: evR t (p.getD t default) k++evI t k ((p.getD t default).getD k default)
  unfold evI
  rw [if_neg ho]
  exact List.prefix_refl _
 obtain ⟨e1,e2⟩:=pre_getD h1 (i:=base p t k) (by simp only [base,List.length_append,List.length_singleton];omega)
 refine ⟨e1.trans ?_,e2⟩
 rw [List.getD_eq_getElem?_getD,base,List.getElem?_append_right (by omega),Nat.add_sub_cancel_left,List.getElem?_append_right (by omega),Nat.sub_self]
 rfl
def stepN (p:List (List ZIn)) (t k:Nat):List Int:=if ((p.getD t default).getD k default).Op=4 then [] else [(base p t k:Int)]
def stT (s:List Int) (j:Nat):Nat:=(s.getD j default).toNat
def stK (s:List Int) (j:Nat):Nat:=(s.take j).count (s.getD j default)
def ordF (p:List (List ZIn)) (s:List Int):Nat->List Int
 | 0=>[]
 | n+1=>ordF p s n++stepN p (stT s n) (stK s n)
theorem evs_len {p:List (List ZIn)} (h:Vs p):(evs p).length<=24:=by
 have h1:=evP_len h p.length
 have h2:=h.1
 unfold evs
 omega
end
end Go.Proofs.Ytlmjnhnpahicmaa
namespace Go.Proofs.Ytlmjnhnpahicmaa
open Go.RowKit
set_option maxRecDepth 100000
section
variable {p:List (List ZIn)}
theorem getD_nil (l:List (List Int)) (i:Nat):l.getD i default=l.getD i []:=rfl
theorem getD_setL {l:List (List Int)} {i j:Nat} {v:List Int} (hi:i<l.length):(l.set i v).getD j []=if j=i then v else l.getD j []:=by
 rw [List.getD_eq_getElem?_getD,List.getElem?_set]
 by_cases e:i=j
 ·subst e
  rw [if_pos rfl,if_pos hi,if_pos rfl]
  rfl
 ·rw [if_neg e,if_neg (Ne.symm e),List.getD_eq_getElem?_getD]
def numR (p:List (List ZIn)) (t k:Nat):List Int:=(List.range k).map (num p t)
theorem numR_succ (t k:Nat):numR p t (k+1)=numR p t k++[num p t k]:=by
 unfold numR
 rw [List.range_succ,List.map_append]
 rfl
theorem numbers_ret (hp:PV p):Ret (F_impl_numbers p) fun l=>l.length=p.length/\∀ t:Nat,t<p.length->l.getD t []=numR p t (p.getD t default).length:=by
 have hl:=hp.vs.1
 unfold F_impl_numbers
 refine .gdD (by omega) ?_
 refine Ret.bind (P:=fun l=>l.length=p.length/\∀ t:Nat,t<p.length->l.getD t []=numR p t (p.getD t default).length) ?_ fun v hv => .pure hv
 refine Ret.loop (fun z=>∃ n:Nat,n<=p.length/\z.2.1=(n:Int)/\z.2.2=((evP p n).length:Int)/\z.1.length=p.length/\∀ t:Nat,t<p.length->z.1.getD t []=if t<n then numR p t (p.getD t default).length else []) (fun z=>((p.length:Int)-z.2.1).toNat) ⟨0,by omega,rfl,rfl,by simp,fun t ht => ?_⟩ fun z ⟨n,h1,h2,h3,h4,h5⟩ => ?_
 ·simp only []
  rw [if_neg (by omega),List.getD_eq_getElem?_getD,List.getElem?_replicate]
  split <;> rfl
 ·obtain ⟨l,i,c⟩:=z
  simp only at h2 h3 h4 h5
  subst h2 h3
  unfold F_impl_numbers_L14
  refine .bifD (fun hk => ?_) fun hk => .pure ?_
  ·simp only [] at hk
   have hn:n<p.length:=by omega
   have hrow:=hp.vs.2 n
   have hlen:=evP_len hp.vs n
   refine Ret.bind (P:=fun y=>y.2=((evP p (n+1)).length:Int)/\y.1.length=p.length/\∀ t:Nat,t<p.length->y.1.getD t []=if t<n+1 then numR p t (p.getD t default).length else []) (.gdD ⟨by simp only [];omega,hk⟩ ?_) fun v ⟨v1,v2,v3⟩ => .gdI (by simp only [];omega) (.pure ⟨⟨n+1,by omega,rfl,v1,v2,v3⟩,by simp only [];omega⟩)
   refine Ret.loop (fun y=>∃ k:Nat,k<=(p.getD n default).length/\y.2.1=(k:Int)/\y.2.2=(base p n k:Int)/\y.1.length=p.length/\∀ t:Nat,t<p.length->y.1.getD t []=if t<n then numR p t (p.getD t default).length else if t=n then numR p t k else []) (fun y=>(((p.getD n default).length:Int)-y.2.1).toNat) ⟨0,by omega,rfl,by simp [base,evR],h4,fun t ht => ?_⟩ fun y ⟨k,k1,k2,k3,k4,k5⟩ => ?_
   ·rw [h5 t ht]
    by_cases e:t<n
    ·rw [if_pos e,if_pos e]
    ·rw [if_neg e,if_neg e]
     split <;> rfl
   ·obtain ⟨l',i',c'⟩:=y
    simp only at k2 k3 k4 k5
    subst k2 k3
    unfold F_impl_numbers_L33
    simp only [Int.toNat_natCast]
    refine .bifD (fun hkk => ?_) fun hkk => .pure ?_
    ·have hR:=evR_len n (p.getD n default) k
     have hb:base p n k<=31:=by unfold base;omega
     have hrn:=k5 n hn
     rw [if_neg (Nat.lt_irrefl n),if_pos rfl] at hrn
     have hrl:(numR p n k).length=k:=by simp [numR]
     have hfin:∀ (v:Int),v=num p n k->∀ t:Nat,t<p.length->(l'.set n (numR p n k++[v])).getD t []=if t<n then numR p t (p.getD t default).length else if t=n then numR p t (k+1) else []:=fun v hv t ht=>by
      rw [getD_setL (by omega)]
      by_cases e:t=n
      ·subst e
       rw [if_pos rfl,if_neg (Nat.lt_irrefl t),if_pos rfl,numR_succ,hv]
      ·rw [if_neg e,k5 t ht]
       by_cases e2:t<n
       ·rw [if_pos e2,if_pos e2]
       ·rw [if_neg e2,if_neg e2,if_neg e,if_neg e]
     refine Ret.bind (P:=fun y=>y.2=(base p n (k+1):Int)/\y.1.length=p.length/\∀ t:Nat,t<p.length->y.1.getD t []=if t<n then numR p t (p.getD t default).length else if t=n then numR p t (k+1) else []) (.gdD ⟨by omega,hkk⟩ (.bif (fun ho => ?_) fun ho => ?_)) fun v ⟨v1,v2,v3⟩ => .gdI (by omega) (.pure ⟨⟨k+1,by omega,rfl,v1,v2,v3⟩,by simp only [];omega⟩)
     ·have ho:((p.getD n default).getD k default).Op=4:=by simpa using ho
      refine .gdD ⟨by omega,by omega⟩ (.gd (capOK_le (by rw [hrn,hrl];omega) rfl) (.pure ⟨?_,by simp only [List.length_set];exact k4,?_⟩))
      ·simp only [base,evR,evI,if_pos ho,List.append_nil]
      ·rw [hrn]
       exact hfin _ (by rw [num,if_pos ho])
     ·have ho : ¬ ((p.getD n default).getD k default).Op=4:=by simpa using ho
      refine .gdD ⟨by omega,by omega⟩ (.gd (capOK_le (by rw [hrn,hrl];omega) rfl) (.gdI (by omega) (.pure ⟨?_,by simp only [List.length_set];exact k4,?_⟩)))
      ·simp only [base,evR,evI,if_neg ho,List.length_append,List.length_singleton]
       omega
      ·rw [hrn]
       exact hfin _ (by rw [num,if_neg ho])
    ·have : k=(p.getD n default).length:=by omega
     subst this
     refine ⟨?_,k4,fun t ht => ?_⟩
     ·simp only [base,evP,List.length_append]
     ·simp only []
      rw [k5 t ht]
      by_cases e:t=n
      ·subst e
       rw [if_neg (Nat.lt_irrefl t),if_pos rfl,if_pos (by omega)]
      ·by_cases e2:t<n
       ·rw [if_pos e2,if_pos (by omega)]
       ·rw [if_neg e2,if_neg e,if_neg (by omega)]
  ·simp only [] at hk
   have : n=p.length:=by omega
   subst this
   refine ⟨h4,fun t ht => ?_⟩
   rw [h5 t ht,if_pos ht]
abbrev XS:=List Int×List (List Int)
def stX (p:List (List ZIn)) (st:XS) (n:Int):XS:=
  (if ((evs p).getD n.toNat default).Reads=true then st.1.set n.toNat ((st.2.getD ((evs p).getD n.toNat default).Loc.toNat []).getD (((st.2.getD ((evs p).getD n.toNat default).Loc.toNat []).length:Int)-1).toNat default) else st.1,
   st.2.set ((evs p).getD n.toNat default).Loc.toNat (if ((evs p).getD n.toNat default).Writes=true then st.2.getD ((evs p).getD n.toNat default).Loc.toNat []++[n] else st.2.getD ((evs p).getD n.toNat default).Loc.toNat []))
def x0 (p:List (List ZIn)):XS:=(List.replicate (evs p).length (-1),[[0],[1],[2]])
def runX (p:List (List ZIn)) (l:List Int):XS:=l.foldl (stX p) (x0 p)
theorem runX_snoc (l:List Int) (n:Int):runX p (l++[n])=stX p (runX p l) n:=by
 unfold runX
 rw [List.foldl_append]
 rfl
def OkN (p:List (List ZIn)) (n:Int):Prop:=(0<=n/\n<((evs p).length:Int))/\0<=((evs p).getD n.toNat default).Loc/\((evs p).getD n.toNat default).Loc<=2
structure InX (p:List (List ZIn)) (m:Nat) (st:XS):Prop where
 f:st.1.length=(evs p).length
 o:st.2.length=3
 r:∀ i:Nat,i<3->1<=(st.2.getD i []).length/\(st.2.getD i []).length<=m+1
theorem InX.x0:InX p 0 (x0 p):=⟨by simp [Ytlmjnhnpahicmaa.x0],rfl,fun i hi=>by
 match i,hi with
 | 0,_=>exact ⟨Nat.le_refl 1,Nat.le_refl 1⟩
 | 1,_=>exact ⟨Nat.le_refl 1,Nat.le_refl 1⟩
 | 2,_=>exact ⟨Nat.le_refl 1,Nat.le_refl 1⟩⟩
theorem InX.step {m:Nat} {st:XS} {n:Int} (h:InX p m st) (hn:OkN p n):InX p (m+1) (stX p st n):=by
 obtain ⟨_,h2,h3⟩:=hn
 unfold stX
 refine ⟨?_,by simp only [List.length_set];exact h.o,fun i hi => ?_⟩
 ·simp only []
  split
  ·rw [List.length_set];exact h.f
  ·exact h.f
 ·simp only []
  rw [getD_setL (by rw [h.o];omega)]
  have hr:=h.r ((evs p).getD n.toNat default).Loc.toNat (by omega)
  have hi':=h.r i hi
  split
  ·split
   ·simp only [List.length_append,List.length_singleton];omega
   ·omega
  ·omega
theorem InX.runs:∀ {l:List Int} {m:Nat} {st:XS},InX p m st->(∀ n∈l,OkN p n)->InX p (m+l.length) (l.foldl (stX p) st)
 | [],_,_,h,_=>h
 | n::l,m,st,h,k=>by
  have := InX.runs (h.step (k n (List.mem_cons_self))) fun x hx=>k x (List.mem_cons_of_mem _ hx)
  rw [List.length_cons,show m+(l.length+1)=m+1+l.length by omega]
  exact this
theorem InX.run {l:List Int} (h:∀ n∈l,OkN p n):InX p l.length (runX p l):=by
 have := InX.runs InX.x0 h
 rwa [Nat.zero_add] at this
theorem step_ok (hp:PV p) {t k:Nat} (ht:t<p.length) (hk:k<(p.getD t default).length):∀ n∈stepN p t k,OkN p n:=by
 intro n hn
 unfold stepN at hn
 split at hn
 ·simp at hn
 ·rename_i ho
  rw [List.mem_singleton] at hn
  subst hn
  obtain ⟨e1,e2⟩:=num_ev ht hk ho
  have hx:=hp.ins t k ht hk
  refine ⟨by omega,?_⟩
  rw [Int.toNat_natCast,e1]
  exact ⟨hx.1,hx.2.1⟩
theorem good_at {s:List Int} (hg:Good p s s.length) {j:Nat} (hj:j<s.length):stT s j<p.length/\((stT s j:Nat):Int)=s.getD j default/\stK s j<(p.getD (stT s j) default).length:=by
 obtain ⟨g1,g2⟩:=hg j hj
 unfold stT stK
 exact ⟨by omega,by omega,g2⟩
theorem ord_ok (hp:PV p) {s:List Int} (hg:Good p s s.length):∀ {n:Nat},n<=s.length->∀ m∈ordF p s n,OkN p m:=by
 intro n
 induction n with
 | zero=>intro _ m hm;simp [ordF] at hm
 | succ n ih=>
  intro hn m hm
  simp only [ordF,List.mem_append] at hm
  rcases hm with hm | hm
  ·exact ih (by omega) m hm
  ·obtain ⟨h1,_,h3⟩:=good_at hg (j:=n) (by omega)
   exact step_ok hp h1 h3 m hm
theorem get_set3i (a:Z3i) (q i v:Int) (hq:0<=q/\q<=2) (hi:0<=i/\i<=2):Z3i.get (Z3i.set a q v) i=if i=q then v else Z3i.get a i:=by
 obtain ⟨x,y,z⟩:=a
 have h1:q=0\/q=1\/q=2:=by omega
 have h2:i=0\/i=1\/i=2:=by omega
 rcases h1 with rfl | rfl | rfl <;> rcases h2 with rfl | rfl | rfl <;> rfl
end
end Go.Proofs.Ytlmjnhnpahicmaa
namespace Go.Proofs.Ytlmjnhnpahicmaa
open Go.RowKit
set_option maxRecDepth 100000
theorem equalE_ret {a b:List Int} (h:a.length<=4000000):Ret (F_slices_Equal_int_int a b) (· = decide (a=b)):=by
 unfold F_slices_Equal_int_int
 refine .bif (fun hn => .pure ?_) fun hn => ?_
 ·rw [decide_eq_false]
  rintro rfl
  simp at hn
 ·have hl:a.length=b.length:=by
   have : (a.length:Int)=(b.length:Int):=by simpa using hn
   omega
  refine Ret.sum (PS:=fun _=>a=b) (PW:=(· = decide (a=b))) ((eqLoop hl (bad:=false) (fun i h1 h2 => ?_) fun i hi => ?_).mono fun v hv => ?_) fun _ e => .pure (decide_eq_true e).symm
  ·unfold F_slices_Equal_int_int_L6
   refine .bifD (fun _ => .gdD ⟨h1,h2⟩ (.gdD ⟨h1,by omega⟩ (.bif (fun hb => .pure ?_) fun hb => .gdI (by omega) (.pure ?_)))) fun h=>absurd h2 h
   ·rw [if_neg (by simpa using hb)]
   ·rw [if_pos (by simpa using hb)]
  ·unfold F_slices_Equal_int_int_L6
   rw [decide_eq_false hi]
   rfl
  ·subst hv
   by_cases e:a=b
   ·rw [if_pos e];exact e
   ·rw [if_neg e];exact (decide_eq_false e).symm
def EB (e:ZEx):Prop:=e.From.length<=4000000/\e.Order.length<=4000000/\∀ i:Nat,(e.Order.getD i default).length<=4000000
def same (a b:ZEx):Bool:=decide (a.From=b.From)&&decide (a.Order=b.Order)
end Go.Proofs.Ytlmjnhnpahicmaa
