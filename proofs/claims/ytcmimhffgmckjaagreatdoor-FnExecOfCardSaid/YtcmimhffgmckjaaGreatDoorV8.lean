/- Texts joined. No conditions. -/
import Derived.Test.YtcmimhffgmckjaaGreatDoorV7
namespace Go.Proofs.YtcmimhffgmckjaaGreatDoor
noncomputable section
open Go.RowKit
set_option maxRecDepth 100000
def evI (t k:Nat) (x:Mh):List Mj:=if x.Op=4 then [] else [⟨t,k,x.Loc,rdX x,wrX x⟩]
def Mq (t:Nat) (row:List Mh):Nat->List Mj
 | 0=>[]
 | n+1=>Mq t row n++evI t n (row.getD n default)
def ev0:List Mj:=[⟨-1,0,0,false,true⟩,⟨-1,1,1,false,true⟩,⟨-1,2,2,false,true⟩]
def evP (p:List (List Mh)):Nat->List Mj
 | 0=>ev0
 | n+1=>evP p n++Mq n (p.getD n default) (p.getD n default).length
def evs (p:List (List Mh)):List Mj:=evP p p.length
theorem F8 (t k:Nat) (x:Mh):(evI t k x).length<=1:=by unfold evI;split <;> simp
theorem Bq (t:Nat) (row:List Mh) (n:Nat):(Mq t row n).length<=n:=by
 induction n with
 | zero=>exact Nat.le_refl _
 | succ n ih=>
  have := F8 t n (row.getD n default);simp only [Mq,lla];omega
theorem Bs {p:List (List Mh)} (h:Vs p) (n:Nat):(evP p n).length<=3+7*n:=by
 induction n with
 | zero=>exact Nat.le_refl _
 | succ n ih=>
  have h1:=Bq n (p.getD n default) (p.getD n default).length;have h2:=h.2 n;simp only [evP,lla];omega
theorem I5 (x:Mh):Mo (ku x) (· = rdX x):=by
 unfold ku rdX;exact Mo.bind (P:=(· = (x.Op==1||x.Op==5))) (.bif (fun h => .pure (by rw [h];rfl)) fun h => .pure (by rw [h];rfl)) fun v hv => .pure hv
theorem F9 (x:Mh):Mo (iS x) (· = wrX x):=by
 unfold iS wrX;exact Mo.bind (P:=(· = (x.Op==2||x.Op==3))) (.bif (fun h => .pure (by rw [h];rfl)) fun h => .pure (by rw [h];rfl)) fun v hv=>Mo.bind (P:=(· = (x.Op==2||x.Op==3||x.Op==5))) (.bif (fun h => .pure (by rw [<- hv,h];rfl)) fun h => .pure (by rw [<- hv,h];rfl)) fun v hv => .pure hv
theorem zA {p:List (List Mh)} (hp:Vs p):Mo (fE p) (· = evs p):=by
 have hpl:=hp.1;unfold fE;refine Mo.bind (P:=(· = ev0)) ?_ fun l hl=>Mo.bind (P:=(· = evs p)) ?_ fun v hv => .pure hv
 ·refine Mo.loop (fun s=>∃ n:Nat,n<=3/\s=(ev0.take n,(n:Int))) (fun s=>(3-s.2).toNat) ⟨0,by omega,rfl⟩ fun s ⟨n,h1,h2⟩ => ?_;subst h2;unfold nX;refine .bifD (fun h=>?_) fun h => .pure ?_
  ·match n,h1,h with
   | 0,_,_=>exact .gdC (by decide) rfl (.gdI (by decide) (.pure ⟨⟨1,by omega,rfl⟩,by decide⟩))
   | 1,_,_=>exact .gdC (by decide) rfl (.gdI (by decide) (.pure ⟨⟨2,by omega,rfl⟩,by decide⟩))
   | 2,_,_=>exact .gdC (by decide) rfl (.gdI (by decide) (.pure ⟨⟨3,by omega,rfl⟩,by decide⟩))
   | 3,_,h=>exact absurd h (by decide)
  ·have : n=3:=by simp only [] at h;omega
   subst this
   rfl
 ·subst hl;refine Mo.loop (fun s=>∃ n:Nat,n<=p.length/\s=(evP p n,(n:Int))) (fun s=>((p.length:Int)-s.2).toNat) ⟨0,by omega,rfl⟩ fun s ⟨n,h1,h2⟩ => ?_;subst h2;unfold m7;refine .bifD (fun h=>?_) fun h => .pure ?_
  ·have hlen:=Bs hp n;have hrow:=hp.2 n;simp only [] at h;refine Mo.bind (P:=(· = evP p (n+1))) (.gdD ⟨by simp only [];omega,h⟩ ?_) fun v hv => .gdI (by simp only [];omega) (.pure ⟨⟨n+1,by omega,by rw [hv];rfl⟩,by simp only [];omega⟩);refine Mo.loop (fun t=>∃ k:Nat,k<=(p.getD n default).length/\t=(evP p n++Mq n (p.getD n default) k,(k:Int))) (fun t=>(((p.getD n default).length:Int)-t.2).toNat) ⟨0,by omega,by simp [Mq]⟩ fun t ⟨k,k1,k2⟩ => ?_;subst k2;unfold m6;simp only [tnn];refine .bifD (fun hk=>?_) fun hk => .pure ?_
   ·have hl2:=Bq n (p.getD n default) k;refine Mo.bind (P:=(· = evP p n++Mq n (p.getD n default) (k+1))) (.gdD ⟨by omega,hk⟩ ?_) fun v hv => .gdI (by omega) (.pure ⟨⟨k+1,by omega,by rw [hv];rfl⟩,by simp only [];omega⟩);refine .bif (fun ho=>?_) fun ho => .pure ?_
    ·refine (F6 _).bind fun a ha=>(Dl _).bind fun b hb => .gdC (by simp only [lla];omega) rfl (.pure ?_);have h4 : ¬ ((p.getD n default).getD k default).Op=4:=by simpa using ho
     subst ha hb;simp only [Mq,evI,if_neg h4,List.append_assoc]
    ·have h4:((p.getD n default).getD k default).Op=4:=by simpa using ho
     simp only [Mq,evI,if_pos h4,List.append_nil]
   ·have : k=(p.getD n default).length:=by omega
    subst this
    rfl
  ·have : n=p.length:=by simp only [] at h;omega
   subst this
   rfl
theorem Ga {p:List (List Mh)} (hp:Vs p):Mo (iT p) (· = evs p):=by
 have hpl:=hp.1;unfold iT;refine Mo.bind (P:=(· = ev0)) ?_ fun l hl=>Mo.bind (P:=(· = evs p)) ?_ fun v hv => .pure hv
 ·refine Mo.loop (fun s=>∃ n:Nat,n<=3/\s=(ev0.take n,(n:Int))) (fun s=>(3-s.2).toNat) ⟨0,by omega,rfl⟩ fun s ⟨n,h1,h2⟩ => ?_;subst h2;unfold lN;refine .bifD (fun h=>?_) fun h => .pure ?_
  ·match n,h1,h with
   | 0,_,_=>exact .gdC (by decide) rfl (.gdI (by decide) (.pure ⟨⟨1,by omega,rfl⟩,by decide⟩))
   | 1,_,_=>exact .gdC (by decide) rfl (.gdI (by decide) (.pure ⟨⟨2,by omega,rfl⟩,by decide⟩))
   | 2,_,_=>exact .gdC (by decide) rfl (.gdI (by decide) (.pure ⟨⟨3,by omega,rfl⟩,by decide⟩))
   | 3,_,h=>exact absurd h (by decide)
  ·have : n=3:=by simp only [] at h;omega
   subst this
   rfl
 ·subst hl;refine Mo.loop (fun s=>∃ n:Nat,n<=p.length/\s=(evP p n,(n:Int))) (fun s=>((p.length:Int)-s.2).toNat) ⟨0,by omega,rfl⟩ fun s ⟨n,h1,h2⟩ => ?_;subst h2;unfold kV;refine .bifD (fun h=>?_) fun h => .pure ?_
  ·have hlen:=Bs hp n;have hrow:=hp.2 n;simp only [] at h;refine Mo.bind (P:=(· = evP p (n+1))) ?_ fun v hv => .gdI (by simp only [];omega) (.pure ⟨⟨n+1,by omega,by rw [hv];rfl⟩,by simp only [];omega⟩);refine Mo.loop (fun t=>∃ k:Nat,k<=(p.getD n default).length/\t=(evP p n++Mq n (p.getD n default) k,(k:Int))) (fun t=>(((p.getD n default).length:Int)-t.2).toNat) ⟨0,by omega,by simp [Mq]⟩ fun t ⟨k,k1,k2⟩ => ?_;subst k2;unfold kU;simp only [tnn];refine .gdD ⟨by omega,h⟩ (.bifD (fun hk=>?_) fun hk => .pure ?_)
   ·have hl2:=Bq n (p.getD n default) k;refine Mo.bind (P:=(· = evP p n++Mq n (p.getD n default) (k+1))) (.gdD ⟨by omega,hk⟩ ?_) fun v hv => .gdI (by omega) (.pure ⟨⟨k+1,by omega,by rw [hv];rfl⟩,by simp only [];omega⟩);refine .bif (fun ho=>?_) fun ho => .pure ?_
    ·refine (I5 _).bind fun a ha=>(F9 _).bind fun b hb => .gdC (by simp only [lla];omega) rfl (.pure ?_);have h4 : ¬ ((p.getD n default).getD k default).Op=4:=by simpa using ho
     subst ha hb;simp only [Mq,evI,if_neg h4,List.append_assoc]
    ·have h4:((p.getD n default).getD k default).Op=4:=by simpa using ho
     simp only [Mq,evI,if_pos h4,List.append_nil]
   ·have : k=(p.getD n default).length:=by omega
    subst this
    rfl
  ·have : n=p.length:=by simp only [] at h;omega
   subst this
   rfl
theorem JC {t:Nat} {row:List Mh} {n:Nat} {e:Mj} (h:e∈Mq t row n):∃ k:Nat,k<n/\e.Thread=t/\e.Index=k:=by
 induction n with
 | zero=>simp [Mq] at h
 | succ n ih=>
  simp only [Mq,List.mem_append] at h;rcases h with h | h
  ·obtain ⟨k,h1,h2⟩:=ih h;exact ⟨k,by omega,h2⟩
  ·unfold evI at h
   split at h
   ·simp at h
   ·rw [List.mem_singleton] at h;subst h;exact ⟨n,by omega,rfl,rfl⟩
theorem eX {l:LI} {i j:Nat} {v:Int} (hj:i<l.length):(l.set i v).getD j default=if j=i then v else l.getD j default:=by
 rw [gdq,List.getElem?_set]
 by_cases e:i=j
 ·subst e;rw [if_pos rfl,if_pos hj,if_pos rfl]
  rfl
 ·rw [if_neg e,if_neg (Ne.symm e),gdq]
theorem uh {l:LI} {i:Nat} (h:i<l.length):l.getD i default∈l:=by
 rw [gdq,geq h];exact List.getElem_mem _
theorem Bt {l:LI} {P:Int->Prop} (h:∀ v∈l,P v) {i:Nat} {x:Int} (hx:P x):∀ v∈l.set i x,P v:=fun v hv=>by
 rcases List.mem_or_eq_of_mem_set hv with hv | rfl
 ·exact h v hv
 ·exact hx
structure Rel (p:List (List Mh)) (u:Ml) (z:Mk):Prop where
 up:u.p=p
 al:z.at_.length=p.length
 a:∀ i:Nat,i<p.length->z.at_.getD i default=Z3b.get u.pc i
 al1:∀ i:Nat,i<p.length->0<=z.at_.getD i default/\z.at_.getD i default<=((p.getD i default).length:Int)
 rl:z.regs.length=3*p.length
 r:∀ t g:Nat,t<p.length->g<3->z.regs.getD (3*t+g) default=Z3b.get (Z33.get u.reg t) g
 rv:∀ v∈z.regs,0<=v/\v<=3
 ml:z.mem.length=3
 m:∀ l:Nat,l<3->z.mem.getD l default=Z3b.get u.mem l
 mv:∀ v∈z.mem,0<=v/\v<=3
 b:z.buf=[]
section
variable {p:List (List Mh)} {u:Ml} {z:Mk}
theorem Rel.regv (h:Rel p u z) {t g:Nat} (ht:t<p.length) (hg:g<3):0<=Z3b.get (Z33.get u.reg t) g/\Z3b.get (Z33.get u.reg t) g<=3:=by
 rw [<- h.r t g ht hg];exact h.rv _ (uh (by rw [h.rl];omega))
theorem Rel.memv (h:Rel p u z) {l:Nat} (hl:l<3):0<=Z3b.get u.mem l/\Z3b.get u.mem l<=3:=by
 rw [<- h.m l hl];exact h.mv _ (uh (by rw [h.ml];omega))
theorem Bu (hp:PV p) (h:Rel p u z) {t:Int} (ht:0<=t/\t<(p.length:Int)):Mo (dI u t) fun v=>v.2=decide (z.at_.getD t.toNat default<((p.getD t.toNat default).length:Int))/\(v.2=true->v.1=(p.getD t.toNat default).getD (z.at_.getD t.toNat default).toNat default):=by
 have hl:=hp.vs.1;have hr:=hp.vs.2 t.toNat;have h1:=h.al1 t.toNat (by omega);have h2:=h.a t.toNat (by omega);rw [Int.toNat_of_nonneg ht.1] at h2;unfold dI;rw [h.up,<- h2];refine .gdD ⟨ht.1,by omega⟩ (.gdI (by omega) (.gdD ht (.bifD (fun hle => .pure ⟨?_,nofun⟩) fun hle => .gdD ⟨h1.1,by omega⟩ (.pure ⟨?_,fun _=>rfl⟩))))
 ·simp only [];rw [decide_eq_false (by omega)]
 ·simp only [];rw [decide_eq_true (by omega)]
theorem Gb (hp:PV p) (h:Rel p u z):Mo (kH ⟨u⟩) fun l=>l.length<=3/\∀ m:Int,m∈l↔(0<=m/\m<(p.length:Int))/\z.at_.getD m.toNat default<((p.getD m.toNat default).length:Int):=by
 have hl:=hp.vs.1;unfold kH;refine Mo.bind (P:=fun l=>l.length<=3/\∀ m:Int,m∈l↔(0<=m/\m<(p.length:Int))/\z.at_.getD m.toNat default<((p.getD m.toNat default).length:Int)) ?_ fun v hv => .pure hv;refine Mo.loop (fun s=>0<=s.2/\s.2<=(p.length:Int)/\(s.1.length:Int)<=s.2/\∀ m:Int,m∈s.1↔(0<=m/\m<s.2)/\z.at_.getD m.toNat default<((p.getD m.toNat default).length:Int)) (fun s=>((p.length:Int)-s.2).toNat) ⟨Int.le_refl _,by simp only [];omega,by simp,fun m=>⟨nofun,fun ⟨⟨h1,h2⟩,_⟩=>absurd h2 (by simp only [];omega)⟩⟩ fun s ⟨h1,h2,h3,h4⟩ => ?_;unfold kS;simp only [h.up];refine .bifD (fun hlt=>?_) fun hge => .pure ?_
 ·refine Mo.bind (P:=fun l:LI=>(l.length:Int)<=s.2+1/\∀ m:Int,m∈l↔(0<=m/\m<s.2+1)/\z.at_.getD m.toNat default<((p.getD m.toNat default).length:Int)) ?_ fun v ⟨v1,v2⟩ => .gdI (by omega) (.pure ⟨⟨by simp only [];omega,by simp only [];omega,v1,v2⟩,by simp only [];omega⟩);refine (Bu hp h ⟨h1,hlt⟩).bind fun v ⟨e1,_⟩ => .bif (fun hb => .gd (eu (by omega) rfl) (.pure ⟨by rw [lla];simp;omega,fun m=>?_⟩)) fun hb => .pure ⟨by omega,fun m=>?_⟩
  ·rw [hb] at e1;have e1:=of_decide_eq_true e1.symm;rw [List.mem_append,h4,List.mem_singleton]
   constructor
   ·rintro (⟨⟨g1,g2⟩,g3⟩ | rfl)
    ·exact ⟨⟨g1,by omega⟩,g3⟩
    ·exact ⟨⟨h1,by omega⟩,e1⟩
   ·rintro ⟨⟨g1,g2⟩,g3⟩
    by_cases e:m=s.2
    ·exact .inr e
    ·exact .inl ⟨⟨g1,by omega⟩,g3⟩
  ·rw [hb] at e1;have e1:=of_decide_eq_false e1.symm;rw [h4]
   constructor
   ·rintro ⟨⟨g1,g2⟩,g3⟩;exact ⟨⟨g1,by omega⟩,g3⟩
   ·rintro ⟨⟨g1,g2⟩,g3⟩;refine ⟨⟨g1,?_⟩,g3⟩
    by_cases e:m=s.2
    ·subst e;exact absurd g3 e1
    ·omega
 ·have : s.2=(p.length:Int):=by omega
  rw [<- this];exact ⟨by omega,h4⟩
theorem ui (s:LI) (v:Int) (hs:s.length<=1048576):Mo (bR s v) (· = decide (v∈s)):=by
 unfold bR;refine Mo.bind (P:=fun r:Int=>0<=r↔v∈s) ?_ fun r hr => .pure (decide_eq_decide.2 hr);unfold bz;refine Mo.sum (PS:=fun _=>v∉s) (PW:=fun r:Int=>0<=r↔v∈s) ?_ fun _ hn => .pure ⟨fun h=>absurd h (by decide),fun h=>absurd h hn⟩;refine Mo.loop (fun i=>0<=i/\i<=(s.length:Int)/\∀ j:Nat,(j:Int)<i->s[j]? ≠ some v) (fun i=>((s.length:Int)-i).toNat) ⟨Int.le_refl _,by omega,fun j hj=>absurd hj (by omega)⟩ fun i ⟨h1,h2,h3⟩ => ?_;unfold fM;refine .bifD (fun hlt => .gdD ⟨h1,hlt⟩ ?_) fun hge => .pure fun hm=>?_
 ·have hi:i.toNat<s.length:=by omega
  have e:s.getD i.toNat default=s[i.toNat]:=by rw [gdq,geq hi];rfl
  rw [e];refine .bif (fun hb => .pure ⟨fun _=>?_,fun _=>h1⟩) fun hb => .gdI (by omega) (.pure ⟨⟨by omega,by omega,fun j hj=>?_⟩,by omega⟩)
  ·have : v=s[i.toNat]:=by simpa using hb
   rw [this];exact List.getElem_mem _
  ·by_cases ej:j=i.toNat
   ·subst ej;rw [geq hi];intro he;have := osl he;rw [this] at hb;simp at hb
   ·exact h3 j (by omega)
 ·obtain ⟨j,hj,rfl⟩:=List.getElem_of_mem hm;exact h3 j (by omega) (geq hj)
def Hu (z:Mk) (t:Int) (x:Mh):Int:=if x.Op=3 then z.regs.getD (t*3+x.Reg).toNat default else x.Val
def Hv (z:Mk) (t:Int) (x:Mh):Mk:=
 ⟨z.at_.set t.toNat (z.at_.getD t.toNat default+1),if rdX x=true then z.regs.set (t*3+x.Reg).toNat (z.mem.getD x.Loc.toNat default) else z.regs,if wrX x=true then z.mem.set x.Loc.toNat (Hu z t x) else z.mem,[]⟩
theorem Gc (hp:PV p) (h:Rel p u z) {t:Int} (ht:0<=t/\t<(p.length:Int)) (hlt:z.at_.getD t.toNat default<((p.getD t.toNat default).length:Int)) :
  Mo (kI ⟨u⟩ t) (· = ⟨K8 u t ((p.getD t.toNat default).getD (z.at_.getD t.toNat default).toNat default)⟩):=by
 have hl:=hp.vs.1;have h1:=h.al1 t.toNat (by omega);have h2:=h.a t.toNat (by omega);have hr7:=hp.vs.2 t.toNat;rw [Int.toNat_of_nonneg ht.1] at h2;have hx:=hp.ins t.toNat (z.at_.getD t.toNat default).toNat (by omega) (by omega);unfold kI;refine (Bu hp h ht).bind fun v ⟨e1,e2⟩ => ?_;have e3:=e2 (e1.trans (decide_eq_true hlt));rw [<- e3] at hx ⊢;generalize v.1=x at hx ⊢;obtain ⟨x1,x2,x3,x4,x5,x6⟩:=hx;refine .gdD ⟨ht.1,by omega⟩ (.gdY (by simp only [];omega) ?_);have hrg:=fun g hg=>h.regv (t:=t.toNat) (g:=g) (by omega) hg;rw [Int.toNat_of_nonneg ht.1] at hrg;refine Mo.bind (P:=(· = JB u t x)) ?_ fun v4 hv4=>?_
 ·unfold jV JB;refine .bif (fun ho => .gdD ⟨ht.1,by omega⟩ (.gdD ⟨x3,by simp only [];omega⟩ (.pure ?_))) fun ho => .gdY (by simp only [];omega) (.pure ?_)
  ·rw [if_pos (by simpa using ho)]
  ·rw [if_neg (by simpa using ho)]
 subst hv4;have hr:Mo (bif rdX x then
   gd (decide (0<=x.Loc/\x.Loc<3)) <|
   gd (decide (0<=x.Reg/\x.Reg<3)) <|
   some (Z33.set u.reg t (Z3b.set (Z33.get u.reg t) x.Reg (Z3b.get u.mem x.Loc)))
  else some u.reg) (· = if rdX x=true then Z33.set u.reg t (Z3b.set (Z33.get u.reg t) x.Reg (Z3b.get u.mem x.Loc)) else u.reg):=
  .bif (fun hb => .gdD ⟨x1,by omega⟩ (.gdD ⟨x3,by omega⟩ (.pure (by rw [if_pos hb])))) fun hb => .pure (by rw [if_neg (by simp [hb])])
 refine Mo.bind (P:=fun w=>(⟨⟨w.1,w.2.1,w.2.2.1⟩,⟨w.2.2.2.1,w.2.2.2.2.1,w.2.2.2.2.2.1⟩,⟨w.2.2.2.2.2.2.1,w.2.2.2.2.2.2.2.1,w.2.2.2.2.2.2.2.2⟩⟩:Z33)=if rdX x=true then Z33.set u.reg t (Z3b.set (Z33.get u.reg t) x.Reg (Z3b.get u.mem x.Loc)) else u.reg) ?_ fun w5 hw5=>?_
 ·refine (F6 _).bind fun b hb=>?_;have hb':b=rdX x:=hb;refine .bif (fun hc => .gdD ⟨x1,by omega⟩ (.gdD ⟨x3,by omega⟩ (.pure ?_))) fun hc => .pure ?_
  ·rw [if_pos (by rw [<- hb'];exact hc)]
  ·rw [if_neg (by rw [<- hb',hc];decide)]
 refine Mo.bind (P:=fun w=>(⟨w.1,w.2.1,w.2.2⟩:Z3b)=if wrX x=true then Z3b.set u.mem x.Loc (JB u t x) else u.mem) ?_ fun w10 hw10 => .pure ?_
 ·refine (Dl _).bind fun b hb=>?_;have hb':b=wrX x:=hb;refine .bif (fun hc => .gdD ⟨x1,by omega⟩ (.pure ?_)) fun hc => .pure ?_
  ·rw [if_pos (by rw [<- hb'];exact hc)]
  ·rw [if_neg (by rw [<- hb',hc];decide)]
 ·unfold K8;rw [hw5,hw10]
theorem Im (h:Rel p u z) (hl:p.length<=3):Mo (o5 z) (· = z):=by
 have ha:=h.al;have hr:=h.rl;have hm:=h.ml;unfold o5;refine .gd (eu (by simp;omega) rfl) (.gd (eu (by simp;omega) rfl) (.gd (eu (by simp;omega) rfl) ?_));refine Mo.bind (P:=fun _=>True) ?_ fun _ _ => .pure ?_
 ·refine Mo.loop (fun _=>True) (fun _=>0) trivial fun s _=>?_;unfold sP;refine .bifD (fun h0=>?_) fun _ => .pure trivial;rw [h.b] at h0;exact absurd h0 (by simp)
 ·have hb:=h.b
  cases z
  simp only at hb;subst hb
  rfl
theorem Kq (hp:PV p) (h:Rel p u z) {t:Int} (ht:0<=t/\t<(p.length:Int)) (hlt:z.at_.getD t.toNat default<((p.getD t.toNat default).length:Int)) :
  Mo (rX p z t) (· = Hv z t ((p.getD t.toNat default).getD (z.at_.getD t.toNat default).toNat default)):=by
 have hl:=hp.vs.1;have h1:=h.al1 t.toNat (by omega);have hr7:=hp.vs.2 t.toNat;have hx:=hp.ins t.toNat (z.at_.getD t.toNat default).toNat (by omega) (by omega);unfold rX;generalize (p.getD t.toNat default).getD (z.at_.getD t.toNat default).toNat default=x at hx ⊢;obtain ⟨x1,x2,x3,x4,x5,x6⟩:=hx;have hreg:nM t x.Reg=some (t*3+x.Reg):=by
  unfold nM;rw [rS (DK (by omega)),rS (DK (by omega))]
 refine (Im h hl).bind fun v1 e=>?_;subst e;refine .gdD ht (.gdD (by rw [h.al];exact ht) (.gdD ⟨h1.1,hlt⟩ (.gdI (by omega) (.gdD (by rw [h.al];exact ht) ?_))));refine Mo.bind (P:=(· = if rdX x=true then v1.regs.set (t*3+x.Reg).toNat (v1.mem.getD x.Loc.toNat default) else v1.regs)) ?_ fun w5 hw5=>?_
 ·refine (I5 _).bind fun b hb=>?_;have hb':b=rdX x:=hb;refine .bif (fun hc=>(Mo.of (P:=(· = t*3+x.Reg)) hreg rfl).bind fun v hv=>?_) fun hc => .pure ?_
  ·subst hv;exact .gdD ⟨x1,by rw [h.ml];omega⟩ (.gdD ⟨by omega,by rw [h.rl];omega⟩ (.pure (by rw [if_pos (by rw [<- hb'];exact hc)])))
  ·rw [if_neg (by rw [<- hb',hc];decide)]
 subst hw5;refine Mo.bind (P:=(· = if wrX x=true then v1.mem.set x.Loc.toNat (Hu v1 t x) else v1.mem)) ?_ fun w10 hw10 => .pure (by rw [hw10];rfl);refine (F9 _).bind fun b hb=>?_;have hb':b=wrX x:=hb;refine .bif (fun hc=>?_) fun hc => .pure ?_
 ·refine Mo.bind (P:=(· = Hu v1 t x)) ?_ fun v hv => .gdD ⟨x1,by rw [h.ml];omega⟩ (.pure (by rw [if_pos (by rw [<- hb'];exact hc),hv]));unfold qJ Hu;refine .bif (fun ho=>(Mo.of (P:=(· = t*3+x.Reg)) hreg rfl).bind fun v hv=>?_) fun ho => .pure ?_
  ·subst hv;exact .gdD ⟨by omega,by rw [h.rl];omega⟩ (.pure (by rw [if_pos (by simpa using ho)]))
  ·rw [if_neg (by simpa using ho)]
 ·rw [if_neg (by rw [<- hb',hc];decide)]
theorem Rel.after (hp:PV p) (h:Rel p u z) {t:Int} (ht:0<=t/\t<(p.length:Int)) (hlt:z.at_.getD t.toNat default<((p.getD t.toNat default).length:Int)) {x:Mh} (hx:InR x):Rel p (K8 u t x) (Hv z t x):=by
 have hl:=hp.vs.1;obtain ⟨n,rfl⟩:∃ n:Nat,t=n:=⟨t.toNat,by omega⟩;simp only [tnn] at hlt;have hn:n<p.length:=by omega
 obtain ⟨x1,x2,x3,x4,x5,x6⟩:=hx;obtain ⟨l,hlx⟩:∃ l:Nat,x.Loc=l:=⟨x.Loc.toNat,by omega⟩;obtain ⟨g,hgx⟩:∃ g:Nat,x.Reg=g:=⟨x.Reg.toNat,by omega⟩;have e3:((n:Int)*3+(g:Int)).toNat=3*n+g:=by omega
 have hval:JB u n x=Hu z n x:=by
  unfold JB Hu
  split
  ·rw [hgx,e3,h.r n g hn (by omega)]
  ·rfl
 have hvv:0<=Hu z n x/\Hu z n x<=3:=by
  rw [<- hval];unfold JB
  split
  ·rw [hgx];exact h.regv hn (by omega)
  ·omega
 unfold K8 Hv;simp only [tnn];refine ⟨h.up,by simp only [List.length_set];exact h.al,fun i hi=>?_,fun i hi=>?_,?_,fun t' g' ht' hg' => ?_,?_,?_,fun l' hl' => ?_,?_,rfl⟩
 ·simp only [];rw [eX (by rw [h.al];exact hn),wE _ _ _ _ (by omega) (by omega),h.a i hi,h.a n hn]
  by_cases e:i=n
  ·rw [if_pos e,if_pos (by omega)]
  ·rw [if_neg e,if_neg (by omega)]
 ·simp only [];rw [eX (by rw [h.al];exact hn)]
  by_cases e:i=n
  ·subst e;have := h.al1 i hi;rw [if_pos rfl];omega
  ·rw [if_neg e];exact h.al1 i hi
 ·simp only []
  split
  ·rw [List.length_set];exact h.rl
  ·exact h.rl
 ·simp only []
  split
  ·rw [hlx,hgx,e3,tnn,eX (by rw [h.rl];omega),Co _ _ _ _ (by omega) (by omega)]
   by_cases e:t'=n
   ·subst e;rw [if_pos rfl,wE _ _ _ _ (by omega) (by omega)]
    by_cases e2:g'=g
    ·subst e2;rw [if_pos rfl,if_pos rfl,h.m l (by omega)]
    ·rw [if_neg (by omega),if_neg (by omega)];exact h.r t' g' ht' hg'
   ·rw [if_neg (by omega),if_neg (by omega)];exact h.r t' g' ht' hg'
  ·exact h.r t' g' ht' hg'
 ·simp only []
  split
  ·refine Bt h.rv ?_;rw [hlx,tnn,h.m l (by omega)];exact h.memv (by omega)
  ·exact h.rv
 ·simp only []
  split
  ·rw [List.length_set];exact h.ml
  ·exact h.ml
 ·simp only []
  split
  ·rw [hlx,tnn,eX (by rw [h.ml];omega),wE _ _ _ _ (by omega) (by omega),hval]
   by_cases e:l'=l
   ·rw [if_pos e,if_pos (by omega)]
   ·rw [if_neg e,if_neg (by omega)];exact h.m l' hl'
  ·exact h.m l' hl'
 ·simp only []
  split
  ·exact Bt h.mv hvv
  ·exact h.mv
theorem Gd (hp:PV p):Mo (fP p (0:Int)) (Rel p ⟨p,⟨0,0,0⟩,⟨⟨0,0,0⟩,⟨0,0,0⟩,⟨0,0,0⟩⟩,⟨0,0,0⟩⟩):=by
 have hl:=hp.vs.1;have z3:∀ i:Int,Z3b.get ⟨0,0,0⟩ i=0:=fun i=>by
  simp only [Z3b.get]
  split <;> (try split) <;> rfl
 have z33:∀ i:Int,Z33.get ⟨⟨0,0,0⟩,⟨0,0,0⟩,⟨0,0,0⟩⟩ i=⟨0,0,0⟩:=fun i=>by
  simp only [Z33.get]
  split <;> (try split) <;> rfl
 have zr:∀ n i:Nat,(List.replicate n (default:Int)).getD i default=0:=fun n i=>by
  rw [gdq,List.getElem?_replicate]
  split <;> rfl
 unfold fP;refine .gdD (by omega) (.gdI (by omega) (.gdD (by omega) (.gdD (by decide) (.gdD (by decide) (.pure ⟨rfl,by simp,fun i hi=>?_,fun i hi=>?_,by simp;omega,fun t g ht hg=>?_,fun v hv=>?_,by simp,fun l hl=>?_,fun v hv=>?_,by simp⟩)))))
 ·simp only [zr,z3]
 ·simp only [zr];omega
 ·simp only [zr,z33,z3]
 ·rw [List.eq_of_mem_replicate hv];decide
 ·simp only [zr,z3]
 ·rw [List.eq_of_mem_replicate hv];decide
def Good (p:List (List Mh)) (s:LI) (n:Nat):Prop:=∀ j,j<n->(0<=s.getD j default/\s.getD j default<(p.length:Int))/\(s.take j).count (s.getD j default)<(p.getD (s.getD j default).toNat default).length
theorem rB {s:LI} {i:Nat} (h:i<s.length) (v:Int):(s.take (i+1)).count v=(s.take i).count v+if s.getD i default=v then 1 else 0:=by
 have e:s.getD i default=s[i]:=by rw [gdq,geq h];rfl
 rw [<- List.take_append_getElem h,List.count_append,List.count_singleton,e];simp only [beq_iff_eq]
theorem Io (hp:PV p) {s:LI} {i:Nat} (hs:s.length<=1048576) (hi:i<s.length) (h:Rel p u z) :
  (¬ ((0<=s.getD i default/\s.getD i default<(p.length:Int))/\z.at_.getD (s.getD i default).toNat default<((p.getD (s.getD i default).toNat default).length:Int))->aI s ((i:Int),⟨u⟩)=some (.inr (.inr (none,false)))/\aY p s (z.at_,z.regs,z.mem,z.buf,(i:Int))=some (.inr (.inr ([],false)))) /\
  (((0<=s.getD i default/\s.getD i default<(p.length:Int))/\z.at_.getD (s.getD i default).toNat default<((p.getD (s.getD i default).toNat default).length:Int))->∃ u' z',aI s ((i:Int),⟨u⟩)=some (.inl (((i+1:Nat):Int),⟨u'⟩))/\aY p s (z.at_,z.regs,z.mem,z.buf,(i:Int))=some (.inl (z'.at_,z'.regs,z'.mem,z'.buf,((i+1:Nat):Int)))/\Rel p u' z'/\z'.at_=z.at_.set (s.getD i default).toNat (z.at_.getD (s.getD i default).toNat default+1)/\z'=Hv z (s.getD i default) ((p.getD (s.getD i default).toNat default).getD (z.at_.getD (s.getD i default).toNat default).toNat default)):=by
 have hl:=hp.vs.1;have hc:(i:Int)<(s.length:Int):=by omega
 generalize hm:s.getD i default=m;have hcond:Mo (bif decide (m<(0:Int)) then some true
   else bif decide ((p.length:Int)<=m) then some true
   else gd (decide (0<=m/\m<(z.at_.length:Int)))<|gd (decide (0<=m/\m<(p.length:Int))) <|
    some ((z.at_.getD m.toNat default)==((p.getD m.toNat default).length:Int))) (· = !decide ((0<=m/\m<(p.length:Int))/\z.at_.getD m.toNat default<((p.getD m.toNat default).length:Int))):=by
  refine .bifD (fun h1 => .pure (by rw [decide_eq_false (by omega)];rfl)) fun h1 => .bifD (fun h2 => .pure (by rw [decide_eq_false (by omega)];rfl)) fun h2 => .gdD ⟨by omega,by rw [h.al];omega⟩ (.gdD ⟨by omega,by omega⟩ (.pure ?_));have := h.al1 m.toNat (by omega)
  by_cases e:z.at_.getD m.toNat default=((p.getD m.toNat default).length:Int)
  ·rw [decide_eq_false (by omega),e];simp
  ·rw [decide_eq_true (by omega)];simpa using e
 have hmv:=Gb hp h
 constructor
 ·intro hbad;have hb:=decide_eq_false hbad
  constructor
  ·refine Mo.eq ?_;unfold aI;simp only [tnn,hm];refine .bifD (fun _ => .gdD ⟨by omega,hc⟩ (hmv.bind fun l ⟨hll,hl'⟩ => ?_)) fun hn=>absurd hc hn;refine (ui l m (by omega)).bind fun b hb' => ?_;subst hb';refine .bif (fun _ => .pure rfl) fun hn=>?_;have := (hl' m).1 (by simpa using hn);exact absurd this hbad
  ·refine Mo.eq ?_;unfold aY;simp only [tnn,hm];refine .bifD (fun _=>?_) fun hn=>absurd hc hn;refine Mo.sumR (.gdD ⟨by omega,hc⟩ (.sumR (hcond.bind fun b hb' => ?_)));rw [hb] at hb';subst hb';exact .pure rfl
 ·intro hok;have hb:=decide_eq_true hok;have hx:=hp.ins m.toNat (z.at_.getD m.toNat default).toNat (by omega) (by have := h.al1 m.toNat (by omega);omega);refine ⟨_,_,?_,?_,h.after hp hok.1 hok.2 hx,rfl,rfl⟩
  ·refine Mo.eq ?_;unfold aI;simp only [tnn,hm];refine .bifD (fun _ => .gdD ⟨by omega,hc⟩ (hmv.bind fun l ⟨hll,hl'⟩ => ?_)) fun hn=>absurd hc hn;refine (ui l m (by omega)).bind fun b hb' => ?_;subst hb';refine .bif (fun hn=>?_) fun _=>(Gc hp h hok.1 hok.2).bind fun v hv => .gdI (by omega) (.pure (by rw [hv];rfl));have := (hl' m).2 hok;simp [this] at hn
  ·refine Mo.eq ?_;unfold aY;simp only [tnn,hm];refine .bifD (fun _=>?_) fun hn=>absurd hc hn;refine Mo.sumL (s:=((Hv z m ((p.getD m.toNat default).getD (z.at_.getD m.toNat default).toNat default)).at_,(Hv z m ((p.getD m.toNat default).getD (z.at_.getD m.toNat default).toNat default)).regs,(Hv z m ((p.getD m.toNat default).getD (z.at_.getD m.toNat default).toNat default)).mem,(Hv z m ((p.getD m.toNat default).getD (z.at_.getD m.toNat default).toNat default)).buf)) (.gdD ⟨by omega,hc⟩ (.sumL (s:=()) (hcond.bind fun b hb' => ?_) ((Kq hp h hok.1 hok.2).bind fun v hv=>by subst hv;exact .pure rfl))) (.gdI (by omega) (.pure rfl));rw [hb] at hb';subst hb';exact .pure rfl
end
section
variable {p:List (List Mh)} {u:Ml} {z:Mk}
def zR (p:List (List Mh)) (s:LI) (z0:Mk):Nat->Mk
 | 0=>z0
 | i+1=>Hv (zR p s z0 i) (s.getD i default) ((p.getD (s.getD i default).toNat default).getD ((zR p s z0 i).at_.getD (s.getD i default).toNat default).toNat default)
theorem LU (hp:PV p) {s:LI} (z0:Mk) (hs:s.length<=1048576):∀ (n i:Nat) (u:Ml) (z:Mk),i+n=s.length->z=zR p s z0 i->Rel p u z->(∀ t:Nat,t<p.length->z.at_.getD t default=((s.take i).count (t:Int):Int))->Good p s i ->
  (aV (aI s) ((i:Int),⟨u⟩)=some (.inr (none,false))/\aV (aY p s) (z.at_,z.regs,z.mem,z.buf,(i:Int))=some (.inr ([],false)) /\ ¬ Good p s s.length) \/
  (∃ u' z',aV (aI s) ((i:Int),⟨u⟩)=some (.inl ⟨u'⟩)/\aV (aY p s) (z.at_,z.regs,z.mem,z.buf,(i:Int))=some (.inl (z'.at_,z'.regs,z'.mem,z'.buf))/\Rel p u' z'/\Good p s s.length/\(∀ t:Nat,t<p.length->z'.at_.getD t default=(s.count (t:Int):Int))/\z'=zR p s z0 s.length):=by
 intro n
 induction n with
 | zero=>
  intro i u z hi hz h hc hg;have e:i=s.length:=by omega
  subst e;refine .inr ⟨u,z,?_,?_,h,hg,by simpa using hc,hz⟩
  ·rw [kG];unfold aI;simp only [decide_eq_false (Int.lt_irrefl (s.length:Int))]
   rfl
  ·rw [kG];unfold aY;simp only [decide_eq_false (Int.lt_irrefl (s.length:Int))]
   rfl
 | succ n ih=>
  intro i u z hi hz h hc hg;have hi':i<s.length:=by omega
  obtain ⟨h1,h2⟩:=Io hp hs hi' h
  by_cases hok:(0<=s.getD i default/\s.getD i default<(p.length:Int))/\z.at_.getD (s.getD i default).toNat default<((p.getD (s.getD i default).toNat default).length:Int)
  ·obtain ⟨u',z',e1,e2,h',ha,hza⟩:=h2 hok;have hn:(s.getD i default).toNat<p.length:=by omega
   have key:=hc _ hn;have em:(((s.getD i default).toNat:Nat):Int)=s.getD i default:=Int.toNat_of_nonneg hok.1.1;rw [em] at key;have := ih (i+1) u' z' (by omega) (by rw [hza,hz];rfl) h' (fun t ht=>?_) (fun j hj=>?_)
   ·rcases this with ⟨g1,g2,g5⟩ | ⟨u2,z2,g1,g2,g3,g4,g5⟩
    ·exact .inl ⟨by rw [kG,e1];exact g1,by rw [kG,e2];exact g2,g5⟩
    ·exact .inr ⟨u2,z2,by rw [kG,e1];exact g1,by rw [kG,e2];exact g2,g3,g4,g5⟩
   ·rw [ha,eX (by rw [h.al];exact hn),rB hi',key]
    by_cases e:t=(s.getD i default).toNat
    ·have e':s.getD i default=(t:Int):=by omega
     rw [if_pos e,if_pos e',e'];omega
    ·have e' : ¬ s.getD i default=(t:Int):=by omega
     rw [if_neg e,if_neg e',hc t ht]
     rfl
   ·by_cases e:j=i
    ·subst e;exact ⟨hok.1,by rw [key] at hok;omega⟩
    ·exact hg j (by omega)
  ·obtain ⟨e1,e2⟩:=h1 hok;refine .inl ⟨by rw [kG,e1];rfl,by rw [kG,e2];rfl,fun hG=>hok ?_⟩;obtain ⟨q1,q2⟩:=hG i hi';refine ⟨q1,?_⟩;have em:(((s.getD i default).toNat:Nat):Int)=s.getD i default:=Int.toNat_of_nonneg q1.1;have key:=hc (s.getD i default).toNat (by omega);rw [em] at key;rw [key];omega
def Open (p:List (List Mh)) (z:Mk):Prop:=∃ t:Nat,t<p.length/\z.at_.getD t default<((p.getD t default).length:Int)
theorem Gf (hp:PV p) (h:Rel p u z):Mo (lV p z) fun d=>d=true ↔ ¬ Open p z:=by
 have hl:=hp.vs.1;unfold lV;refine Mo.sum (PS:=fun _ => ¬ Open p z) (PW:=fun d:Bool=>d=true ↔ ¬ Open p z) ?_ fun _ hn => .pure ⟨fun _=>hn,fun _=>rfl⟩;refine Mo.loop (fun i=>0<=i/\i<=(p.length:Int)/\∀ t:Nat,(t:Int)<i -> ¬ z.at_.getD t default<((p.getD t default).length:Int)) (fun i=>((p.length:Int)-i).toNat) ⟨Int.le_refl _,by omega,fun t ht=>absurd ht (by omega)⟩ fun i ⟨h1,h2,h3⟩ => ?_;unfold sS;refine .bifD (fun h0 => .gdD ⟨h1,by rw [h.al];exact h0⟩ (.gdD ⟨h1,h0⟩ ?_)) fun hge => .pure ?_
 ·refine .bifD (fun he => .pure ⟨nofun,fun hn=>absurd ⟨i.toNat,by omega,he⟩ hn⟩) fun he => .gdI (by omega) (.pure ⟨⟨by omega,by omega,fun t ht=>?_⟩,by omega⟩)
  by_cases e:t=i.toNat
  ·subst e;exact he
  ·exact h3 t (by omega)
 ·rintro ⟨t,ht,hlt⟩;exact h3 t (by omega) hlt
theorem Gg (hp:PV p) (h:Rel p u z):Mo (iR ⟨u⟩) fun d=>d=true ↔ ¬ Open p z:=by
 have hl:=hp.vs.1;unfold iR iQ;refine Mo.bind (P:=fun d:Bool=>d=true ↔ ¬ Open p z) ?_ fun v hv => .pure hv;refine Mo.sum (PS:=fun _ => ¬ Open p z) (PW:=fun d:Bool=>d=true ↔ ¬ Open p z) ?_ fun _ hn => .pure ⟨fun _=>hn,fun _=>rfl⟩;refine Mo.loop (fun i=>0<=i/\i<=(p.length:Int)/\∀ t:Nat,(t:Int)<i -> ¬ z.at_.getD t default<((p.getD t default).length:Int)) (fun i=>((p.length:Int)-i).toNat) ⟨Int.le_refl _,by omega,fun t ht=>absurd ht (by omega)⟩ fun i ⟨h1,h2,h3⟩ => ?_;unfold lu;simp only [h.up];refine .bifD (fun h0=>(Bu hp h ⟨h1,h0⟩).bind fun v ⟨e1,_⟩ => ?_) fun hge => .pure ?_
 ·refine .bif (fun hb => .pure ⟨nofun,fun hn=>absurd ⟨i.toNat,by omega,of_decide_eq_true (e1.symm.trans hb)⟩ hn⟩) fun hb => .gdI (by omega) (.pure ⟨⟨by omega,by omega,fun t ht=>?_⟩,by omega⟩)
  ·by_cases e:t=i.toNat
   ·subst e;rw [hb] at e1;exact of_decide_eq_false e1.symm
   ·exact h3 t (by omega)
 ·rintro ⟨t,ht,hlt⟩;exact h3 t (by omega) hlt
theorem JD (hp:p.length<=3) (h:Rel p u z) {n:Nat} (hn:n<p.length) (base:LI) (hb:base.length<=1000) {step:(List Int×Int)->Option ((List Int×Int) ⊕ LI)} (hs:∀ s:List Int×Int,step s=bif decide (s.2<(3:Int)) then
  gd (decide (0<=s.2/\s.2<3))<|gd (Md .i64 (Z3b.get (Z33.get u.reg (n:Int)) s.2))<|gd (dW (s.1.length+1) 8)<|gd (Md .i64 (s.2+(1:Int))) <|
  some (.inl ((s.1++[(Z3b.get (Z33.get u.reg (n:Int)) s.2)]),(s.2+(1:Int)))) else some (.inr s.1)):Mo (aV step (base,(0:Int))) (· = base++(z.regs.drop (3*n)).take 3):=by
 refine Mo.loop (fun s=>∃ k:Nat,k<=3/\s=(base++(z.regs.drop (3*n)).take k,(k:Int))) (fun s=>(3-s.2).toNat) ⟨0,by omega,by simp⟩ fun s ⟨k,h1,h2⟩ => ?_;subst h2;rw [hs];refine .bifD (fun hk=>?_) fun hk => .pure ?_
 ·simp only [] at hk;have hv:=h.regv hn (g:=k) (by omega);have hr:=h.r n k hn (by omega);refine .gdD ⟨by simp only [];omega,hk⟩ (.gdI (by simp only [];omega) (.gd (eu ?_ rfl) (.gdI (by simp only [];omega) (.pure ⟨⟨k+1,by omega,?_⟩,by simp only [];omega⟩))))
  ·simp only [lla,List.length_take,List.length_drop];omega
  ·simp only [];rw [<- hr,List.append_assoc];have hkl:3*n+k<z.regs.length:=by rw [h.rl];omega
   have hd:(z.regs.drop (3*n)).take (k+1)=(z.regs.drop (3*n)).take k++[z.regs.getD (3*n+k) default]:=by
    rw [<- List.take_append_getElem (by rw [List.length_drop];omega),List.getElem_drop,gdq,geq hkl]
    rfl
   rw [hd]
   rfl
 ·simp only [] at hk;have : k=3:=by omega
  subst this
  rfl
theorem yd (hp:PV p) (h:Rel p u z):Mo (bJ u) (· = z.regs++z.mem):=by
 have hl:=hp.vs.1;unfold bJ;refine Mo.bind (P:=(· = z.regs)) ?_ fun v hv=>?_
 ·refine Mo.loop (fun s=>∃ n:Nat,n<=p.length/\s=(z.regs.take (3*n),(n:Int))) (fun s=>((p.length:Int)-s.2).toNat) ⟨0,by omega,by simp⟩ fun s ⟨n,h1,h2⟩ => ?_;subst h2;unfold bY;simp only [h.up];refine .bifD (fun hk=>?_) fun hk => .pure ?_
  ·refine Mo.bind (P:=(· = z.regs.take (3*n)++(z.regs.drop (3*n)).take 3)) (.gdD ⟨by omega,by omega⟩ (JD hl h (n:=n) (by omega) _ (by rw [List.length_take];omega) fun s=>by unfold dA;rfl)) fun v hv => .gdI (by omega) (.pure ⟨⟨n+1,by omega,?_⟩,by simp only [];omega⟩);subst hv;rw [show 3*(n+1)=3*n+3 by omega,List.take_add]
   rfl
  ·have : n=p.length:=by omega
   subst this;exact List.take_of_length_le (by rw [h.rl];exact Nat.le_refl _)
 ·subst hv;refine Mo.bind (P:=(· = z.regs++z.mem)) ?_ fun v hv => .pure hv;refine Mo.loop (fun s=>∃ k:Nat,k<=3/\s=(z.regs++z.mem.take k,(k:Int))) (fun s=>(3-s.2).toNat) ⟨0,by omega,by simp⟩ fun s ⟨k,h1,h2⟩ => ?_;subst h2;unfold bS;have hrl:=h.rl;have hml:=h.ml;refine .bifD (fun hk=>?_) fun hk => .pure ?_
  ·simp only [] at hk;have hv:=h.memv (l:=k) (by omega);have hm:=h.m k (by omega);refine .gdD ⟨by simp only [];omega,hk⟩ (.gdI (by simp only [];omega) (.gd (eu (by simp only [lla,List.length_take];omega) rfl) (.gdI (by simp only [];omega) (.pure ⟨⟨k+1,by omega,?_⟩,by simp only [];omega⟩))));simp only [];rw [<- hm,List.append_assoc];have hd:z.mem.take (k+1)=z.mem.take k++[z.mem.getD k default]:=by
    rw [<- List.take_append_getElem (by omega),gdq,geq (by omega)]
    rfl
   rw [hd]
   rfl
  ·simp only [] at hk;have : k=3:=by omega
   subst this;simp only [];rw [List.take_of_length_le (by omega)]
theorem Cq (hp:PV p) (h:Rel p u z):Mo (iB z) (· = z.regs++z.mem):=by
 have hl:=hp.vs.1;have hrl:=h.rl;have hml:=h.ml;unfold iB;exact .gd (eu (by simp;omega) rfl) (.gd (eu (by simp;omega) rfl) (.pure rfl))
def u0 (p:List (List Mh)):Ml:=⟨p,⟨0,0,0⟩,⟨⟨0,0,0⟩,⟨0,0,0⟩,⟨0,0,0⟩⟩,⟨0,0,0⟩⟩
theorem Kr {s:LI} (hI:bI p=some true) (g1:aV (aI s) ((0:Int),⟨u0 p⟩)=some (.inr (none,false))):Mo (bi p s) (· = ([],false)):=by
 unfold bi;refine (Mo.of (P:=(· = true)) hI rfl).bind fun v hv => .bif (fun h=>by subst hv;simp at h) fun _=>?_;refine Mo.bind (P:=(· = ⟨u0 p⟩)) (.pure rfl) fun v3 h3=>?_;subst h3;refine Mo.bind (P:=(· = ([],false))) ?_ fun v hv => .pure (by rw [hv]);unfold dB;refine Mo.bind (P:=(· = (none,false))) (by unfold dX;exact .sumR (.of g1 rfl)) fun v hv=>?_;subst hv;exact Mo.bind (P:=(· = true)) (.bif (fun _ => .pure rfl) fun h=>by simp at h) fun b hb => .bif (fun _ => .pure rfl) fun h=>by subst hb;cases h
theorem JE {s:LI} {u':Ml} {d:Bool} {o:LI} (hI:bI p=some true) (g1:aV (aI s) ((0:Int),⟨u0 p⟩)=some (.inl ⟨u'⟩)) (hd:iR ⟨u'⟩=some d) (ho:bJ u'=some o) :
  Mo (bi p s) (· = bif d then (o,true) else ([],false)):=by
 unfold bi;refine (Mo.of (P:=(· = true)) hI rfl).bind fun v hv => .bif (fun h=>by subst hv;simp at h) fun _=>?_;refine Mo.bind (P:=(· = ⟨u0 p⟩)) (.pure rfl) fun v3 h3=>?_;subst h3;refine Mo.bind (P:=(· = bif d then (o,true) else ([],false))) ?_ fun v hv => .pure (by rw [hv]);unfold dB;refine Mo.bind (P:=(· = (some ⟨u'⟩,true))) (by unfold dX;exact .sumL (.of g1 rfl) (.pure rfl)) fun v hv=>?_;subst hv;refine Mo.bind (P:=(· = !d)) (.bif (fun h=>by simp at h) fun _ => .gd rfl ((Mo.of (P:=(· = d)) hd rfl).bind fun v hv => .pure (by rw [hv]))) fun b hb=>?_;subst hb
 cases d with
 | true=>exact .gd rfl ((Mo.of (P:=(· = o)) ho rfl).bind fun v hv => .pure (by rw [hv];rfl))
 | false=>exact .pure rfl
theorem Ks {s:LI} {z0:Mk} (hI:bg p=some true) (h0:fP p 0=some z0) (g1:aV (aY p s) (z0.at_,z0.regs,z0.mem,z0.buf,(0:Int))=some (.inr ([],false))):Mo (bA p s) (· = ([],false)):=by
 unfold bA;refine (Mo.of (P:=(· = true)) hI rfl).bind fun v hv => .bif (fun h=>by subst hv;simp at h) fun _=>?_;refine (Mo.of (P:=(· = z0)) h0 rfl).bind fun v3 h3=>?_;subst h3;exact .sumR (.of g1 rfl)
theorem JF {s:LI} {z0 z':Mk} {d:Bool} {o:LI} (hI:bg p=some true) (h0:fP p 0=some z0) (g1:aV (aY p s) (z0.at_,z0.regs,z0.mem,z0.buf,(0:Int))=some (.inl (z'.at_,z'.regs,z'.mem,z'.buf))) (hd:lV p z'=some d) (ho:iB z'=some o) :
  Mo (bA p s) (· = bif d then (o,true) else ([],false)):=by
 unfold bA;refine (Mo.of (P:=(· = true)) hI rfl).bind fun v hv => .bif (fun h=>by subst hv;simp at h) fun _=>?_;refine (Mo.of (P:=(· = z0)) h0 rfl).bind fun v3 h3=>?_;subst h3;refine .sumL (.of g1 rfl) ((Mo.of (P:=(· = d)) hd rfl).bind fun b hb=>?_);subst hb
 cases b with
 | true=>exact (Mo.of (P:=(· = o)) ho rfl).bind fun v hv => .pure (by rw [hv];rfl)
 | false=>exact .pure rfl
def Whole (p:List (List Mh)) (s:LI):Prop:=gy (p.map fun r=>r.map m5)=true/\Good p s s.length/\∀ t:Nat,t<p.length->s.count (t:Int)=(p.getD t default).length
theorem DZ (p:List (List Mh)) {s:LI} (hsz:p.length<=1048576/\total p<=1048576) (hs:s.length<=1048576) :
  ∃ o b,bi p s=some (o,b)/\bA p s=some (o,b)/\(b=true↔Whole p s)/\(b=true->∃ z0,fP p 0=some z0/\Rel p (u0 p) z0/\o=(zR p s z0 s.length).regs++(zR p s z0 s.length).mem):=by
 have hI:bI p=some (gy (p.map fun r=>r.map m5)):=rS (decide_eq_true hsz);have hS:bg p=some (gy (p.map fun r=>r.map m5)):=rS (decide_eq_true hsz)
 cases hv:gy (p.map fun r=>r.map m5) with
 | false=>
  unfold bi bA;rw [hI,hS,hv];exact ⟨[],false,rfl,rfl,⟨nofun,fun h=>by have := h.1;rw [hv] at this;cases this⟩,nofun⟩
 | true=>
  rw [hv] at hI hS;have hp:=PV.of hv;obtain ⟨z0,e0,h0⟩:=Gd hp;have hr:=LU hp z0 hs s.length 0 _ z0 (by omega) rfl h0 (fun t ht=>by
   rw [h0.a t ht];simp only [Z3b.get,List.take_zero,List.count_nil]
   split <;> (try split) <;> rfl) (fun j hj=>absurd hj (by omega))
  rcases hr with ⟨g1,g2,g5⟩ | ⟨u',z',g1,g2,g3,g4,g5,g6⟩
  ·exact ⟨[],false,(Kr hI g1).eq,(Ks hS e0 g2).eq,⟨nofun,fun h=>absurd h.2.1 g5⟩,nofun⟩
  ·obtain ⟨d,d1,d2⟩:=Gf hp g3;obtain ⟨d',d1',d2'⟩:=Gg hp g3;have ed:d'=d:=Bool.eq_iff_iff.2 (d2'.trans d2.symm);subst ed;have k1:=(JE hI g1 d1' (yd hp g3).eq).eq;have k2:=(JF hS e0 g2 d1 (Cq hp g3).eq).eq;have hw:d'=true↔Whole p s:=by
    rw [d2];refine ⟨fun h=>⟨hv,g4,fun t ht=>?_⟩,fun h ⟨t,ht,hlt⟩ => ?_⟩
    ·have h1:=(g3.al1 t ht).2;have h2:=g5 t ht;have h3 : ¬ z'.at_.getD t default<((p.getD t default).length:Int):=fun hlt=>h ⟨t,ht,hlt⟩;omega
    ·have h2:=g5 t ht;have h3:=h.2.2 t ht;omega
   cases d' with
   | true=>exact ⟨_,true,k1,k2,hw,fun _=>⟨z0,e0,h0,by rw [g6]⟩⟩
   | false=>exact ⟨[],false,k1,k2,hw,nofun⟩
theorem Ip (p:List (List Mh)) {s:LI} (hsz:p.length<=1048576/\total p<=1048576) (hs:s.length<=1048576) :
  ∃ o b,bi p s=some (o,b)/\bA p s=some (o,b)/\(b=true↔Whole p s):=by
 obtain ⟨o,b,h1,h2,h3,_⟩:=DZ p hsz hs;exact ⟨o,b,h1,h2,h3⟩
end
section
variable {α β W:Type} [Inhabited α]
theorem I6 {a b:List α} [DecidableEq α] (hl:a.length=b.length) {bad:W} {step:Int->Option (Int ⊕ (Unit ⊕ W))}
  (hs:∀ i:Int,0<=i->i<(a.length:Int)->Mo (step i) (· = if a.getD i.toNat default=b.getD i.toNat default then .inl (i+1) else .inr (.inr bad)))
  (he:∀ i:Int,¬ i<(a.length:Int)->step i=some (.inr (.inl ()))):Mo (aV step 0) (· = if a=b then .inl () else .inr bad):=by
 refine Mo.loop (fun i=>0<=i/\i<=(a.length:Int)/\∀ j:Nat,(j:Int)<i->a[j]? = b[j]?) (fun i=>((a.length:Int)-i).toNat) ⟨Int.le_refl _,by omega,fun i hi=>absurd hi (by omega)⟩ fun i ⟨h1,h2,h3⟩ => ?_
 by_cases h:i<(a.length:Int)
 ·refine (hs i h1 h).mono ?_;have ha:i.toNat<a.length:=by omega
  have hb:i.toNat<b.length:=by omega
  have ea:a.getD i.toNat default=a[i.toNat]:=by rw [gdq,geq ha];rfl
  have eb:b.getD i.toNat default=b[i.toNat]:=by rw [gdq,geq hb];rfl
  rintro _ rfl
  by_cases e:a.getD i.toNat default=b.getD i.toNat default
  ·rw [if_pos e];refine ⟨⟨by omega,by omega,fun j hj=>?_⟩,by omega⟩
   by_cases ej:j=i.toNat
   ·subst ej;rw [geq ha,geq hb,<- ea,<- eb,e]
   ·exact h3 j (by omega)
  ·rw [if_neg e];show _=_;rw [if_neg];rintro rfl;exact e rfl
 ·rw [he i h];refine .pure ?_;show _=_;rw [if_pos];refine List.ext_getElem? fun j=>?_
  by_cases hj:(j:Int)<i
  ·exact h3 j hj
  ·rw [gen (by omega),gen (by omega)]
end
instance:DecidableEq Mh:=fun a b=>decidable_of_iff (a.Op=b.Op/\a.Loc=b.Loc/\a.Reg=b.Reg/\a.Val=b.Val) ⟨fun ⟨h1,h2,h3,h4⟩=>by cases a;cases b;simp only at h1 h2 h3 h4;subst h1 h2 h3 h4;rfl,fun h=>by subst h;exact ⟨rfl,rfl,rfl,rfl⟩⟩
theorem JG:((List.range 25).all fun n=>decide (m8 1 (n:Int)=some (0,(n:Int))))=true:=by decide +kernel
theorem Kt {n:Nat} (h:n<25):lQ 1 (n:Int)=some (0,(n:Int)):=by
 have := List.all_eq_true.1 JG n (List.mem_range.2 h);unfold lQ;rw [of_decide_eq_true this]
 rfl
theorem ED {n:Nat} (h:n<25) (h0:0<n) (c:Int):Mo (dY [c] (n:Int)) (· = List.replicate n c):=by
 unfold dY;refine Mo.bind (P:=fun _=>True) (.bifD (fun h=>absurd h (by omega)) fun _ => .pure trivial) fun _ _ => .gd (I0 (by simp)) (.gd (I0 (by omega)) ?_);refine (Mo.of (P:=(· = (0,(n:Int)))) (Kt h) rfl).bind fun v5 h5=>?_;subst h5;refine Mo.bind (P:=fun _=>True) (Mo.bind (P:=(· = false)) (.bifD (fun h=>absurd h (Int.lt_irrefl 0)) fun _ => .pure (by simp only [];rw [decide_eq_false (by omega)])) fun b hb => .bif (fun h=>by subst hb;cases h) fun _ => .pure trivial) fun _ _ => .gdI (by simp only [];omega) (.gdD (by simp only [];omega) ?_);simp only [tnn,List.length_replicate];refine Mo.bind (P:=(· = List.replicate n c)) ?_ fun v hv => .pure hv;refine Mo.loop (fun s=>∃ (k:Nat) (r:LI),0<k/\k<=n/\s.2=(k:Int)/\s.1=List.replicate k c++r/\r.length=n-k) (fun s=>((n:Int)-s.2).toNat) ⟨1,List.replicate (n-1) default,by omega,by omega,by simp;omega,?_,by simp⟩ fun s ⟨k,r,k0,k1,k2,k3,k4⟩ => ?_
 ·unfold cpy;rw [if_pos (by simp)];simp only [List.take_zero,List.nil_append,List.length_singleton,List.drop_replicate];rw [show min 1 n=1 by omega]
  rfl
 ·obtain ⟨l,m⟩:=s;simp only at k2 k3;subst k2;have hl:l.length=n:=by rw [k3,lla,List.length_replicate,k4];omega
  unfold eM;simp only [hl,tnn,Int.toNat_zero,Nat.zero_add,List.drop_zero,Nat.sub_zero];refine .bifD (fun hk=>?_) fun hk => .pure ?_
  ·have ht:l.take k=List.replicate k c:=by rw [k3,List.take_append_of_le_length (by simp),List.take_of_length_le (by simp)]
   simp only [ht,List.length_replicate];refine .gdD (by omega) (.gdD (by omega) (.gdI (by omega) (.pure ⟨⟨k+min k (n-k),r.drop (min k (n-k)),by omega,by omega,by simp,?_,by rw [List.length_drop];omega⟩,by simp only [];omega⟩)));unfold cpy;rw [if_pos (by omega),ht];simp only [List.length_replicate,List.take_replicate];rw [show min (min k (n-k)) k=min k (n-k) by omega,List.replicate_append_replicate,k3,List.drop_append,List.length_replicate,List.drop_of_length_le (by simp),List.nil_append,Nat.add_sub_cancel_left]
  ·have : k=n:=by omega
   subst this;have : r=[]:=List.eq_nil_of_length_eq_zero (by omega);rw [k3,this,List.append_nil]
section
variable {p:List (List Mh)}
def base (p:List (List Mh)) (t k:Nat):Nat:=(evP p t).length+(Mq t (p.getD t default) k).length
def num (p:List (List Mh)) (t k:Nat):Int:=if ((p.getD t default).getD k default).Op=4 then -1 else (base p t k:Int)
theorem Gh (t:Nat) (row:List Mh):∀ {n m:Nat},n<=m->Mq t row n <+: Mq t row m:=by
 intro n m h
 induction h with
 | refl=>exact List.prefix_refl _
 | step _ ih=>exact ih.trans (List.prefix_append _ _)
theorem zB (p:List (List Mh)):∀ {n m:Nat},n<=m->evP p n <+: evP p m:=by
 intro n m h
 induction h with
 | refl=>exact List.prefix_refl _
 | step _ ih=>exact ih.trans (List.prefix_append _ _)
theorem D5 {l m:List Mj} (h:l <+: m) {i:Nat} (hi:i<l.length):m.getD i default=l.getD i default/\i<m.length:=by
 obtain ⟨r,rfl⟩:=h;refine ⟨?_,by rw [lla];omega⟩;rw [gdq,gdq,gal hi]
theorem Gi {t k:Nat} (ht:t<p.length) (hk:k<(p.getD t default).length) (ho : ¬ ((p.getD t default).getD k default).Op=4) :
  (evs p).getD (base p t k) default=⟨t,k,((p.getD t default).getD k default).Loc,rdX ((p.getD t default).getD k default),wrX ((p.getD t default).getD k default)⟩/\base p t k<(evs p).length:=by
 have h1:evP p t++(Mq t (p.getD t default) k++[⟨t,k,((p.getD t default).getD k default).Loc,rdX ((p.getD t default).getD k default),wrX ((p.getD t default).getD k default)⟩]) <+: evs p:=by
  refine List.IsPrefix.trans ?_ (zB p (show t+1<=p.length by omega));refine (List.prefix_append_right_inj _).2 ?_;refine List.IsPrefix.trans ?_ (Gh t (p.getD t default) (show k+1<=(p.getD t default).length by omega));show _ <+: Mq t (p.getD t default) k++evI t k ((p.getD t default).getD k default);unfold evI;rw [if_neg ho];exact List.prefix_refl _
 obtain ⟨e1,e2⟩:=D5 h1 (i:=base p t k) (by simp only [base,lla,List.length_singleton];omega);refine ⟨e1.trans ?_,e2⟩;rw [gdq,base,gar (by omega),Nat.add_sub_cancel_left,gar (by omega),Nat.sub_self]
 rfl
def fnd (t k:Int):Nat->List Mj->LI
 | _,[]=>[]
 | b,e::l=>(if e.Thread=t/\e.Index=k then [(b:Int)] else [])++fnd t k (b+1) l
theorem uG (t k:Int):∀ (l m:List Mj) (b:Nat),fnd t k b (l++m)=fnd t k b l++fnd t k (b+l.length) m
 | [],m,b=>by simp [fnd]
 | e::l,m,b=>by
  simp only [List.cons_append,fnd,uG t k l m,List.append_assoc,llc];rw [show b+1+l.length=b+(l.length+1) by omega]
theorem yN (t k:Int):∀ (l:List Mj) (b:Nat),(∀ e∈l,¬ (e.Thread=t/\e.Index=k))->fnd t k b l=[]
 | [],_,_=>rfl
 | e::l,b,h=>by
  simp only [fnd];rw [if_neg (h e (List.mem_cons_self)),yN t k l _ fun x hx=>h x (List.mem_cons_of_mem _ hx)]
  rfl
theorem JH (t:Nat) (row:List Mh) (k:Nat) (n b:Nat):fnd t k b (Mq t row n)=if k<n /\ ¬ (row.getD k default).Op=4 then [((b+(Mq t row k).length:Nat):Int)] else []:=by
 induction n with
 | zero=>rw [if_neg (by omega)];rfl
 | succ n ih=>
  show fnd t k b (Mq t row n++evI t n (row.getD n default))=_;rw [uG,ih]
  by_cases e:k=n
  ·subst e;rw [if_neg (by omega)];unfold evI
   by_cases ho:(row.getD k default).Op=4
   ·rw [if_pos ho,if_neg (fun h=>h.2 ho)]
    rfl
   ·rw [if_neg ho,if_pos ⟨by omega,ho⟩];simp [fnd]
  ·have h2:fnd t k (b+(Mq t row n).length) (evI t n (row.getD n default))=[]:=by
    refine yN _ _ _ _ fun x hx=>?_;unfold evI at hx
    split at hx
    ·simp at hx
    ·rw [List.mem_singleton] at hx;subst hx;simp only [];omega
   rw [h2,List.append_nil]
   by_cases h:k<n
   ·simp only [h,show k<n+1 by omega,true_and]
   ·rw [if_neg (by omega),if_neg (by omega)]
theorem JI (p:List (List Mh)) (t k:Nat) (n:Nat):fnd t k 0 (evP p n)=if t<n/\k<(p.getD t default).length /\ ¬ ((p.getD t default).getD k default).Op=4 then [(base p t k:Int)] else []:=by
 induction n with
 | zero=>
  rw [if_neg (by omega)];refine yN _ _ _ _ fun e he=>?_;simp only [evP,ev0,List.mem_cons,List.not_mem_nil,or_false] at he;rcases he with rfl | rfl | rfl <;> (simp only [];omega)
 | succ n ih=>
  show fnd t k 0 (evP p n++Mq n (p.getD n default) (p.getD n default).length)=_;rw [uG,ih]
  by_cases e:t=n
  ·subst e;rw [if_neg (by omega),JH,Nat.zero_add]
   by_cases h:k<(p.getD t default).length /\ ¬ ((p.getD t default).getD k default).Op=4
   ·rw [if_pos h,if_pos ⟨by omega,h⟩]
    rfl
   ·rw [if_neg h,if_neg fun g=>h g.2]
    rfl
  ·have h2:fnd t k (0+(evP p n).length) (Mq n (p.getD n default) (p.getD n default).length)=[]:=by
    refine yN _ _ _ _ fun x hx=>?_;obtain ⟨j,_,h3,_⟩:=JC hx;rw [h3];omega
   rw [h2,List.append_nil]
   by_cases h:t<n
   ·simp only [h,show t<n+1 by omega,true_and]
   ·rw [if_neg (by omega),if_neg (by omega)]
def tC (p:List (List Mh)) (t k:Nat):LI:=if ((p.getD t default).getD k default).Op=4 then [] else [(base p t k:Int)]
def Mr (s:LI) (j:Nat):Nat:=(s.getD j default).toNat
def Ms (s:LI) (j:Nat):Nat:=(s.take j).count (s.getD j default)
def kg (p:List (List Mh)) (s:LI):Nat->LI
 | 0=>[]
 | n+1=>kg p s n++tC p (Mr s n) (Ms s n)
theorem yO (p:List (List Mh)) (s:LI) (n:Nat):(kg p s n).length<=n:=by
 induction n with
 | zero=>exact Nat.le_refl _
 | succ n ih=>
  have : (tC p (Mr s n) (Ms s n)).length<=1:=by unfold tC;split <;> simp
  simp only [kg,lla];omega
theorem nC {p:List (List Mh)} (h:Vs p):(evs p).length<=24:=by
 have h1:=Bs h p.length;have h2:=h.1;unfold evs;omega
theorem Iq (t k:Int) (l:List Mj) (e:Mj):fnd t k 0 (l++[e])=fnd t k 0 l++if e.Thread=t/\e.Index=k then [(l.length:Int)] else []:=by
 rw [uG,Nat.zero_add];simp [fnd]
theorem Gj (hp:PV p) {s:LI} (hs:s.length<=1048576) (hg:Good p s s.length):Mo (lY p s) (· = kg p s s.length):=by
 have hl:=hp.vs.1;have hel:=nC hp.vs;unfold lY;refine (Ga hp.vs).bind fun v1 h1 => .gdD (by omega) ?_;subst h1;refine Mo.bind (P:=fun z=>z.2=kg p s s.length) ?_ fun v hv => .pure hv;refine Mo.loop (fun z=>∃ n:Nat,n<=s.length/\z.2.2=(n:Int)/\z.2.1=kg p s n/\z.1.length=p.length/\∀ t:Nat,t<p.length->z.1.getD t default=((s.take n).count (t:Int):Int)) (fun z=>((s.length:Int)-z.2.2).toNat) ⟨0,by omega,rfl,rfl,by simp,fun t ht=>?_⟩ fun z ⟨n,h1,h2,h3,h4,h5⟩ => ?_
 ·simp only [List.take_zero,List.count_nil];rw [gdq,List.getElem?_replicate]
  split <;> rfl
 ·obtain ⟨at_,l,i⟩:=z;simp only at h2 h3 h4 h5;subst h2 h3;unfold lW;refine .bifD (fun hk=>?_) fun hk => .pure ?_
  ·simp only [] at hk;obtain ⟨g1,g2⟩:=hg n (by omega);have ht:(s.getD n default).toNat<p.length:=by omega
   have em:(((s.getD n default).toNat:Nat):Int)=s.getD n default:=Int.toNat_of_nonneg g1.1;have hat:=h5 _ ht;rw [em] at hat;have hrow:=hp.vs.2 (s.getD n default).toNat;refine Mo.bind (P:=(· = kg p s (n+1))) (.gdD ⟨by simp only [];omega,hk⟩ ?_) fun v hv => .gdI (by simp only [];omega) (.pure ⟨⟨n+1,by omega,rfl,hv,by simp only [List.length_set];exact h4,fun t htp=>?_⟩,by simp only [];omega⟩)
   ·refine Mo.bind (P:=(· = kg p s (n+1))) ?_ fun v hv => .gdD ⟨g1.1,by simp only [];rw [h4];exact g1.2⟩ (.gdI (by simp only [tnn];rw [hat];omega) (.pure hv));refine Mo.loop (fun y=>∃ m:Nat,m<=(evs p).length/\y=(kg p s n++fnd (s.getD n default) (Ms s n) 0 ((evs p).take m),(m:Int))) (fun y=>(((evs p).length:Int)-y.2).toNat) ⟨0,by omega,by simp [fnd]⟩ fun y ⟨m,m1,m2⟩ => ?_;subst m2;have hol:=yO p s n;unfold kW;refine .bifD (fun hm=>?_) fun hm => .pure ?_
    ·simp only [] at hm;have hfl:(fnd (s.getD n default) (Ms s n) 0 ((evs p).take m)).length<=m:=by
      have : ∀ (l:List Mj) (b:Nat),(fnd (s.getD n default) (Ms s n) b l).length<=l.length:=by
       intro l
       induction l with
       | nil=>intro b;exact Nat.le_refl _
       | cons e l ih=>
        intro b;have := ih (b+1);simp only [fnd,lla,llc]
        split <;> simp only [List.length_singleton,List.length_nil] <;> omega
      refine Nat.le_trans (this _ _) ?_;rw [List.length_take];omega
     refine Mo.bind (P:=(· = kg p s n++fnd (s.getD n default) (Ms s n) 0 ((evs p).take (m+1)))) ?_ fun v hv => .gdI (by simp only [];omega) (.pure ⟨⟨m+1,by omega,by rw [hv];rfl⟩,by simp only [];omega⟩);have hml:m<(evs p).length:=by omega
     have ee:(evs p).getD m default=(evs p)[m]:=by rw [gdq,geq hml];rfl
     rw [<- List.take_append_getElem hml,Iq,<- ee,List.length_take,Nat.min_eq_left (by omega)];simp only [tnn];refine Mo.bind (P:=fun b=>b=decide (((evs p).getD m default).Thread=s.getD n default/\((evs p).getD m default).Index=(Ms s n:Int))) (.gdD ⟨by omega,hm⟩ (.bif (fun hb => .gdD ⟨g1.1,by rw [h4];exact g1.2⟩ (.pure ?_)) fun hb => .pure ?_)) fun b hb=>?_
     ·rw [hat];have hb:((evs p).getD m default).Thread=s.getD n default:=by simpa using hb
      simp only [hb,true_and]
      rfl
     ·have hb : ¬ ((evs p).getD m default).Thread=s.getD n default:=by simpa using hb
      rw [decide_eq_false fun h=>hb h.1]
     ·subst hb;refine .bifD (fun hc => .gd (eu (by rw [lla];omega) rfl) (.pure ?_)) fun hc => .pure ?_
      ·rw [if_pos hc,List.append_assoc]
      ·rw [if_neg hc,List.append_nil]
    ·simp only [] at hm;have : m=(evs p).length:=by omega
     subst this;simp only [List.take_length];show _=kg p s n++tC p (Mr s n) (Ms s n)
     congr 1
     have := JI p (Mr s n) (Ms s n) p.length;unfold Mr at this;rw [em] at this;show fnd _ _ 0 (evP p p.length)=_;rw [this];unfold tC Mr
     by_cases ho:((p.getD (s.getD n default).toNat default).getD (Ms s n) default).Op=4
     ·rw [if_neg fun h=>h.2.2 ho,if_pos ho]
     ·rw [if_pos ⟨ht,g2,ho⟩,if_neg ho]
   ·simp only [tnn];rw [eX (by rw [h4];exact ht),rB (by omega),hat]
    by_cases e:t=(s.getD n default).toNat
    ·have e':s.getD n default=(t:Int):=by omega
     rw [if_pos e,if_pos e',e'];omega
    ·have e' : ¬ s.getD n default=(t:Int):=by omega
     rw [if_neg e,if_neg e',h5 t htp]
     rfl
  ·simp only [] at hk;have : n=s.length:=by omega
   subst this
   rfl
end
section
variable {p:List (List Mh)}
theorem getD_nil (l:LL) (i:Nat):l.getD i default=l.getD i []:=rfl
theorem zC {l:LL} {i j:Nat} {v:LI} (hi:i<l.length):(l.set i v).getD j []=if j=i then v else l.getD j []:=by
 rw [gdq,List.getElem?_set]
 by_cases e:i=j
 ·subst e;rw [if_pos rfl,if_pos hi,if_pos rfl]
  rfl
 ·rw [if_neg e,if_neg (Ne.symm e),gdq]
def Ae (p:List (List Mh)) (t k:Nat):LI:=(List.range k).map (num p t)
theorem Gm (t k:Nat):Ae p t (k+1)=Ae p t k++[num p t k]:=by
 unfold Ae;rw [List.range_succ,List.map_append]
 rfl
theorem Dm (hp:PV p):Mo (nH p) fun l=>l.length=p.length/\∀ t:Nat,t<p.length->l.getD t []=Ae p t (p.getD t default).length:=by
 have hl:=hp.vs.1;unfold nH;refine .gdD (by omega) ?_;refine Mo.bind (P:=fun l=>l.length=p.length/\∀ t:Nat,t<p.length->l.getD t []=Ae p t (p.getD t default).length) ?_ fun v hv => .pure hv;refine Mo.loop (fun z=>∃ n:Nat,n<=p.length/\z.2.1=(n:Int)/\z.2.2=((evP p n).length:Int)/\z.1.length=p.length/\∀ t:Nat,t<p.length->z.1.getD t []=if t<n then Ae p t (p.getD t default).length else []) (fun z=>((p.length:Int)-z.2.1).toNat) ⟨0,by omega,rfl,rfl,by simp,fun t ht=>?_⟩ fun z ⟨n,h1,h2,h3,h4,h5⟩ => ?_
 ·simp only [];rw [if_neg (by omega),gdq,List.getElem?_replicate]
  split <;> rfl
 ·obtain ⟨l,i,c⟩:=z;simp only at h2 h3 h4 h5;subst h2 h3;unfold lM;refine .bifD (fun hk=>?_) fun hk => .pure ?_
  ·simp only [] at hk;have hn:n<p.length:=by omega
   have hrow:=hp.vs.2 n;have hlen:=Bs hp.vs n;refine Mo.bind (P:=fun y=>y.2=((evP p (n+1)).length:Int)/\y.1.length=p.length/\∀ t:Nat,t<p.length->y.1.getD t []=if t<n+1 then Ae p t (p.getD t default).length else []) (.gdD ⟨by simp only [];omega,hk⟩ ?_) fun v ⟨v1,v2,v3⟩ => .gdI (by simp only [];omega) (.pure ⟨⟨n+1,by omega,rfl,v1,v2,v3⟩,by simp only [];omega⟩);refine Mo.loop (fun y=>∃ k:Nat,k<=(p.getD n default).length/\y.2.1=(k:Int)/\y.2.2=(base p n k:Int)/\y.1.length=p.length/\∀ t:Nat,t<p.length->y.1.getD t []=if t<n then Ae p t (p.getD t default).length else if t=n then Ae p t k else []) (fun y=>(((p.getD n default).length:Int)-y.2.1).toNat) ⟨0,by omega,rfl,by simp [base,Mq],h4,fun t ht=>?_⟩ fun y ⟨k,k1,k2,k3,k4,k5⟩ => ?_
   ·rw [h5 t ht]
    by_cases e:t<n
    ·rw [if_pos e,if_pos e]
    ·rw [if_neg e,if_neg e]
     split <;> rfl
   ·obtain ⟨l',i',c'⟩:=y;simp only at k2 k3 k4 k5;subst k2 k3;unfold lL;simp only [tnn];refine .bifD (fun hkk=>?_) fun hkk => .pure ?_
    ·have hR:=Bq n (p.getD n default) k;have hb:base p n k<=31:=by unfold base;omega
     have hrn:=k5 n hn;rw [if_neg (Nat.lt_irrefl n),if_pos rfl] at hrn;have hrl:(Ae p n k).length=k:=by simp [Ae]
     have hfin:∀ (v:Int),v=num p n k->∀ t:Nat,t<p.length->(l'.set n (Ae p n k++[v])).getD t []=if t<n then Ae p t (p.getD t default).length else if t=n then Ae p t (k+1) else []:=fun v hv t ht=>by
      rw [zC (by omega)]
      by_cases e:t=n
      ·subst e;rw [if_pos rfl,if_neg (Nat.lt_irrefl t),if_pos rfl,Gm,hv]
      ·rw [if_neg e,k5 t ht]
       by_cases e2:t<n
       ·rw [if_pos e2,if_pos e2]
       ·rw [if_neg e2,if_neg e2,if_neg e,if_neg e]
     refine Mo.bind (P:=fun y=>y.2=(base p n (k+1):Int)/\y.1.length=p.length/\∀ t:Nat,t<p.length->y.1.getD t []=if t<n then Ae p t (p.getD t default).length else if t=n then Ae p t (k+1) else []) (.gdD ⟨by omega,hkk⟩ (.bif (fun ho=>?_) fun ho=>?_)) fun v ⟨v1,v2,v3⟩ => .gdI (by omega) (.pure ⟨⟨k+1,by omega,rfl,v1,v2,v3⟩,by simp only [];omega⟩)
     ·have ho:((p.getD n default).getD k default).Op=4:=by simpa using ho
      refine .gdD ⟨by omega,by omega⟩ (.gd (eu (by rw [hrn,hrl];omega) rfl) (.pure ⟨?_,by simp only [List.length_set];exact k4,?_⟩))
      ·simp only [base,Mq,evI,if_pos ho,List.append_nil]
      ·rw [hrn];exact hfin _ (by rw [num,if_pos ho])
     ·have ho : ¬ ((p.getD n default).getD k default).Op=4:=by simpa using ho
      refine .gdD ⟨by omega,by omega⟩ (.gd (eu (by rw [hrn,hrl];omega) rfl) (.gdI (by omega) (.pure ⟨?_,by simp only [List.length_set];exact k4,?_⟩)))
      ·simp only [base,Mq,evI,if_neg ho,lla,List.length_singleton];omega
      ·rw [hrn];exact hfin _ (by rw [num,if_neg ho])
    ·have : k=(p.getD n default).length:=by omega
     subst this;refine ⟨?_,k4,fun t ht=>?_⟩
     ·simp only [base,evP,lla]
     ·simp only [];rw [k5 t ht]
      by_cases e:t=n
      ·subst e;rw [if_neg (Nat.lt_irrefl t),if_pos rfl,if_pos (by omega)]
      ·by_cases e2:t<n
       ·rw [if_pos e2,if_pos (by omega)]
       ·rw [if_neg e2,if_neg e,if_neg (by omega)]
  ·simp only [] at hk;have : n=p.length:=by omega
   subst this;refine ⟨h4,fun t ht=>?_⟩;rw [h5 t ht,if_pos ht]
abbrev XS:=List Int×LL
def stX (p:List (List Mh)) (st:XS) (n:Int):XS:=
  (if ((evs p).getD n.toNat default).Reads=true then st.1.set n.toNat ((st.2.getD ((evs p).getD n.toNat default).Loc.toNat []).getD (((st.2.getD ((evs p).getD n.toNat default).Loc.toNat []).length:Int)-1).toNat default) else st.1,
   st.2.set ((evs p).getD n.toNat default).Loc.toNat (if ((evs p).getD n.toNat default).db=true then st.2.getD ((evs p).getD n.toNat default).Loc.toNat []++[n] else st.2.getD ((evs p).getD n.toNat default).Loc.toNat []))
def x0 (p:List (List Mh)):XS:=(List.replicate (evs p).length (-1),[[0],[1],[2]])
def sV (p:List (List Mh)) (l:LI):XS:=l.foldl (stX p) (x0 p)
theorem wF (l:LI) (n:Int):sV p (l++[n])=stX p (sV p l) n:=by
 unfold sV;rw [List.foldl_append]
 rfl
def OkN (p:List (List Mh)) (n:Int):Prop:=(0<=n/\n<((evs p).length:Int))/\0<=((evs p).getD n.toNat default).Loc/\((evs p).getD n.toNat default).Loc<=2
structure InX (p:List (List Mh)) (m:Nat) (st:XS):Prop where
 f:st.1.length=(evs p).length
 o:st.2.length=3
 r:∀ i:Nat,i<3->1<=(st.2.getD i []).length/\(st.2.getD i []).length<=m+1
theorem InX.x0:InX p 0 (x0 p):=⟨by simp [YtcmimhffgmckjaaGreatDoor.x0],rfl,fun i hi=>by
 match i,hi with
 | 0,_=>exact ⟨Nat.le_refl 1,Nat.le_refl 1⟩
 | 1,_=>exact ⟨Nat.le_refl 1,Nat.le_refl 1⟩
 | 2,_=>exact ⟨Nat.le_refl 1,Nat.le_refl 1⟩⟩
theorem InX.step {m:Nat} {st:XS} {n:Int} (h:InX p m st) (hn:OkN p n):InX p (m+1) (stX p st n):=by
 obtain ⟨_,h2,h3⟩:=hn;unfold stX;refine ⟨?_,by simp only [List.length_set];exact h.o,fun i hi=>?_⟩
 ·simp only []
  split
  ·rw [List.length_set];exact h.f
  ·exact h.f
 ·simp only [];rw [zC (by rw [h.o];omega)];have hr:=h.r ((evs p).getD n.toNat default).Loc.toNat (by omega);have hi':=h.r i hi
  split
  ·split
   ·simp only [lla,List.length_singleton];omega
   ·omega
  ·omega
theorem InX.runs:∀ {l:LI} {m:Nat} {st:XS},InX p m st->(∀ n∈l,OkN p n)->InX p (m+l.length) (l.foldl (stX p) st)
 | [],_,_,h,_=>h
 | n::l,m,st,h,k=>by
  have := InX.runs (h.step (k n (List.mem_cons_self))) fun x hx=>k x (List.mem_cons_of_mem _ hx);rw [llc,show m+(l.length+1)=m+1+l.length by omega];exact this
theorem InX.run {l:LI} (h:∀ n∈l,OkN p n):InX p l.length (sV p l):=by
 have := InX.runs InX.x0 h
 rwa [Nat.zero_add] at this
theorem step_ok (hp:PV p) {t k:Nat} (ht:t<p.length) (hk:k<(p.getD t default).length):∀ n∈tC p t k,OkN p n:=by
 intro n hn;unfold tC at hn
 split at hn
 ·simp at hn
 ·rename_i ho;rw [List.mem_singleton] at hn;subst hn;obtain ⟨e1,e2⟩:=Gi ht hk ho;have hx:=hp.ins t k ht hk;refine ⟨by omega,?_⟩;rw [tnn,e1];exact ⟨hx.1,hx.2.1⟩
theorem Bv {s:LI} (hg:Good p s s.length) {j:Nat} (hj:j<s.length):Mr s j<p.length/\((Mr s j:Nat):Int)=s.getD j default/\Ms s j<(p.getD (Mr s j) default).length:=by
 obtain ⟨g1,g2⟩:=hg j hj;unfold Mr Ms;exact ⟨by omega,by omega,g2⟩
theorem AK (hp:PV p) {s:LI} (hg:Good p s s.length):∀ {n:Nat},n<=s.length->∀ m∈kg p s n,OkN p m:=by
 intro n
 induction n with
 | zero=>intro _ m hm;simp [kg] at hm
 | succ n ih=>
  intro hn m hm;simp only [kg,List.mem_append] at hm;rcases hm with hm | hm
  ·exact ih (by omega) m hm
  ·obtain ⟨h1,_,h3⟩:=Bv hg (j:=n) (by omega);exact step_ok hp h1 h3 m hm
theorem Cr {m:Nat} {st:XS} {n:Int} (h:InX p m st) (hm:m<=2000000) (hn:OkN p n) {loc:Int} {rd wr:Bool} (hloc:loc=((evs p).getD n.toNat default).Loc) (hrd:rd=((evs p).getD n.toNat default).Reads) (hwr:wr=((evs p).getD n.toNat default).db) :
  Mo (Option.bind (bif rd then
    gd (Md .i64 (((st.2.getD loc.toNat []).length:Int)-(1:Int))) <|
    gd (decide (0<=(((st.2.getD loc.toNat []).length:Int)-(1:Int))/\(((st.2.getD loc.toNat []).length:Int)-(1:Int))<(((st.2.getD loc.toNat []).length):Int))) <|
    gd (decide (0<=n/\n<(st.1.length:Int))) <|
    some ((st.1.set n.toNat ((st.2.getD loc.toNat []).getD ((((st.2.getD loc.toNat []).length:Int)-(1:Int)).toNat) default)),(st.2.getD loc.toNat []))
   else some (st.1,(st.2.getD loc.toNat []))) fun (w:List Int×LI)=>
   bif wr then
    gd (dW (w.2.length+1) 8) <|
    some (w.1,(st.2.set loc.toNat (w.2++[n])))
   else some (w.1,(st.2.set loc.toNat w.2))) (· = stX p st n):=by
 obtain ⟨h1,h2,h3⟩:=hn;have hr:=h.r ((evs p).getD n.toNat default).Loc.toNat (by omega);subst hloc hrd hwr;unfold stX;refine Mo.bind (P:=fun w=>w.1=(if ((evs p).getD n.toNat default).Reads=true then st.1.set n.toNat ((st.2.getD ((evs p).getD n.toNat default).Loc.toNat []).getD (((st.2.getD ((evs p).getD n.toNat default).Loc.toNat []).length:Int)-1).toNat default) else st.1)/\w.2=st.2.getD ((evs p).getD n.toNat default).Loc.toNat []) (.bif (fun hb => .gdI (by omega) (.gdD (by omega) (.gdD (by rw [h.f];exact h1) (.pure ⟨by rw [if_pos hb],rfl⟩)))) fun hb => .pure ⟨by rw [if_neg (Bool.eq_false_iff.1 hb)],rfl⟩) fun w ⟨w1,w2⟩ => ?_;exact .bif (fun hb => .gd (eu (by rw [w2];omega) rfl) (.pure (by rw [if_pos hb,w1,w2]))) fun hb => .pure (by rw [if_neg (Bool.eq_false_iff.1 hb),w1,w2])
theorem Gn (hp:PV p) {s:LI} (hs:s.length<=1048576) (hg:Good p s s.length):Mo (kv p s) (· = ⟨(sV p (kg p s s.length)).1,(sV p (kg p s s.length)).2⟩):=by
 have hel:=nC hp.vs;unfold kv;refine (Ga hp.vs).bind fun v1 h1=>?_;subst h1;refine Mo.bind (P:=(· = (List.replicate (evs p).length (-1),[]))) ?_ fun v2 h2=>?_
 ·refine Mo.loop (fun z=>∃ n:Nat,n<=(evs p).length/\z=(List.replicate n (-1),[],(n:Int))) (fun z=>(((evs p).length:Int)-z.2.2).toNat) ⟨0,by omega,rfl⟩ fun z ⟨n,h1,h2⟩ => ?_;subst h2;unfold lZ;refine .bifD (fun hk => .gd (eu (by rw [List.length_replicate];omega) rfl) (.gdI (by simp only [];omega) (.pure ⟨⟨n+1,by simp only [] at hk;omega,?_⟩,by simp only [] at hk ⊢;omega⟩))) fun hk => .pure ?_
  ·rw [List.replicate_succ']
   rfl
  ·have : n=(evs p).length:=by simp only [] at hk;omega
   subst this
   rfl
 subst h2;refine Mo.bind (P:=(· = [[0],[1],[2]])) ?_ fun v2 h2=>?_
 ·refine Mo.loop (fun z=>∃ n:Nat,n<=3/\z=(([[0],[1],[2]]:LL).take n,(n:Int))) (fun z=>(3-z.2).toNat) ⟨0,by omega,rfl⟩ fun z ⟨n,h1,h2⟩ => ?_;subst h2;unfold l4;refine .bifD (fun h=>?_) fun h => .pure ?_
  ·match n,h1,h with
   | 0,_,_=>exact .gdC (by decide) rfl (.gdI (by decide) (.pure ⟨⟨1,by omega,rfl⟩,by decide⟩))
   | 1,_,_=>exact .gdC (by decide) rfl (.gdI (by decide) (.pure ⟨⟨2,by omega,rfl⟩,by decide⟩))
   | 2,_,_=>exact .gdC (by decide) rfl (.gdI (by decide) (.pure ⟨⟨3,by omega,rfl⟩,by decide⟩))
   | 3,_,h=>exact absurd h (by decide)
  ·have : n=3:=by simp only [] at h;omega
   subst this
   rfl
 subst h2;refine (Gj hp hs hg).bind fun v75 h75=>?_;have hok:=AK hp hg (Nat.le_refl s.length);have hln:=yO p s s.length;rw [<- h75] at hok hln ⊢;clear h75;refine Mo.bind (P:=(· = sV p v75)) ?_ fun v hv => .pure (by rw [hv]);refine Mo.loop (fun z=>∃ n:Nat,n<=v75.length/\z=((sV p (v75.take n)).1,(sV p (v75.take n)).2,(n:Int))) (fun z=>((v75.length:Int)-z.2.2).toNat) ⟨0,by omega,rfl⟩ fun z ⟨n,h1,h2⟩ => ?_;subst h2;unfold l5;refine .bifD (fun hk=>?_) fun hk => .pure ?_
 ·simp only [] at hk;have hn:n<v75.length:=by omega
  have en:v75.getD n default=v75[n]:=by rw [gdq,geq hn];rfl
  have hx:=hok _ (List.getElem_mem hn);rw [<- en] at hx;have hin:=InX.run (p:=p) (l:=v75.take n) fun x hx=>hok x (List.mem_of_mem_take hx);rw [List.length_take,Nat.min_eq_left (by omega)] at hin;simp only [tnn];refine Mo.bind (P:=(· = sV p (v75.take (n+1)))) (.gdD ⟨by omega,hk⟩ (.gdD hx.1 (.gdD ⟨hx.2.1,by rw [hin.o];have := hx.2.2;omega⟩ ?_))) fun v hv => .gdI (by omega) (.pure ⟨⟨n+1,by omega,by rw [hv];rfl⟩,by simp only [];omega⟩);rw [<- List.take_append_getElem hn,wF,<- en];exact Cr hin (by omega) hx rfl rfl rfl
 ·have : n=v75.length:=by simp only [] at hk;omega
  subst this;rw [List.take_length]
theorem Gp (a:Z3i) (q i v:Int) (hq:0<=q/\q<=2) (hi:0<=i/\i<=2):Z3i.get (Z3i.set a q v) i=if i=q then v else Z3i.get a i:=by
 obtain ⟨x,y,z⟩:=a;have h1:q=0\/q=1\/q=2:=by omega
 have h2:i=0\/i=1\/i=2:=by omega
 rcases h1 with rfl | rfl | rfl <;> rcases h2 with rfl | rfl | rfl <;> rfl
theorem Gq (hp:PV p) {s:LI} (hs:s.length<=1048576) (hg:Good p s s.length):Mo (lS p s) (· = ⟨(sV p (kg p s s.length)).1,(sV p (kg p s s.length)).2⟩):=by
 have hl:=hp.vs.1;have hel:=nC hp.vs;have he3:3<=(evs p).length:=(zB p (Nat.zero_le p.length)).length_le;unfold lS;refine (zA hp.vs).bind fun v1 h1=>?_;subst h1;refine (ED (by omega) (by omega) (-1)).bind fun v2 h2=>?_;subst h2;refine (Dm hp).bind fun v6 ⟨n1,n2⟩ => ?_;refine Mo.bind (P:=fun z=>z.1=(sV p (kg p s s.length)).1/\z.2.1=(sV p (kg p s s.length)).2) ?_ fun v hv => .pure (by rw [hv.1,hv.2]);refine Mo.loop (fun z=>∃ n:Nat,n<=s.length/\z.1=(sV p (kg p s n)).1/\z.2.1=(sV p (kg p s n)).2/\z.2.2.2.2.2=(n:Int)/\∀ t:Nat,t<3->Z3i.get ⟨z.2.2.1,z.2.2.2.1,z.2.2.2.2.1⟩ (t:Int)=((s.take n).count (t:Int):Int)) (fun z=>((s.length:Int)-z.2.2.2.2.2).toNat) ⟨0,by omega,rfl,rfl,rfl,fun t ht=>?_⟩ fun z ⟨n,h1,h2,h3,h4,h5⟩ => ?_
 ·simp only [Z3i.get,List.take_zero,List.count_nil]
  split <;> (try split) <;> rfl
 ·obtain ⟨f,o,a0,a1,a2,i⟩:=z;simp only at h2 h3 h4 h5;subst h2 h3 h4;unfold m9;refine .bifD (fun hk=>?_) fun hk => .pure ?_
  ·simp only [] at hk;simp only [tnn];obtain ⟨g1,g2,g3⟩:=Bv hg (j:=n) (by omega);have hok:=AK hp hg (n:=n) (by omega);have hin:=InX.run hok;have hol:=yO p s n;generalize ha:(⟨a0,a1,a2⟩:Z3i)=a at h5 ⊢;have hgt:Z3i.get a (s.getD n default)=(Ms s n:Int):=by
    rw [<- g2,h5 _ (by omega),g2]
    rfl
   have hrow:=hp.vs.2 (Mr s n);have hx:=hp.ins _ _ g1 g3;have hT:(s.getD n default).toNat=Mr s n:=rfl;have hnum:v6.getD (Mr s n) default=Ae p (Mr s n) (p.getD (Mr s n) default).length:=n2 _ g1;have hnl:(Ae p (Mr s n) (p.getD (Mr s n) default).length).length=(p.getD (Mr s n) default).length:=by simp [Ae]
   have hnk:(Ae p (Mr s n) (p.getD (Mr s n) default).length).getD (Ms s n) default=num p (Mr s n) (Ms s n):=by
    unfold Ae;rw [gdq,List.getElem?_map,List.getElem?_range g3]
    rfl
   simp only [hgt,hT,hnum,hnk,tnn];refine Mo.bind (P:=(· = sV p (kg p s (n+1)))) (.gdD ⟨by omega,hk⟩ (.gdD (by omega) (.gdD (by omega) (.gdD (by omega) (.gdD (by rw [n1];omega) (.gdD (by rw [hnl];omega) (.gdI (by omega) ?_))))))) fun v hv => .gdI (by omega) (.pure ⟨⟨n+1,by omega,by rw [hv],by rw [hv],rfl,fun t ht=>?_⟩,by simp only [];omega⟩)
   ·show Mo _ (· = sV p (kg p s n++tC p (Mr s n) (Ms s n)));refine .bif (fun ho => .pure ?_) fun ho=>?_
    ·have ho:((p.getD (Mr s n) default).getD (Ms s n) default).Op=4:=by simpa using ho
     rw [tC,if_pos ho,List.append_nil]
    ·have ho : ¬ ((p.getD (Mr s n) default).getD (Ms s n) default).Op=4:=by simpa using ho
     have hokn:=step_ok hp g1 g3 (base p (Mr s n) (Ms s n):Int) (by rw [tC,if_neg ho];simp);obtain ⟨e1,e2⟩:=Gi g1 g3 ho;rw [tC,if_neg ho,wF,num,if_neg ho];refine .gdD ⟨hx.1,by rw [hin.o];have := hx.2.1;omega⟩ ?_;have key:=Cr hin (by omega) hokn (loc:=((p.getD (Mr s n) default).getD (Ms s n) default).Loc) (rd:=rdX ((p.getD (Mr s n) default).getD (Ms s n) default)) (wr:=wrX ((p.getD (Mr s n) default).getD (Ms s n) default)) (by rw [tnn,e1]) (by rw [tnn,e1]) (by rw [tnn,e1]);obtain ⟨b1,r1,r2⟩:=F6 ((p.getD (Mr s n) default).getD (Ms s n) default);obtain ⟨b2,w1,w2⟩:=Dl ((p.getD (Mr s n) default).getD (Ms s n) default);subst r2 w2;rw [r1,w1];exact key
   ·simp only [];have e:(⟨(Z3i.set a (s.getD n default) ((Ms s n:Int)+1)).x0,(Z3i.set a (s.getD n default) ((Ms s n:Int)+1)).x1,(Z3i.set a (s.getD n default) ((Ms s n:Int)+1)).x2⟩:Z3i)=Z3i.set a (s.getD n default) ((Ms s n:Int)+1):=rfl;rw [e,Gp _ _ _ _ (by omega) (by omega),rB (by omega),h5 t ht]
    by_cases e:(t:Int)=s.getD n default
    ·rw [if_pos e,if_pos e.symm];unfold Ms;rw [e]
     rfl
    ·rw [if_neg e,if_neg (Ne.symm e)]
     rfl
  ·simp only [] at hk;have : n=s.length:=by omega
   subst this;exact ⟨rfl,rfl⟩
end
theorem xw {a b:LI} (h:a.length<=4000000):Mo (bQ a b) (· = decide (a=b)):=by
 unfold bQ;refine .bif (fun hn => .pure ?_) fun hn=>?_
 ·rw [decide_eq_false];rintro rfl;simp at hn
 ·have hl:a.length=b.length:=by
   have : (a.length:Int)=(b.length:Int):=by simpa using hn
   omega
  refine Mo.sum (PS:=fun _=>a=b) (PW:=(· = decide (a=b))) ((I6 hl (bad:=false) (fun i h1 h2=>?_) fun i hi=>?_).mono fun v hv=>?_) fun _ e => .pure (decide_eq_true e).symm
  ·unfold fO;refine .bifD (fun _ => .gdD ⟨h1,h2⟩ (.gdD ⟨h1,by omega⟩ (.bif (fun hb => .pure ?_) fun hb => .gdI (by omega) (.pure ?_)))) fun h=>absurd h2 h
   ·rw [if_neg (by simpa using hb)]
   ·rw [if_pos (by simpa using hb)]
  ·unfold fO;rw [decide_eq_false hi]
   rfl
  ·subst hv
   by_cases e:a=b
   ·rw [if_pos e];exact e
   ·rw [if_neg e];exact (decide_eq_false e).symm
theorem EE {a b:LL} (h:a.length<=4000000) (hr:∀ i:Nat,(a.getD i default).length<=4000000):Mo (aJ a b) (· = decide (a=b)):=by
 unfold aJ;refine .bif (fun hn => .pure ?_) fun hn=>?_
 ·rw [decide_eq_false];rintro rfl;simp at hn
 ·have hl:a.length=b.length:=by
   have : (a.length:Int)=(b.length:Int):=by simpa using hn
   omega
  refine Mo.sum (PS:=fun _=>a=b) (PW:=(· = decide (a=b))) ((I6 hl (bad:=false) (fun i h1 h2=>?_) fun i hi=>?_).mono fun v hv=>?_) fun _ e => .pure (decide_eq_true e).symm
  ·unfold aX;refine .bifD (fun _ => .gdD ⟨h1,h2⟩ (.gdD ⟨h1,by omega⟩ ?_)) fun h=>absurd h2 h;refine Mo.bind (P:=(· = decide (a.getD i.toNat default=b.getD i.toNat default))) (by unfold ng;exact (xw (hr _)).bind fun v hv => .pure hv) fun v hv=>?_;subst hv;refine .bif (fun hb => .pure ?_) fun hb => .gdI (by omega) (.pure ?_)
   ·rw [if_neg (by intro e;rw [decide_eq_true e] at hb;cases hb)]
   ·rw [if_pos (by refine of_decide_eq_true ?_;revert hb;cases decide (a.getD i.toNat default=b.getD i.toNat default) <;> simp)]
  ·unfold aX;rw [decide_eq_false hi]
   rfl
  ·subst hv
   by_cases e:a=b
   ·rw [if_pos e];exact e
   ·rw [if_neg e];exact (decide_eq_false e).symm
def EB (e:Mi):Prop:=e.From.length<=4000000/\e.Order.length<=4000000/\∀ i:Nat,(e.Order.getD i default).length<=4000000
def same (a b:Mi):Bool:=decide (a.From=b.From)&&decide (a.Order=b.Order)
theorem Gs {a b:Mi} (h:EB a):Mo (gz a b) (· = same a b):=by
 unfold gz same;refine (xw h.1).bind fun v hv=>?_;subst hv;refine Mo.bind (P:=(· = (decide (a.From=b.From)&&decide (a.Order=b.Order)))) (.bif (fun hb=>(EE h.2.1 h.2.2).bind fun v hv => .pure (by rw [hv,hb];rfl)) fun hb => .pure (by rw [hb];rfl)) fun v hv => .pure hv
def CI (p:List (List Mh)) (s:LI) (b:Bool):Mi:=bif b then ⟨(sV p (kg p s s.length)).1,(sV p (kg p s s.length)).2⟩ else ⟨[],[]⟩
theorem EF (p:List (List Mh)) {s:LI} (hsz:p.length<=1048576/\total p<=1048576) (hs:s.length<=1048576) :
  ∃ b,lT p s=some (CI p s b,b)/\l6 p s=some (CI p s b,b)/\EB (CI p s b)/\(b=true↔Whole p s):=by
 obtain ⟨o,b,e1,e2,hg⟩:=Ip p hsz hs;have key:(b=true->lS p s=some (CI p s b)/\kv p s=some (CI p s b)) ->
   lT p s=some (CI p s b,b)/\l6 p s=some (CI p s b,b):=by
  intro he
  constructor
  ·refine Mo.eq ?_;unfold lT;refine (Mo.of (P:=(· = (o,b))) e1 rfl).bind fun v hv=>?_;subst hv;refine .bif (fun hb => .pure ?_) fun hb=>?_
   ·have : b=false:=by simpa using hb
    subst this
    rfl
   ·have : b=true:=by simpa using hb
    subst this;exact (Mo.of (P:=(· = CI p s true)) (he rfl).1 rfl).bind fun v hv => .pure (by rw [hv])
  ·refine Mo.eq ?_;unfold l6;refine (Mo.of (P:=(· = (o,b))) e2 rfl).bind fun v hv=>?_;subst hv;refine .bif (fun hb => .pure ?_) fun hb=>?_
   ·have : b=false:=by simpa using hb
    subst this
    rfl
   ·have : b=true:=by simpa using hb
    subst this;exact (Mo.of (P:=(· = CI p s true)) (he rfl).2 rfl).bind fun v hv => .pure (by rw [hv])
 cases b with
 | false=>
  obtain ⟨k1,k2⟩:=key nofun;refine ⟨false,k1,k2,⟨Nat.zero_le _,Nat.zero_le _,fun i=>?_⟩,hg⟩;show (([]:LL).getD i []).length<=_;rw [List.getD_nil];exact Nat.zero_le _
 | true=>
  have hw:=hg.1 rfl;have hp:=PV.of hw.1;have hgood:=hw.2.1;obtain ⟨k1,k2⟩:=key fun _=>⟨(Gq hp hs hgood).eq,(Gn hp hs hgood).eq⟩;refine ⟨true,k1,k2,?_,hg⟩;have hin:=InX.run (AK hp hgood (Nat.le_refl s.length));have hol:=yO p s s.length;have hel:=nC hp.vs;refine ⟨by show (sV p (kg p s s.length)).1.length<=_;rw [hin.f];omega,by show (sV p (kg p s s.length)).2.length<=_;rw [hin.o];omega,fun i=>?_⟩;show ((sV p (kg p s s.length)).2.getD i []).length<=_
  by_cases hi:i<3
  ·have := hin.r i hi;omega
  ·rw [gdq,gen (by rw [hin.o];omega)];exact Nat.zero_le _
theorem D6 {α:Type} {Q:List α->Prop} (h0:Q []) (hs:∀ l a,Q l->Q (l++[a])) (l:List α):Q l:=by
 have key:∀ m:List α,Q m.reverse:=fun m=>by
  induction m with
  | nil=>exact h0
  | cons a m ih=>rw [List.reverse_cons];exact hs _ _ ih
 have h:=key l.reverse
 rwa [List.reverse_reverse] at h
section
variable {p:List (List Mh)}
def ev (p:List (List Mh)) (n:Int):Mj:=(evs p).getD n.toNat default
def Wl (p:List (List Mh)) (l:Int) (n:Int):Bool:=(ev p n).db&&decide ((ev p n).Loc=l)
theorem Dn (o:LI):(∀ n∈o,OkN p n)->∀ l:Nat,l<3->(sV p o).2.getD l []=(l:Int)::o.filter (Wl p (l:Int)):=by
 induction o using D6 with
 | h0=>
  intro _ l hl
  match l,hl with
  | 0,_=>rfl
  | 1,_=>rfl
  | 2,_=>rfl
 | hs o n ih=>
  intro hok l hl;have hok':∀ m∈o,OkN p m:=fun m hm=>hok m (List.mem_append_left _ hm);have ih:=ih hok';obtain ⟨h1,h2,h3⟩:=hok n (by simp);have hin:=InX.run hok';have hloc:(((evs p).getD n.toNat default).Loc.toNat:Int)=((evs p).getD n.toNat default).Loc:=Int.toNat_of_nonneg h2;rw [wF];unfold stX;simp only [];rw [zC (by rw [hin.o];omega),List.filter_append]
  by_cases e:l=((evs p).getD n.toNat default).Loc.toNat
  ·subst e;rw [if_pos rfl,ih _ (by omega)]
   by_cases hw:((evs p).getD n.toNat default).db=true
   ·have : Wl p (((evs p).getD n.toNat default).Loc.toNat:Int) n=true:=by
     unfold Wl ev;rw [hw,hloc];simp
    rw [if_pos hw,List.filter_cons_of_pos this]
    rfl
   ·have : ¬ Wl p (((evs p).getD n.toNat default).Loc.toNat:Int) n=true:=by
     unfold Wl ev;rw [Bool.eq_false_iff.2 hw];simp
    rw [if_neg hw,List.filter_cons_of_neg this];simp
  ·have : ¬ Wl p (l:Int) n=true:=by
    unfold Wl ev;simp only [bae,dte,not_and];intro _ hc;exact e (by omega)
   rw [if_neg e,ih l hl,List.filter_cons_of_neg this];simp
theorem JJ (o:LI) (h:∀ n∈o,OkN p n):(sV p o).1.length=(evs p).length/\(sV p o).2.length=3:=⟨(InX.run h).f,(InX.run h).o⟩
theorem D7 (o:LI):o.Nodup->(∀ n∈o,OkN p n)->(∀ i:Int,i∈o->(ev p i).Reads=true->∃ o1 o2,o=o1++i::o2/\(sV p o).1.getD i.toNat default=((ev p i).Loc::o1.filter (Wl p (ev p i).Loc)).getD (o1.filter (Wl p (ev p i).Loc)).length default) /\
  ∀ i:Nat,i<(evs p).length -> ¬ ((i:Int)∈o/\(ev p i).Reads=true)->(sV p o).1.getD i default = -1:=by
 induction o using D6 with
 | h0=>
  intro _ _;refine ⟨fun i hi=>by simp at hi,fun i hi _=>?_⟩;show (List.replicate (evs p).length (-1:Int)).getD i default = -1;rw [gdq,List.getElem?_replicate,if_pos hi]
  rfl
 | hs o n ih=>
  intro hnd hok;have hok':∀ m∈o,OkN p m:=fun m hm=>hok m (List.mem_append_left _ hm);obtain ⟨hnd1,_,hnd2⟩:=List.nodup_append.1 hnd;have hno:n∉o:=fun hm=>hnd2 n hm n (by simp) rfl;obtain ⟨ih1,ih2⟩:=ih hnd1 hok';obtain ⟨h1,h2,h3⟩:=hok n (by simp);have hin:=InX.run hok';have hloc:(((evs p).getD n.toNat default).Loc.toNat:Int)=((evs p).getD n.toNat default).Loc:=Int.toNat_of_nonneg h2;have hord:=Dn o hok' ((evs p).getD n.toNat default).Loc.toNat (by omega);rw [wF];unfold stX;simp only [];rw [hord];have key:∀ j:Nat,(if ((evs p).getD n.toNat default).Reads=true then (sV p o).1.set n.toNat (((((evs p).getD n.toNat default).Loc.toNat:Int)::o.filter (Wl p (((evs p).getD n.toNat default).Loc.toNat:Int))).getD (((((((evs p).getD n.toNat default).Loc.toNat:Int)::o.filter (Wl p (((evs p).getD n.toNat default).Loc.toNat:Int))).length:Nat):Int)-1).toNat default) else (sV p o).1).getD j default =
    if j=n.toNat/\(ev p n).Reads=true then ((ev p n).Loc::o.filter (Wl p (ev p n).Loc)).getD (o.filter (Wl p (ev p n).Loc)).length default else (sV p o).1.getD j default:=fun j=>by
   rw [hloc]
   by_cases hr:((evs p).getD n.toNat default).Reads=true
   ·rw [if_pos hr,eX (by rw [hin.f];omega)]
    by_cases e:j=n.toNat
    ·rw [if_pos e,if_pos ⟨e,hr⟩];unfold ev
     congr 1
     rw [llc];omega
    ·rw [if_neg e,if_neg fun h=>e h.1]
   ·rw [if_neg hr,if_neg fun h=>hr h.2]
  refine ⟨fun i hi hr=>?_,fun i hi hn=>?_⟩
  ·by_cases e:i=n
   ·subst e;refine ⟨o,[],rfl,?_⟩;rw [key,if_pos ⟨rfl,hr⟩]
   ·have hio:i∈o:=by
     rcases List.mem_append.1 hi with h | h
     ·exact h
     ·exact absurd (List.mem_singleton.1 h) e
    obtain ⟨o1,o2,e1,e2⟩:=ih1 i hio hr;refine ⟨o1,o2++[n],by rw [e1];simp,?_⟩;have := (hok' i hio).1;rw [key,if_neg (fun h=>e (by omega)),e2]
  ·have e : ¬ (i=n.toNat/\(ev p n).Reads=true):=fun h=>hn ⟨by
    rw [show (i:Int)=n by omega];simp,by rw [show (i:Int)=n by omega];exact h.2⟩
   rw [key,if_neg e];exact ih2 i hi fun h=>hn ⟨List.mem_append_left _ h.1,h.2⟩
theorem Gt (t:Nat) (row:List Mh):∀ (r j:Nat),j<(Mq t row r).length->∃ k,k<r /\ ¬ (row.getD k default).Op=4/\j=(Mq t row k).length
 | 0,j,h=>by simp [Mq] at h
 | r+1,j,h=>by
  rcases Nat.lt_or_ge j (Mq t row r).length with hj | hj
  ·obtain ⟨k,h1,h2,h3⟩:=Gt t row r j hj;exact ⟨k,by omega,h2,h3⟩
  ·simp only [Mq,lla] at h;have h1:=F8 t r (row.getD r default);refine ⟨r,by omega,fun ho=>?_,by omega⟩;have : (evI t r (row.getD r default)).length=0:=by unfold evI;rw [if_pos ho];rfl
   omega
theorem Gu:∀ (m n:Nat),n<(evP p m).length->n<3\/∃ t k,t<m/\k<(p.getD t default).length /\ ¬ ((p.getD t default).getD k default).Op=4/\n=base p t k
 | 0,n,h => .inl h
 | m+1,n,h=>by
  rcases Nat.lt_or_ge n (evP p m).length with hn | hn
  ·rcases Gu m n hn with h1 | ⟨t,k,h1,h2,h3,h4⟩
   ·exact .inl h1
   ·exact .inr ⟨t,k,by omega,h2,h3,h4⟩
  ·simp only [evP,lla] at h;obtain ⟨k,h1,h2,h3⟩:=Gt m (p.getD m default) (p.getD m default).length (n-(evP p m).length) (by omega);exact .inr ⟨m,k,by omega,h1,h2,by unfold base;omega⟩
theorem Gv (t k:Nat):3<=base p t k:=by
 have := (zB p (Nat.zero_le t)).length_le;have h3:(evP p 0).length=3:=rfl;unfold base;omega
structure Isn (p:List (List Mh)) (a b:Nat):Prop where
 t:a<p.length
 k:b<(p.getD a default).length
 o : ¬ ((p.getD a default).getD b default).Op=4
def ins (p:List (List Mh)) (t k:Nat):Mh:=(p.getD t default).getD k default
theorem Isn.ev {t k:Nat} (h:Isn p t k):ev p (base p t k:Int)=⟨t,k,(ins p t k).Loc,rdX (ins p t k),wrX (ins p t k)⟩/\base p t k<(evs p).length:=by
 have := Gi h.t h.k h.o;exact ⟨by unfold Go.Proofs.YtcmimhffgmckjaaGreatDoor.ev;rw [tnn];exact this.1,this.2⟩
theorem qR {l:Nat} (hl:l<3):ev p (l:Int)=⟨-1,l,l,false,true⟩/\l<(evs p).length:=by
 obtain ⟨h1,h2⟩:=D5 (zB p (Nat.zero_le p.length)) (i:=l) (by exact hl);refine ⟨?_,h2⟩;unfold ev;rw [tnn];refine h1.trans ?_
 match l,hl with
 | 0,_=>rfl
 | 1,_=>rfl
 | 2,_=>rfl
theorem r9 {n:Int} (h0:0<=n) (h:n<((evs p).length:Int)):n<3\/∃ t k,Isn p t k/\n=(base p t k:Int):=by
 rcases Gu p.length n.toNat (by show _<(evs p).length;omega) with h1 | ⟨t,k,h1,h2,h3,h4⟩
 ·exact .inl (by omega)
 ·exact .inr ⟨t,k,⟨h1,h2,h3⟩,by omega⟩
theorem Ir {t k t' k':Nat} (h:Isn p t k) (h':Isn p t' k') (e:base p t k=base p t' k'):t=t'/\k=k':=by
 have h1:=h.ev.1;rw [e,h'.ev.1] at h1;injection h1 with e1 e2;exact ⟨by omega,by omega⟩
structure OrdI (p:List (List Mh)) (s:List Int) (m:Nat):Prop where
 mem:∀ n:Int,n∈kg p s m↔∃ t k:Nat,Isn p t k/\k<(s.take m).count (t:Int)/\n=(base p t k:Int)
 pw:(kg p s m).Pairwise fun i k=>i≠k/\((ev p i).Thread=(ev p k).Thread->(ev p i).Index<(ev p k).Index)
theorem OrdI.all {s:LI} (hg:Good p s s.length):∀ {m:Nat},m<=s.length->OrdI p s m
 | 0,_=>⟨fun n=>⟨fun h=>by simp [kg] at h,fun ⟨t,k,_,h,_⟩=>by simp at h⟩,by simp [kg]⟩
 | m+1,hm=>by
  have ih:=OrdI.all hg (m:=m) (by omega);obtain ⟨g1,g2,g3⟩:=Bv hg (j:=m) (by omega);have hc:∀ v:Int,(s.take (m+1)).count v=(s.take m).count v+if s.getD m default=v then 1 else 0:=fun v=>rB (by omega) v;have hk:Ms s m=(s.take m).count ((Mr s m:Nat):Int):=by rw [g2];rfl
  have new:∀ n:Int,n∈tC p (Mr s m) (Ms s m)↔Isn p (Mr s m) (Ms s m)/\n=(base p (Mr s m) (Ms s m):Int):=fun n=>by
   unfold tC
   split
   ·rename_i ho;exact ⟨fun h=>by simp at h,fun h=>absurd ho h.1.o⟩
   ·rename_i ho;rw [List.mem_singleton];exact ⟨fun h=>⟨⟨g1,g3,ho⟩,h⟩,fun h=>h.2⟩
  refine ⟨fun n=>?_,?_⟩
  ·simp only [kg,List.mem_append,new,ih.mem]
   constructor
   ·rintro (⟨t,k,h1,h2,h3⟩ | ⟨h1,h2⟩)
    ·exact ⟨t,k,h1,by rw [hc];omega,h3⟩
    ·exact ⟨_,_,h1,by rw [hc,if_pos g2.symm];omega,h2⟩
   ·rintro ⟨t,k,h1,h2,h3⟩;rw [hc] at h2
    by_cases e:s.getD m default=(t:Int)
    ·rw [if_pos e] at h2;have ht:Mr s m=t:=by omega
     subst ht;rcases Nat.lt_or_ge k ((s.take m).count ((Mr s m:Nat):Int)) with hlt | hge
     ·exact .inl ⟨_,k,h1,hlt,h3⟩
     ·have : k=Ms s m:=by omega
      subst this;exact .inr ⟨h1,h3⟩
    ·rw [if_neg e] at h2;exact .inl ⟨t,k,h1,by omega,h3⟩
  ·simp only [kg];refine List.pairwise_append.2 ⟨ih.pw,?_,fun a ha b hb=>?_⟩
   ·unfold tC
    split <;> simp
   ·obtain ⟨t,k,h1,h2,rfl⟩:=(ih.mem a).1 ha;obtain ⟨h3,rfl⟩:=(new b).1 hb;have key:t=Mr s m->k<Ms s m:=fun e=>by rw [hk,<- e];exact h2
    refine ⟨fun e=>?_,fun e=>?_⟩
    ·obtain ⟨e1,e2⟩:=Ir h1 h3 (by omega);have := key e1;omega
    ·rw [h1.ev.1,h3.ev.1] at e ⊢;simp only at e ⊢;have := key (by omega);omega
theorem W3:∀ l:Nat,l<3->([0,1,2]:LI).filter (Wl p (l:Int))=[(l:Int)]:=fun l hl=>by
 have w:∀ j:Nat,j<3->Wl p (l:Int) (j:Int)=decide ((j:Int)=(l:Int)):=fun j hj=>by
  unfold Wl;rw [(qR (p:=p) hj).1];simp
 have w0:Wl p (l:Int) 0=decide ((0:Int)=(l:Int)):=w 0 (by omega);have w1:Wl p (l:Int) 1=decide ((1:Int)=(l:Int)):=w 1 (by omega);have w2:Wl p (l:Int) 2=decide ((2:Int)=(l:Int)):=w 2 (by omega)
 match l,hl with
 | 0,_=>
  have a0:Wl p (0:Int) 0=true:=w0;have a1:Wl p (0:Int) 1=false:=w1;have a2:Wl p (0:Int) 2=false:=w2;simp [a0,a1,a2]
 | 1,_=>
  have a0:Wl p (1:Int) 0=false:=w0;have a1:Wl p (1:Int) 1=true:=w1;have a2:Wl p (1:Int) 2=false:=w2;simp [a0,a1,a2]
 | 2,_=>
  have a0:Wl p (2:Int) 0=false:=w0;have a1:Wl p (2:Int) 1=false:=w1;have a2:Wl p (2:Int) 2=true:=w2;simp [a0,a1,a2]
abbrev rk (F:LI) (n:Int):Nat:=F.idxOf n
structure RunOf (p:List (List Mh)) (x:XS) (F:List Int):Prop where
 ini:∃ o,F=[0,1,2]++o
 nd:F.Nodup
 mem:∀ n:Int,n∈F↔0<=n/\n<((evs p).length:Int)
 po:∀ i k:Int,i∈F->k∈F->0<=(ev p i).Thread->(ev p i).Thread=(ev p k).Thread->(ev p i).Index<(ev p k).Index->rk F i<rk F k
 ord:∀ l:Nat,l<3->x.2.getD l []=F.filter (Wl p (l:Int))
 flen:x.1.length=(evs p).length
 olen:x.2.length=3
 frm:∀ i:Int,i∈F->(ev p i).Reads=true->∃ c,c<(F.filter (Wl p (ev p i).Loc)).length/\x.1.getD i.toNat default=(F.filter (Wl p (ev p i).Loc)).getD c default/\∀ q,q<(F.filter (Wl p (ev p i).Loc)).length->(q<=c↔rk F ((F.filter (Wl p (ev p i).Loc)).getD q default)<rk F i)
 frN:∀ i:Int,i∈F->(ev p i).Reads=false->x.1.getD i.toNat default = -1
theorem zD (hp:PV p) {s:LI} (hw:Whole p s):RunOf p (sV p (kg p s s.length)) ([0,1,2]++kg p s s.length):=by
 obtain ⟨_,hg,hc⟩:=hw;have hI:=OrdI.all hg (Nat.le_refl s.length);have hok:=AK hp hg (Nat.le_refl s.length);have hmem:∀ n:Int,n∈kg p s s.length↔3<=n/\n<((evs p).length:Int):=fun n=>by
  rw [hI.mem]
  constructor
  ·rintro ⟨t,k,h1,_,rfl⟩;have := Gv (p:=p) t k;have := h1.ev.2;omega
  ·rintro ⟨h1,h2⟩;rcases r9 (by omega) h2 with h3 | ⟨t,k,h3,rfl⟩
   ·omega
   ·exact ⟨t,k,h3,by rw [List.take_length,hc t h3.t];exact h3.k,rfl⟩
 have hnd0:(kg p s s.length).Nodup:=hI.pw.imp fun h=>h.1;have hF:∀ n:Int,n∈[0,1,2]++kg p s s.length↔0<=n/\n<((evs p).length:Int):=fun n=>by
  have h3:=(qR (p:=p) (l:=2) (by omega)).2;rw [List.mem_append,hmem];simp only [List.mem_cons,List.not_mem_nil,or_false];omega
 have hnd:([0,1,2]++kg p s s.length).Nodup:=by
  refine List.nodup_append.2 ⟨by decide,hnd0,fun a ha b hb e=>?_⟩;subst e;have := (hmem a).1 hb;simp only [List.mem_cons,List.not_mem_nil,or_false] at ha;omega
 have hpw:=hI.pw;generalize ho:kg p s s.length=o at *;have hW:=W3 (p:=p);obtain ⟨f1,f2⟩:=D7 o hnd0 hok;obtain ⟨l1,l2⟩:=JJ o hok;refine ⟨⟨o,rfl⟩,hnd,hF,fun i k hi hk h0 he hlt=>?_,fun l hl=>?_,l1,l2,fun i hi hr=>?_,fun i hi hr=>?_⟩
 ·-- a thread's events come in their order
  have nz:∀ n:Int,n∈[0,1,2]++o->0<=(ev p n).Thread->n∉([0,1,2]:LI)/\n∈o:=fun n hn ht=>by
   obtain ⟨g1,g2⟩:=(hF n).1 hn;rcases r9 g1 g2 with g3 | ⟨t,k,g3,rfl⟩
   ·have := (qR (p:=p) (l:=n.toNat) (by omega)).1;rw [Int.toNat_of_nonneg g1] at this;rw [this] at ht;simp at ht
   ·have := Gv (p:=p) t k;refine ⟨fun h=>?_,(hmem _).2 ⟨by omega,g2⟩⟩;simp only [List.mem_cons,List.not_mem_nil,or_false] at h;omega
  obtain ⟨a1,a2⟩:=nz i hi h0;obtain ⟨b1,b2⟩:=nz k hk (by omega);unfold rk;rw [List.idxOf_append,if_neg a1,List.idxOf_append,if_neg b1];have pw:=List.pairwise_iff_getElem.1 hpw;have la:=List.idxOf_lt_length_of_mem a2;have lb:=List.idxOf_lt_length_of_mem b2;have ga:o[o.idxOf i]=i:=List.getElem_idxOf la;have gb:o[o.idxOf k]=k:=List.getElem_idxOf lb;rcases Nat.lt_trichotomy (o.idxOf i) (o.idxOf k) with h | h | h
  ·omega
  ·exfalso;have : i=k:=by rw [<- ga,<- gb];simp only [h]
   subst this;omega
  ·exfalso;have := (pw _ _ lb la h).2;rw [ga,gb] at this;have := this he.symm;omega
 ·rw [Dn o hok l hl,List.filter_append,hW l hl]
  rfl
 ·have hio:i∈o:=by
   rcases List.mem_append.1 hi with h | h
   ·exfalso;obtain ⟨g1,g2⟩:=(hF i).1 hi;have g3:i<3:=by
     simp only [List.mem_cons,List.not_mem_nil,or_false] at h;omega
    have := (qR (p:=p) (l:=i.toNat) (by omega)).1;rw [Int.toNat_of_nonneg g1] at this;rw [this] at hr
    cases hr
   ·exact h
  obtain ⟨o1,o2,e1,e2⟩:=f1 i hio hr;have hloc:=hok i hio;have hl3:((ev p i).Loc.toNat:Int)=(ev p i).Loc:=Int.toNat_of_nonneg hloc.2.1;have hA:([0,1,2]++o1).filter (Wl p (ev p i).Loc)=(ev p i).Loc::o1.filter (Wl p (ev p i).Loc):=by
   have := hW (ev p i).Loc.toNat (by have := hloc.2.2;unfold ev;omega);rw [hl3] at this;rw [List.filter_append,this]
   rfl
  have hsp:[0,1,2]++o=([0,1,2]++o1)++i::o2:=by rw [e1];simp
  have hfl:([0,1,2]++o).filter (Wl p (ev p i).Loc)=((ev p i).Loc::o1.filter (Wl p (ev p i).Loc))++(i::o2).filter (Wl p (ev p i).Loc):=by rw [hsp,List.filter_append,hA]
  have hdj:∀ a,a∈[0,1,2]++o1->∀ b,b∈i::o2->a≠b:=by
   have := hnd;rw [hsp] at this;exact (List.nodup_append.1 this).2.2
  have hi1:i∉[0,1,2]++o1:=fun h=>hdj i h i (by simp) rfl;have rki:rk ([0,1,2]++o) i=([0,1,2]++o1).length:=by
   unfold rk;rw [hsp,List.idxOf_append,if_neg hi1,List.idxOf_cons_self];omega
  refine ⟨(o1.filter (Wl p (ev p i).Loc)).length,?_,?_,fun q hq=>?_⟩
  ·rw [hfl,lla,llc];omega
  ·rw [e2,hfl,gdq,gdq,gal (by simp)]
  ·rw [rki];have hq':=hq;rw [hfl] at hq'
   constructor
   ·intro hle;have hm:(([0,1,2]++o).filter (Wl p (ev p i).Loc)).getD q default∈[0,1,2]++o1:=by
     rw [hfl,gdq,gal (by simp;omega),<- hA,geq (by rw [hA];simp;omega)];exact (List.mem_filter.1 (List.getElem_mem _)).1
    unfold rk;rw [hsp,List.idxOf_append,<- hsp,if_pos hm];exact List.idxOf_lt_length_of_mem hm
   ·intro hlt;rcases Nat.lt_or_ge (o1.filter (Wl p (ev p i).Loc)).length q with hc | hc
    ·exfalso;have hm:(([0,1,2]++o).filter (Wl p (ev p i).Loc)).getD q default∈i::o2:=by
      have hq2:q-((ev p i).Loc::o1.filter (Wl p (ev p i).Loc)).length<((i::o2).filter (Wl p (ev p i).Loc)).length:=by
       rw [lla] at hq';simp only [llc] at hq' ⊢;omega
      rw [hfl,gdq,gar (by simp;omega),geq hq2];exact (List.mem_filter.1 (List.getElem_mem _)).1
     have hn:(([0,1,2]++o).filter (Wl p (ev p i).Loc)).getD q default∉[0,1,2]++o1:=fun h=>hdj _ h _ hm rfl;unfold rk at hlt;rw [hsp,List.idxOf_append,<- hsp,if_neg hn] at hlt;omega
    ·exact hc
 ·obtain ⟨g1,g2⟩:=(hF i).1 hi;exact f2 i.toNat (by omega) fun h=>by
   rw [Int.toNat_of_nonneg g1] at h;rw [hr] at h;exact absurd h.2 (by decide)
end
section
variable {p:List (List Mh)} {x:XS} {F:LI}
def dn (p:List (List Mh)) (a:Nat->Nat) (n:Int):Bool:=decide ((ev p n).Thread<0)||decide ((ev p n).Index<(a (ev p n).Thread.toNat:Int))
def od (x:XS) (l:Int):LI:=x.2.getD l.toNat []
def plc (l:LI) (n:Int):Int:=if n∈l then (l.idxOf n:Int) else -1
def poB (p:List (List Mh)) (i k:Int):Bool:=(decide ((ev p i).Thread=(ev p k).Thread)&&decide (0<=(ev p i).Thread))&&decide ((ev p i).Index<(ev p k).Index)
def rfB (p:List (List Mh)) (x:XS) (i k:Int):Bool:=(ev p k).Reads&&decide (x.1.getD k.toNat default=i)
def coB (p:List (List Mh)) (x:XS) (i k:Int):Bool:=(((ev p i).db&&(ev p k).db)&&decide ((ev p i).Loc=(ev p k).Loc))&&decide (plc (od x (ev p i).Loc) i<plc (od x (ev p i).Loc) k)
def frB (p:List (List Mh)) (x:XS) (i k:Int):Bool:=((((ev p i).Reads&&(ev p k).db)&&decide ((ev p i).Loc=(ev p k).Loc)) && !decide (i=k))&&decide (plc (od x (ev p i).Loc) (x.1.getD i.toNat default)<plc (od x (ev p i).Loc) k)
def bef (p:List (List Mh)) (x:XS) (i k:Int):Bool:=((poB p i k||rfB p x i k)||coB p x i k)||frB p x i k
theorem uj (hp:PV p) {n:Int} (h0:0<=n) (h:n<((evs p).length:Int)):0<=(ev p n).Loc/\(ev p n).Loc<=2:=by
 rcases r9 h0 h with h3 | ⟨t,k,h3,rfl⟩
 ·have := (qR (p:=p) (l:=n.toNat) (by omega)).1;rw [Int.toNat_of_nonneg h0] at this;rw [this];simp only [];omega
 ·rw [h3.ev.1];have := hp.ins t k h3.t h3.k;exact ⟨this.1,this.2.1⟩
theorem sj {l:LI} {n:Int} (h:n∈l):l.getD (l.idxOf n) default=n:=by
 have := List.idxOf_lt_length_of_mem h;rw [gdq,geq this];exact List.getElem_idxOf this
theorem Iu {l:LI} (h:l.Nodup) {q:Nat} (hq:q<l.length):l.idxOf (l.getD q default)=q/\l.getD q default∈l:=by
 rw [gdq,geq hq];exact ⟨List.Nodup.idxOf_getElem h q hq,List.getElem_mem hq⟩
theorem Bw {l:LI} {n:Int} (h:n∈l):plc l n=(l.idxOf n:Int):=if_pos h
structure OdI (p:List (List Mh)) (F L:List Int) (l:Int):Prop where
 nd:L.Nodup
 mem:∀ n,n∈L↔n∈F/\(ev p n).db=true/\(ev p n).Loc=l
 rk:∀ q r,q<r->r<L.length->rk F (L.getD q default)<rk F (L.getD r default)
theorem RunOf.od (R:RunOf p x F) (l:Int) (hl:0<=l/\l<=2):OdI p F (od x l) l/\Go.Proofs.YtcmimhffgmckjaaGreatDoor.od x l=F.filter (Wl p l):=by
 have h:Go.Proofs.YtcmimhffgmckjaaGreatDoor.od x l=F.filter (Wl p l):=by
  have := R.ord l.toNat (by omega);rw [Int.toNat_of_nonneg hl.1] at this;exact this
 refine ⟨⟨by rw [h];exact R.nd.filter _,fun n=>?_,fun q r hqr hr=>?_⟩,h⟩
 ·rw [h,List.mem_filter];unfold Wl;simp
 ·rw [h] at hr ⊢;have pw:F.Pairwise fun i k=>Go.Proofs.YtcmimhffgmckjaaGreatDoor.rk F i<Go.Proofs.YtcmimhffgmckjaaGreatDoor.rk F k:=List.pairwise_iff_getElem.2 fun i j hi hj hij=>by
   show F.idxOf F[i]<F.idxOf F[j];rw [List.Nodup.idxOf_getElem R.nd i hi,List.Nodup.idxOf_getElem R.nd j hj];exact hij
  have := List.pairwise_iff_getElem.1 (pw.filter (Wl p l)) q r (by omega) hr hqr;rw [gdq,gdq,geq hr,geq (by omega)];exact this
theorem Ku {F:LI} {i k:Int} (hi:i∈F) (hk:k∈F) (e:rk F i=rk F k):i=k:=by
 have h1:=sj hi;have h2:=sj hk;unfold rk at e;rw [e,h2] at h1;exact h1.symm
theorem RunOf.rd (hp:PV p) (R:RunOf p x F) {i:Int} (hi:i∈F) (hr:(ev p i).Reads=true):∃ c,c<(Go.Proofs.YtcmimhffgmckjaaGreatDoor.od x (ev p i).Loc).length/\x.1.getD i.toNat default=(Go.Proofs.YtcmimhffgmckjaaGreatDoor.od x (ev p i).Loc).getD c default/\∀ q,q<(Go.Proofs.YtcmimhffgmckjaaGreatDoor.od x (ev p i).Loc).length->(q<=c↔rk F ((Go.Proofs.YtcmimhffgmckjaaGreatDoor.od x (ev p i).Loc).getD q default)<rk F i):=by
 obtain ⟨h0,h1⟩:=(R.mem i).1 hi;rw [(R.od _ (uj hp h0 h1)).2];exact R.frm i hi hr
structure OdC (p:List (List Mh)) (F L:List Int) (l:Int):Prop where
 nd:L.Nodup
 mem:∀ n,n∈L↔n∈F/\(ev p n).db=true/\(ev p n).Loc=l
structure Cand (p:List (List Mh)) (x:XS) (F:List Int):Prop where
 mem:∀ n:Int,n∈F↔0<=n/\n<((evs p).length:Int)
 flen:x.1.length=(evs p).length
 olen:x.2.length=3
 ods:∀ l:Int,0<=l/\l<=2->OdC p F (od x l) l
 hd:∀ l:Nat,l<3->∃ t,od x (l:Int)=(l:Int)::t
 rdc:∀ i:Int,i∈F->(ev p i).Reads=true->x.1.getD i.toNat default∈od x (ev p i).Loc
 ne:∀ i:Int,i∈F->(ev p i).Reads=true->x.1.getD i.toNat default≠i
 frN:∀ i:Int,i∈F->(ev p i).Reads=false->x.1.getD i.toNat default = -1
theorem RunOf.cand (hp:PV p) (R:RunOf p x F):Cand p x F:=by
 refine ⟨R.mem,R.flen,R.olen,fun l hl=>⟨(R.od l hl).1.nd,(R.od l hl).1.mem⟩,fun l hl=>?_,fun i hi hr=>?_,fun i hi hr e=>?_,R.frN⟩
 ·obtain ⟨o,ho⟩:=R.ini;refine ⟨o.filter (Wl p l),?_⟩;rw [(R.od (l:Int) (by omega)).2,ho,List.filter_append,W3 l hl]
  rfl
 ·obtain ⟨c,c1,c2,_⟩:=R.rd hp hi hr;rw [c2,gdq,geq c1];exact List.getElem_mem _
 ·obtain ⟨c,c1,c2,c3⟩:=R.rd hp hi hr;have := (c3 c c1).1 (Nat.le_refl _);rw [<- c2,e] at this;omega
theorem Gw (hp:PV p) (R:RunOf p x F) {i k:Int} (hi:i∈F) (hk:k∈F) (h:bef p x i k=true):rk F i<rk F k:=by
 obtain ⟨i0,i1⟩:=(R.mem i).1 hi;obtain ⟨k0,k1⟩:=(R.mem k).1 hk;unfold bef at h;simp only [Bool.or_eq_true] at h;rcases h with ((h | h) | h) | h
 ·simp only [poB,bae,dte] at h;exact R.po i k hi hk h.1.2 h.1.1 h.2
 ·simp only [rfB,bae,dte] at h;obtain ⟨c,c1,c2,c3⟩:=R.rd hp hk h.1;have := (c3 c c1).1 (Nat.le_refl _);rw [<- c2,h.2] at this;exact this
 ·simp only [coB,bae,dte] at h;obtain ⟨⟨⟨h1,h2⟩,h3⟩,h4⟩:=h;have O:=(R.od _ (uj hp i0 i1)).1;have mi:=(O.mem i).2 ⟨hi,h1,rfl⟩;have mk:=(O.mem k).2 ⟨hk,h2,h3.symm⟩;rw [Bw mi,Bw mk] at h4;have := O.rk _ _ (by omega:List.idxOf i (Go.Proofs.YtcmimhffgmckjaaGreatDoor.od x (ev p i).Loc)<List.idxOf k (Go.Proofs.YtcmimhffgmckjaaGreatDoor.od x (ev p i).Loc)) (List.idxOf_lt_length_of_mem mk);rw [sj mi,sj mk] at this;exact this
 ·simp only [frB,bae,dte,Bool.not_eq_true',decide_eq_false_iff_not] at h;obtain ⟨⟨⟨⟨h1,h2⟩,h3⟩,h4⟩,h5⟩:=h;have O:=(R.od _ (uj hp i0 i1)).1;have mk:=(O.mem k).2 ⟨hk,h2,h3.symm⟩;obtain ⟨c,c1,c2,c3⟩:=R.rd hp hi h1;obtain ⟨d1,d2⟩:=Iu O.nd c1;rw [c2,Bw d2,Bw mk,d1] at h5;have hq:=List.idxOf_lt_length_of_mem mk;have := mt (c3 _ hq).2 (by omega);rw [sj mk] at this;rcases Nat.lt_trichotomy (rk F i) (rk F k) with h6 | h6 | h6
  ·exact h6
  ·exact absurd (Ku hi hk h6) h4
  ·exact absurd h6 this
def dc (p:List (List Mh)) (x:XS) (a:Nat->Nat) (l:Int):Nat:=((od x l).filter (dn p a)).length
def I7 (p:List (List Mh)) (x:XS) (F:LI) (a:Nat->Nat) (n:Int):Prop:=∀ i:Int,i∈F->bef p x i n=true->dn p a i=true
def Dead (p:List (List Mh)) (x:XS) (F:LI) (a:Nat->Nat):Prop:=∃ i:Int,i∈F/\(ev p i).Reads=true/\dn p a i=false/\∃ c,c<(od x (ev p i).Loc).length/\x.1.getD i.toNat default=(od x (ev p i).Loc).getD c default/\c+1<dc p x a (ev p i).Loc
def adv (a:Nat->Nat) (t:Nat):Nat->Nat:=fun u=>if u=t then a t+1 else a u
def Lm (p:List (List Mh)) (t k:Nat):Prop:=((p.getD t default).getD k default).Op=4
instance (t k:Nat):Decidable (Lm p t k):=by unfold Lm;infer_instance
def StA (p:List (List Mh)) (a:Nat->Nat):Prop:=∀ t,t<p.length->a t<=(p.getD t default).length
def nxt (p:List (List Mh)) (a:Nat->Nat) (t:Nat):Option Int:=if Lm p t (a t) then none else some (base p t (a t):Int)
def Cs (p:List (List Mh)) (x:XS) (F:LI) (a:Nat->Nat) (t:Nat):Prop:=t<p.length/\a t<(p.getD t default).length/\∀ n,nxt p a t=some n->I7 p x F a n
def LV (p:List (List Mh)) (a:Nat->Nat):Prop:=∀ t,t<p.length->a t=(p.getD t default).length
inductive Gr (p:List (List Mh)) (x:XS) (F:List Int):(Nat->Nat)->List Int->Prop
 | nil {a:Nat->Nat} (h:LV p a):Gr p x F a []
 | cons {a:Nat->Nat} {t:Nat} {r:LI} (h:Cs p x F a t) (hl:∀ u,u<t -> ¬ Cs p x F a u) (k:Gr p x F (adv a t) r):Gr p x F a ((t:Int)::r)
end
theorem Kv (a b:Int):(a==b)=decide (a=b):=by rw [Bool.eq_iff_iff];simp
theorem uH {n:Nat} (h:n<9223372036854775808):IntKind.wrap .i64 (n:Int)=(n:Int):=by
 simp only [IntKind.wrap];show (let m:=(n:Int) % 18446744073709551616;if true&&m>=(9223372036854775808:Int) then m-18446744073709551616 else m)=n;have : (n:Int) % 18446744073709551616=n:=by omega
 simp only [this];rw [if_neg];simp;omega
theorem Bx {a b:Nat} (ha:a<9223372036854775808) (hb:b<9223372036854775808):bOr .i64 (a:Int) (b:Int)=((a|||b:Nat):Int):=by
 have hlt:(a|||b)<2 ^ 63:=Nat.or_lt_two_pow ha hb;show IntKind.wrap .i64 (((BitVec.ofInt 64 (a:Int)|||BitVec.ofInt 64 (b:Int)).toNat:Nat):Int)=_;have h1:(BitVec.ofInt 64 (a:Int)).toNat=a:=by rw [BitVec.ofInt_natCast,BitVec.toNat_ofNat];omega
 have h2:(BitVec.ofInt 64 (b:Int)).toNat=b:=by rw [BitVec.ofInt_natCast,BitVec.toNat_ofNat];omega
 rw [BitVec.toNat_or,h1,h2];exact uH hlt
theorem Iv {k:Nat} (h:k<62):FD .i64 1 (k:Int)=((2 ^ k:Nat):Int):=by
 show IntKind.wrap .i64 (1*2 ^ (min (k:Int).toNat 64))=_;have hm:min (k:Int).toNat 64=k:=by omega
 rw [hm,Int.one_mul,show (2:Int) ^ k=((2 ^ k:Nat):Int) by simp];refine uH ?_;have := Nat.pow_lt_pow_right (a:=2) (by omega) (show k<63 by omega);omega
theorem Kw {m k:Nat} (hm:m<9223372036854775808) (hk:k<62):cm .i64 (dH .i64 (m:Int) (k:Int)) 1=if m.testBit k then 1 else 0:=by
 have h1:dH .i64 (m:Int) (k:Int)=((m / 2 ^ k:Nat):Int):=by
  show (m:Int).fdiv (2 ^ (min (k:Int).toNat 64))=_;have hm:min (k:Int).toNat 64=k:=by omega
  rw [hm,show (2:Int) ^ k=((2 ^ k:Nat):Int) by simp,Int.fdiv_eq_ediv_of_nonneg _ (Int.natCast_nonneg _)]
  rfl
 have hlt:m / 2 ^ k<9223372036854775808:=Nat.lt_of_le_of_lt (Nat.div_le_self _ _) hm;rw [h1];show IntKind.wrap .i64 (((BitVec.ofInt 64 ((m / 2 ^ k:Nat):Int)&&&BitVec.ofInt 64 (1:Int)).toNat:Nat):Int)=_;rw [Nat.testBit_eq_decide_div_mod_eq];generalize m / 2 ^ k=d at hlt;have h2:(BitVec.ofInt 64 ((d:Nat):Int)).toNat=d:=by rw [BitVec.ofInt_natCast,BitVec.toNat_ofNat];omega
 rw [BitVec.toNat_and,h2,show (BitVec.ofInt 64 (1:Int)).toNat=1 from rfl,Nat.and_one_is_mod]
 by_cases h:d % 2=1
 ·rw [h,if_pos (by simp)];exact uH (by omega)
 ·rw [show d % 2=0 by omega,if_neg (by simp)];exact uH (by omega)
def Mt (f:Nat->Bool):Nat->Nat
 | 0=>0
 | n+1=>if f n then Mt f n|||2 ^ n else Mt f n
theorem qh (f:Nat->Bool):∀ (n j:Nat),(Mt f n).testBit j=(decide (j<n)&&f j)
 | 0,j=>by simp [Mt]
 | n+1,j=>by
  have ih:=qh f n j;unfold Mt
  by_cases h:f n=true
  ·rw [if_pos h,Nat.testBit_or,ih,Nat.testBit_two_pow]
   by_cases e:n=j
   ·subst e;simp [h]
   ·rw [decide_eq_false e,Bool.or_false]
    congr 1
    exact decide_eq_decide.2 (by omega)
  ·rw [if_neg h,ih]
   by_cases e:n=j
   ·subst e;simp [Bool.eq_false_iff.2 h]
   ·congr 1
    exact decide_eq_decide.2 (by omega)
theorem Gx (f:Nat->Bool):∀ n:Nat,Mt f n<2 ^ n
 | 0=>by simp [Mt]
 | n+1=>by
  have ih:=Gx f n;have h2:(2:Nat) ^ (n+1)=2*2 ^ n:=by rw [Nat.pow_succ,Nat.mul_comm]
  unfold Mt
  split
  ·exact Nat.or_lt_two_pow (by omega) (by omega)
  ·omega
theorem Gy (f g:Nat->Bool) (n:Nat):Mt f n|||Mt g n=Mt (fun j=>f j||g j) n:=by
 apply Nat.eq_of_testBit_eq;intro j;rw [Nat.testBit_or,qh,qh,qh]
 cases decide (j<n) <;> rfl
theorem gQ {f:Nat->Bool} {n:Nat} (h:n<=62):Mt f n<9223372036854775808:=by
 have h1:=Gx f n;have h2:(2:Nat) ^ n<=2 ^ 62:=Nat.pow_le_pow_right (by omega) h;omega
section
variable {p:List (List Mh)} {x:XS} {F:LI}
structure XOk (p:List (List Mh)) (x:XS):Prop where
 f:x.1.length=(evs p).length
 o:x.2.length=3
 r:∀ i:Nat,(x.2.getD i default).length<=4000000
theorem LO (hp:PV p) (R:Cand p x F):XOk p x:=by
 refine ⟨R.flen,R.olen,fun i=>?_⟩;rcases Nat.lt_or_ge i 3 with hi | hi
 ·have O:=R.ods (i:Int) (by omega);have h2:=nC hp.vs;have := List.Nodup.length_le_of_subset (l₂:=(List.range (evs p).length).map fun (i:Nat)=>(i:Int)) O.nd fun n hn=>by
   obtain ⟨a,b⟩:=(R.mem n).1 ((O.mem n).1 hn).1;exact List.mem_map.2 ⟨n.toNat,List.mem_range.2 (by omega),by omega⟩
  rw [llm,List.length_range] at this;have e:x.2.getD i default=od x (i:Int):=by unfold od;rw [tnn,getD_nil]
  rw [e];omega
 ·rw [gdq,gen (by rw [R.olen];exact hi)];exact Nat.zero_le _
end
section
variable {p:List (List Mh)} {x:XS} {F:LI}
def wrs (p:List (List Mh)) (l:Int):LI:=((List.range (evs p).length).map fun (i:Nat)=>(i:Int)).filter (Wl p l)
theorem JK (n:Int):n∈(List.range (evs p).length).map (fun (i:Nat)=>(i:Int))↔0<=n/\n<((evs p).length:Int):=by
 rw [List.mem_map]
 constructor
 ·rintro ⟨a,h1,rfl⟩;have := List.mem_range.1 h1;omega
 ·rintro ⟨h1,h2⟩;exact ⟨n.toNat,List.mem_range.2 (by omega),by omega⟩
theorem Ky:((List.range (evs p).length).map (fun (i:Nat)=>(i:Int))).Nodup:=List.pairwise_map.2 (List.nodup_range.imp fun h e=>h (by omega))
theorem Iw {l:Nat} (hl:l<3):∃ t,wrs p (l:Int)=(l:Int)::t:=by
 have h3:3<=(evs p).length:=(zB p (Nat.zero_le p.length)).length_le;refine ⟨((List.range' 3 ((evs p).length-3)).map fun (i:Nat)=>(i:Int)).filter (Wl p (l:Int)),?_⟩;have e:List.range (evs p).length=[0,1,2]++List.range' 3 ((evs p).length-3):=by
  rw [List.range_eq_range',show [0,1,2]=List.range' 0 3 from rfl];have := List.range'_append (s:=0) (m:=3) (n:=(evs p).length-3) (step:=1);rw [show 3+((evs p).length-3)=(evs p).length by omega] at this;exact this.symm
 unfold wrs;rw [e,List.map_append,List.filter_append];have := W3 (p:=p) l hl;rw [show (([0,1,2]:List Nat).map fun (i:Nat)=>(i:Int))=([0,1,2]:LI) from rfl,this]
 rfl
theorem StA.adv {a:Nat->Nat} {t:Nat} (h:StA p a) (hk:a t<(p.getD t default).length):StA p (Go.Proofs.YtcmimhffgmckjaaGreatDoor.adv a t):=fun u hu=>by
 unfold Go.Proofs.YtcmimhffgmckjaaGreatDoor.adv
 by_cases e:u=t
 ·subst e;rw [if_pos rfl];omega
 ·rw [if_neg e];exact h u hu
end
section
variable {p:List (List Mh)} {x:XS} {F:LI}
def aP (pc:Z3i) (t:Nat):Nat:=if t<3 then (Z3i.get pc (t:Int)).toNat else 0
end
def LeO {α:Type} (x y:Option α):Prop:=∀ r,x=some r->y=some r
section
variable {α β S E:Type}
theorem LeO.refl (x:Option α):LeO x x:=fun _ h=>h
theorem LeO.bind {x y:Option α} {f g:α->Option β} (h:LeO x y) (k:∀ v,LeO (f v) (g v)):LeO (x.bind f) (y.bind g):=fun r hr=>by
 obtain ⟨v,e,hv⟩:=Cb hr;rw [h v e];exact k v r hv
end
section
variable {p:List (List Mh)} {x:XS} {F:LI}
abbrev Key:=Int×Int×Int
def aK (k:Key):Nat->Nat:=aP ⟨k.1,k.2.1,k.2.2⟩
def Gz (p:List (List Mh)) (x:XS) (F:LI) (l:List (Key×Bool)):Prop:=∀ e∈l,Dead p x F (aK e.1)
theorem Gz.get {l:List (Key×Bool)} (h:Gz p x F l) {k:Key} (hk:((EU l k).getD false)=true):Dead p x F (aK k):=by
 unfold EU at hk
 cases hm:Fy l k with
 | none=>rw [hm] at hk;cases hk
 | some j=>
  obtain ⟨hj,v,hv⟩:=CV hm;exact h (k,v) (List.mem_of_getElem? hv)
theorem Gz.put {l:List (Key×Bool)} (h:Gz p x F l) {k:Key} (hk:Dead p x F (aK k)):Gz p x F (LJ l k true):=fun e he=>by
 unfold LJ at he
 cases hm:Fy l k with
 | none=>
  rw [hm] at he;rcases List.mem_append.1 he with he | he
  ·exact h e he
  ·rw [List.mem_singleton] at he;subst he;exact hk
 | some j=>
  rw [hm] at he;rcases List.mem_or_eq_of_mem_set he with he | he
  ·exact h e he
  ·subst he;exact hk
end
section
variable {p:List (List Mh)} {x:XS} {F:LI}
end
section
variable {p:List (List Mh)} {x:XS} {F:LI}
theorem Gr.congr {F':LI} (hF:∀ n:Int,n∈F↔n∈F') {a:Nat->Nat} {r:LI} (h:Gr p x F a r):Gr p x F' a r:=by
 have key:∀ {a:Nat->Nat} {t:Nat},Cs p x F a t↔Cs p x F' a t:=fun {a t}=>by
  unfold Cs I7;refine ⟨fun h=>⟨h.1,h.2.1,fun n hn i hi hb=>h.2.2 n hn i ((hF i).2 hi) hb⟩,fun h=>⟨h.1,h.2.1,fun n hn i hi hb=>h.2.2 n hn i ((hF i).1 hi) hb⟩⟩
 induction h with
 | nil h=>exact .nil h
 | cons h hl _ ih=>exact .cons (key.1 h) (fun u hu hr=>hl u hu (key.2 hr)) ih
end
section
variable {p:List (List Mh)} {x:XS} {F:LI}
end
section
variable {α β:Type}
end
theorem D8 {α:Type} {f:Nat->Option α} {v:α} (n:Nat) (h:∀ m,n<m->Mo (f m) (· = v)):Mo (EW f) (· = v):=Mo.of (xb (n+1) fun m hm=>(h m hm).eq) rfl
section
variable {p:List (List Mh)}
abbrev toI (p:List (List Mh)):List (List Ins):=p.map fun r=>r.map m5
theorem Ct (q:Mj->Bool) (f:Ins->Bool) (h:∀ t k x,x.Op≠4->q ⟨t,k,x.Loc,rdX x,wrX x⟩=f (m5 x)) (h4:∀ x:Mh,x.Op=4->f (m5 x)=false) (t:Nat) (row:List Mh):∀ r:Nat,r<=row.length->((Mq t row r).filter q).length=((row.take r).map m5).countP f
 | 0,_=>by simp [Mq]
 | r+1,hr=>by
  have ih:=Ct q f h h4 t row r (by omega);have e:row.getD r default=row[r]:=by rw [gdq,geq (by omega)];rfl
  rw [Mq,List.filter_append,lla,ih,<- List.take_append_getElem (show r<row.length by omega),List.map_append,List.countP_append,e]
  congr 1
  unfold evI
  by_cases ho:row[r].Op=4
  ·rw [if_pos ho];simp [h4 _ ho]
  ·rw [if_neg ho];have := h t r row[r] ho
   by_cases hf:f (m5 row[r])=true
   ·rw [hf] at this;rw [List.filter_cons_of_pos (by rw [this])];simp [hf]
   ·have hf':f (m5 row[r])=false:=by simpa using hf
    rw [hf'] at this;rw [List.filter_cons_of_neg (by rw [this];decide)];simp [hf']
theorem GA (q:Mj->Bool) (f:Ins->Bool) (h:∀ (t k:Int) x,x.Op≠4->q ⟨t,k,x.Loc,rdX x,wrX x⟩=f (m5 x)) (h4:∀ x:Mh,x.Op=4->f (m5 x)=false):((evs p).filter q).length=(ev0.filter q).length+rW f (toI p):=by
 have key:∀ n:Nat,n<=p.length->((evP p n).filter q).length=(ev0.filter q).length+rW f ((toI p).take n):=fun n=>by
  induction n with
  | zero=>intro _;simp [evP,rW]
  | succ n ih=>
   intro hn;have e:p.getD n default=p[n]:=by rw [gdq,geq (by omega)];rfl
   have hn':n<(toI p).length:=by rw [llm];omega
   rw [evP,List.filter_append,lla,ih (by omega),Ct q f (fun t k=>h t k) h4 n _ _ (Nat.le_refl _),fL f (toI p) n hn',List.take_length,Nat.add_assoc,e]
   congr 2
   simp
 have := key p.length (Nat.le_refl _);rw [show (toI p).take p.length=toI p from List.take_of_length_le (by simp)] at this;exact this
end
section
variable {p:List (List Mh)}
theorem D9 (hp:PV p) (l:Int):Mo (iA (evs p) l) (· = wrs p l):=by
 have hel:=nC hp.vs;unfold iA;refine Mo.bind (P:=(· = wrs p l)) ?_ fun v hv => .pure hv;refine Mo.loop (fun z=>∃ n:Nat,n<=(evs p).length/\z=(((List.range n).map fun (i:Nat)=>(i:Int)).filter (Wl p l),(n:Int))) (fun z=>(((evs p).length:Int)-z.2).toNat) ⟨0,by omega,rfl⟩ fun z ⟨n,h1,h2⟩ => ?_;subst h2;unfold kT;have en:(evs p).getD n default=ev p (n:Int):=by unfold ev;rw [tnn]
 simp only [tnn,en];refine .bifD (fun hk=>?_) fun hk => .pure ?_
 ·have hsl:(((List.range n).map fun (i:Nat)=>(i:Int)).filter (Wl p l)).length<=n:=Nat.le_trans (List.length_filter_le _ _) (by simp);have hst:((List.range (n+1)).map fun (i:Nat)=>(i:Int)).filter (Wl p l)=((List.range n).map fun (i:Nat)=>(i:Int)).filter (Wl p l)++if Wl p l (n:Int) then [(n:Int)] else []:=by
   rw [List.range_succ,List.map_append,List.filter_append]
   congr 1
   by_cases h:Wl p l (n:Int)=true
   ·rw [if_pos h];simp [h]
   ·rw [if_neg h];simp [h]
  refine Mo.bind (P:=(· = ((List.range (n+1)).map fun (i:Nat)=>(i:Int)).filter (Wl p l))) (.gdD ⟨by omega,hk⟩ (Mo.bind (P:=(· = Wl p l (n:Int))) (.bif (fun h => .pure ?_) fun h => .pure ?_) fun b hb => .bif (fun h => .gd (eu (by omega) rfl) (.pure ?_)) fun h => .pure ?_)) fun v hv => .gdI (by omega) (.pure ⟨⟨n+1,by omega,by rw [hv];rfl⟩,by simp only [];omega⟩)
  ·unfold Wl;rw [h,Bool.true_and];exact Kv _ _
  ·unfold Wl;rw [h];rfl
  ·rw [hst,<- hb,h];rfl
  ·rw [hst,<- hb,h];simp
 ·have : n=(evs p).length:=by omega
  rw [this]
  rfl
theorem getD_in {α:Type} [Inhabited α] {l:List α} {i:Nat} (h:i<l.length):l.getD i default∈l:=by
 rw [gdq,geq h];exact List.getElem_mem _
end
section
variable {p:List (List Mh)}
end
section
variable {p:List (List Mh)} {x:XS} {F F':LI}
def I8 (p:List (List Mh)):LI:=(List.range (evs p).length).map fun (i:Nat)=>(i:Int)
theorem Cand.congr (C:Cand p x F) (h:∀ n,n∈F'↔n∈F):Cand p x F':=
 ⟨fun n=>(h n).trans (C.mem n),C.flen,C.olen,fun l hl=>⟨(C.ods l hl).nd,fun n=>by rw [(C.ods l hl).mem,h]⟩,C.hd,fun i hi hr=>C.rdc i ((h i).1 hi) hr,fun i hi hr=>C.ne i ((h i).1 hi) hr,fun i hi hr=>C.frN i ((h i).1 hi) hr⟩
theorem Cand.rng (C:Cand p x F):Cand p x (I8 p):=C.congr fun n=>(JK n).trans (C.mem n).symm
theorem Kz (l:Int):(wrs p l).Nodup:=List.Pairwise.filter _ Ky
theorem AL {s:LI} (hw:Whole p s):Cand p (sV p (kg p s s.length)) (I8 p):=(RunOf.cand (PV.of hw.1) (zD (PV.of hw.1) hw)).rng
end
end
end Go.Proofs.YtcmimhffgmckjaaGreatDoor
