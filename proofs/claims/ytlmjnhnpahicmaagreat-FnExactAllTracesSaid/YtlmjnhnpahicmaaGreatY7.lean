/- Texts joined. No conditions. -/
import Derived.Test.YtlmjnhnpahicmaaGreatY6
namespace Go.Proofs.YtlmjnhnpahicmaaGreat
noncomputable section
open Go.RowKit
set_option maxRecDepth 100000
def evI (t k:Nat) (x:Jh):List Jj:=if x.Op=4 then [] else [⟨t,k,x.Loc,rdX x,wrX x⟩]
def evR (t:Nat) (row:List Jh):Nat->List Jj
 | 0=>[]
 | n+1=>evR t row n++evI t n (row.getD n default)
def ev0:List Jj:=[⟨-1,0,0,false,true⟩,⟨-1,1,1,false,true⟩,⟨-1,2,2,false,true⟩]
def evP (p:List (List Jh)):Nat->List Jj
 | 0=>ev0
 | n+1=>evP p n++evR n (p.getD n default) (p.getD n default).length
def evs (p:List (List Jh)):List Jj:=evP p p.length
theorem Cw (t k:Nat) (x:Jh):(evI t k x).length<=1:=by unfold evI;split <;> simp
theorem vO (t:Nat) (row:List Jh) (n:Nat):(evR t row n).length<=n:=by
 induction n with
 | zero=>exact Nat.le_refl _
 | succ n ih=>
  have := Cw t n (row.getD n default);simp only [evR,lla];omega
theorem vP {p:List (List Jh)} (h:Vs p) (n:Nat):(evP p n).length<=3+7*n:=by
 induction n with
 | zero=>exact Nat.le_refl _
 | succ n ih=>
  have h1:=vO n (p.getD n default) (p.getD n default).length;have h2:=h.2 n;simp only [evP,lla];omega
theorem Fa (x:Jh):Jo (fq x) (· = rdX x):=by
 unfold fq rdX;exact Jo.bind (P:=(· = (x.Op==1||x.Op==5))) (.bif (fun h => .pure (by rw [h];rfl)) fun h => .pure (by rw [h];rfl)) fun v hv => .pure hv
theorem Cy (x:Jh):Jo (ez x) (· = wrX x):=by
 unfold ez wrX;exact Jo.bind (P:=(· = (x.Op==2||x.Op==3))) (.bif (fun h => .pure (by rw [h];rfl)) fun h => .pure (by rw [h];rfl)) fun v hv=>Jo.bind (P:=(· = (x.Op==2||x.Op==3||x.Op==5))) (.bif (fun h => .pure (by rw [<- hv,h];rfl)) fun h => .pure (by rw [<- hv,h];rfl)) fun v hv => .pure hv
theorem FX {p:List (List Jh)} (hp:Vs p):Jo (jf p) (· = evs p):=by
 have hpl:=hp.1;unfold jf;refine Jo.bind (P:=(· = ev0)) ?_ fun l hl=>Jo.bind (P:=(· = evs p)) ?_ fun v hv => .pure hv
 ·refine Jo.loop (fun s=>∃ n:Nat,n<=3/\s=(ev0.take n,(n:Int))) (fun s=>(3-s.2).toNat) ⟨0,by omega,rfl⟩ fun s ⟨n,h1,h2⟩ => ?_;subst h2;unfold iT;refine .bifD (fun h=>?_) fun h => .pure ?_
  ·match n,h1,h with
   | 0,_,_=>exact .gdC (by decide) rfl (.gdI (by decide) (.pure ⟨⟨1,by omega,rfl⟩,by decide⟩))
   | 1,_,_=>exact .gdC (by decide) rfl (.gdI (by decide) (.pure ⟨⟨2,by omega,rfl⟩,by decide⟩))
   | 2,_,_=>exact .gdC (by decide) rfl (.gdI (by decide) (.pure ⟨⟨3,by omega,rfl⟩,by decide⟩))
   | 3,_,h=>exact absurd h (by decide)
  ·have : n=3:=by simp only [] at h;omega
   subst this
   rfl
 ·subst hl;refine Jo.loop (fun s=>∃ n:Nat,n<=p.length/\s=(evP p n,(n:Int))) (fun s=>((p.length:Int)-s.2).toNat) ⟨0,by omega,rfl⟩ fun s ⟨n,h1,h2⟩ => ?_;subst h2;unfold iq;refine .bifD (fun h=>?_) fun h => .pure ?_
  ·have hlen:=vP hp n;have hrow:=hp.2 n;simp only [] at h;refine Jo.bind (P:=(· = evP p (n+1))) (.gdD ⟨by simp only [];omega,h⟩ ?_) fun v hv => .gdI (by simp only [];omega) (.pure ⟨⟨n+1,by omega,by rw [hv];rfl⟩,by simp only [];omega⟩);refine Jo.loop (fun t=>∃ k:Nat,k<=(p.getD n default).length/\t=(evP p n++evR n (p.getD n default) k,(k:Int))) (fun t=>(((p.getD n default).length:Int)-t.2).toNat) ⟨0,by omega,by simp [evR]⟩ fun t ⟨k,k1,k2⟩ => ?_;subst k2;unfold il;simp only [tnn];refine .bifD (fun hk=>?_) fun hk => .pure ?_
   ·have hl2:=vO n (p.getD n default) k;refine Jo.bind (P:=(· = evP p n++evR n (p.getD n default) (k+1))) (.gdD ⟨by omega,hk⟩ ?_) fun v hv => .gdI (by omega) (.pure ⟨⟨k+1,by omega,by rw [hv];rfl⟩,by simp only [];omega⟩);refine .bif (fun ho=>?_) fun ho => .pure ?_
    ·refine (Cs _).bind fun a ha=>(vL _).bind fun b hb => .gdC (by simp only [lla];omega) rfl (.pure ?_);have h4 : ¬ ((p.getD n default).getD k default).Op=4:=by simpa using ho
     subst ha hb;simp only [evR,evI,if_neg h4,List.append_assoc]
    ·have h4:((p.getD n default).getD k default).Op=4:=by simpa using ho
     simp only [evR,evI,if_pos h4,List.append_nil]
   ·have : k=(p.getD n default).length:=by omega
    subst this
    rfl
  ·have : n=p.length:=by simp only [] at h;omega
   subst this
   rfl
theorem yL {p:List (List Jh)} (hp:Vs p):Jo (di p) (· = evs p):=by
 have hpl:=hp.1;unfold di;refine Jo.bind (P:=(· = ev0)) ?_ fun l hl=>Jo.bind (P:=(· = evs p)) ?_ fun v hv => .pure hv
 ·refine Jo.loop (fun s=>∃ n:Nat,n<=3/\s=(ev0.take n,(n:Int))) (fun s=>(3-s.2).toNat) ⟨0,by omega,rfl⟩ fun s ⟨n,h1,h2⟩ => ?_;subst h2;unfold gH;refine .bifD (fun h=>?_) fun h => .pure ?_
  ·match n,h1,h with
   | 0,_,_=>exact .gdC (by decide) rfl (.gdI (by decide) (.pure ⟨⟨1,by omega,rfl⟩,by decide⟩))
   | 1,_,_=>exact .gdC (by decide) rfl (.gdI (by decide) (.pure ⟨⟨2,by omega,rfl⟩,by decide⟩))
   | 2,_,_=>exact .gdC (by decide) rfl (.gdI (by decide) (.pure ⟨⟨3,by omega,rfl⟩,by decide⟩))
   | 3,_,h=>exact absurd h (by decide)
  ·have : n=3:=by simp only [] at h;omega
   subst this
   rfl
 ·subst hl;refine Jo.loop (fun s=>∃ n:Nat,n<=p.length/\s=(evP p n,(n:Int))) (fun s=>((p.length:Int)-s.2).toNat) ⟨0,by omega,rfl⟩ fun s ⟨n,h1,h2⟩ => ?_;subst h2;unfold fM;refine .bifD (fun h=>?_) fun h => .pure ?_
  ·have hlen:=vP hp n;have hrow:=hp.2 n;simp only [] at h;refine Jo.bind (P:=(· = evP p (n+1))) ?_ fun v hv => .gdI (by simp only [];omega) (.pure ⟨⟨n+1,by omega,by rw [hv];rfl⟩,by simp only [];omega⟩);refine Jo.loop (fun t=>∃ k:Nat,k<=(p.getD n default).length/\t=(evP p n++evR n (p.getD n default) k,(k:Int))) (fun t=>(((p.getD n default).length:Int)-t.2).toNat) ⟨0,by omega,by simp [evR]⟩ fun t ⟨k,k1,k2⟩ => ?_;subst k2;unfold fL;simp only [tnn];refine .gdD ⟨by omega,h⟩ (.bifD (fun hk=>?_) fun hk => .pure ?_)
   ·have hl2:=vO n (p.getD n default) k;refine Jo.bind (P:=(· = evP p n++evR n (p.getD n default) (k+1))) (.gdD ⟨by omega,hk⟩ ?_) fun v hv => .gdI (by omega) (.pure ⟨⟨k+1,by omega,by rw [hv];rfl⟩,by simp only [];omega⟩);refine .bif (fun ho=>?_) fun ho => .pure ?_
    ·refine (Fa _).bind fun a ha=>(Cy _).bind fun b hb => .gdC (by simp only [lla];omega) rfl (.pure ?_);have h4 : ¬ ((p.getD n default).getD k default).Op=4:=by simpa using ho
     subst ha hb;simp only [evR,evI,if_neg h4,List.append_assoc]
    ·have h4:((p.getD n default).getD k default).Op=4:=by simpa using ho
     simp only [evR,evI,if_pos h4,List.append_nil]
   ·have : k=(p.getD n default).length:=by omega
    subst this
    rfl
  ·have : n=p.length:=by simp only [] at h;omega
   subst this
   rfl
theorem IA {t:Nat} {row:List Jh} {n:Nat} {e:Jj} (h:e∈evR t row n):∃ k:Nat,k<n/\e.Thread=t/\e.Index=k:=by
 induction n with
 | zero=>simp [evR] at h
 | succ n ih=>
  simp only [evR,List.mem_append] at h;rcases h with h | h
  ·obtain ⟨k,h1,h2⟩:=ih h;exact ⟨k,by omega,h2⟩
  ·unfold evI at h
   split at h
   ·simp at h
   ·rw [List.mem_singleton] at h;subst h;exact ⟨n,by omega,rfl,rfl⟩
theorem bq {l:LI} {i j:Nat} {v:Int} (hj:i<l.length):(l.set i v).getD j default=if j=i then v else l.getD j default:=by
 rw [gdq,List.getElem?_set]
 by_cases e:i=j
 ·subst e;rw [if_pos rfl,if_pos hj,if_pos rfl]
  rfl
 ·rw [if_neg e,if_neg (Ne.symm e),gdq]
theorem ou {l:LI} {i:Nat} (h:i<l.length):l.getD i default∈l:=by
 rw [gdq,geq h];exact List.getElem_mem _
theorem zI {l:LI} {P:Int->Prop} (h:∀ v∈l,P v) {i:Nat} {x:Int} (hx:P x):∀ v∈l.set i x,P v:=fun v hv=>by
 rcases List.mem_or_eq_of_mem_set hv with hv | rfl
 ·exact h v hv
 ·exact hx
structure Rel (p:List (List Jh)) (u:Jk) (z:Jn):Prop where
 up:u.p=p
 al:z.at_.length=p.length
 a:∀ i:Nat,i<p.length->z.at_.getD i default=Z3b.get u.pc i
 al1:∀ i:Nat,i<p.length->0<=z.at_.getD i default/\z.at_.getD i default<=((p.getD i default).length:Int)
 rl:z.regs.length=3*p.length
 r:∀ t g:Nat,t<p.length->g<3->z.regs.getD (3*t+g) default=Z3b.get (Z33.get u.reg t) g
 rv:∀ v∈z.regs,0<=v/\v<=3
 ml:z.mem.length=3
 m:∀ l:Nat,l<3->z.mem.getD l default=Z3b.get u.mem l
 mv:∀ v∈z.mem,0<=v/\v<=3
 b:z.buf=[]
section
variable {p:List (List Jh)} {u:Jk} {z:Jn}
theorem Rel.regv (h:Rel p u z) {t g:Nat} (ht:t<p.length) (hg:g<3):0<=Z3b.get (Z33.get u.reg t) g/\Z3b.get (Z33.get u.reg t) g<=3:=by
 rw [<- h.r t g ht hg];exact h.rv _ (ou (by rw [h.rl];omega))
theorem Rel.memv (h:Rel p u z) {l:Nat} (hl:l<3):0<=Z3b.get u.mem l/\Z3b.get u.mem l<=3:=by
 rw [<- h.m l hl];exact h.mv _ (ou (by rw [h.ml];omega))
theorem vQ (hp:PV p) (h:Rel p u z) {t:Int} (ht:0<=t/\t<(p.length:Int)):Jo (cf u t) fun v=>v.2=decide (z.at_.getD t.toNat default<((p.getD t.toNat default).length:Int))/\(v.2=true->v.1=(p.getD t.toNat default).getD (z.at_.getD t.toNat default).toNat default):=by
 have hl:=hp.vs.1;have hr:=hp.vs.2 t.toNat;have h1:=h.al1 t.toNat (by omega);have h2:=h.a t.toNat (by omega);rw [Int.toNat_of_nonneg ht.1] at h2;unfold cf;rw [h.up,<- h2];refine .gdD ⟨ht.1,by omega⟩ (.gdI (by omega) (.gdD ht (.bifD (fun hle => .pure ⟨?_,nofun⟩) fun hle => .gdD ⟨h1.1,by omega⟩ (.pure ⟨?_,fun _=>rfl⟩))))
 ·simp only [];rw [decide_eq_false (by omega)]
 ·simp only [];rw [decide_eq_true (by omega)]
theorem Cz (hp:PV p) (h:Rel p u z):Jo (iR ⟨u⟩) fun l=>l.length<=3/\∀ m:Int,m∈l↔(0<=m/\m<(p.length:Int))/\z.at_.getD m.toNat default<((p.getD m.toNat default).length:Int):=by
 have hl:=hp.vs.1;unfold iR;refine Jo.bind (P:=fun l=>l.length<=3/\∀ m:Int,m∈l↔(0<=m/\m<(p.length:Int))/\z.at_.getD m.toNat default<((p.getD m.toNat default).length:Int)) ?_ fun v hv => .pure hv;refine Jo.loop (fun s=>0<=s.2/\s.2<=(p.length:Int)/\(s.1.length:Int)<=s.2/\∀ m:Int,m∈s.1↔(0<=m/\m<s.2)/\z.at_.getD m.toNat default<((p.getD m.toNat default).length:Int)) (fun s=>((p.length:Int)-s.2).toNat) ⟨Int.le_refl _,by simp only [];omega,by simp,fun m=>⟨nofun,fun ⟨⟨h1,h2⟩,_⟩=>absurd h2 (by simp only [];omega)⟩⟩ fun s ⟨h1,h2,h3,h4⟩ => ?_;unfold jy;simp only [h.up];refine .bifD (fun hlt=>?_) fun hge => .pure ?_
 ·refine Jo.bind (P:=fun l:LI=>(l.length:Int)<=s.2+1/\∀ m:Int,m∈l↔(0<=m/\m<s.2+1)/\z.at_.getD m.toNat default<((p.getD m.toNat default).length:Int)) ?_ fun v ⟨v1,v2⟩ => .gdI (by omega) (.pure ⟨⟨by simp only [];omega,by simp only [];omega,v1,v2⟩,by simp only [];omega⟩);refine (vQ hp h ⟨h1,hlt⟩).bind fun v ⟨e1,_⟩ => .bif (fun hb => .gd (au (by omega) rfl) (.pure ⟨by rw [lla];simp;omega,fun m=>?_⟩)) fun hb => .pure ⟨by omega,fun m=>?_⟩
  ·rw [hb] at e1;have e1:=of_decide_eq_true e1.symm;rw [List.mem_append,h4,List.mem_singleton]
   constructor
   ·rintro (⟨⟨g1,g2⟩,g3⟩ | rfl)
    ·exact ⟨⟨g1,by omega⟩,g3⟩
    ·exact ⟨⟨h1,by omega⟩,e1⟩
   ·rintro ⟨⟨g1,g2⟩,g3⟩
    by_cases e:m=s.2
    ·exact .inr e
    ·exact .inl ⟨⟨g1,by omega⟩,g3⟩
  ·rw [hb] at e1;have e1:=of_decide_eq_false e1.symm;rw [h4]
   constructor
   ·rintro ⟨⟨g1,g2⟩,g3⟩;exact ⟨⟨g1,by omega⟩,g3⟩
   ·rintro ⟨⟨g1,g2⟩,g3⟩;refine ⟨⟨g1,?_⟩,g3⟩
    by_cases e:m=s.2
    ·subst e;exact absurd g3 e1
    ·omega
 ·have : s.2=(p.length:Int):=by omega
  rw [<- this];exact ⟨by omega,h4⟩
theorem qE (s:LI) (v:Int) (hs:s.length<=1048576):Jo (cH s v) (· = decide (v∈s)):=by
 unfold cH;refine Jo.bind (P:=fun r:Int=>0<=r↔v∈s) ?_ fun r hr => .pure (decide_eq_decide.2 hr);unfold gZ;refine Jo.sum (PS:=fun _=>v∉s) (PW:=fun r:Int=>0<=r↔v∈s) ?_ fun _ hn => .pure ⟨fun h=>absurd h (by decide),fun h=>absurd h hn⟩;refine Jo.loop (fun i=>0<=i/\i<=(s.length:Int)/\∀ j:Nat,(j:Int)<i->s[j]? ≠ some v) (fun i=>((s.length:Int)-i).toNat) ⟨Int.le_refl _,by omega,fun j hj=>absurd hj (by omega)⟩ fun i ⟨h1,h2,h3⟩ => ?_;unfold fo;refine .bifD (fun hlt => .gdD ⟨h1,hlt⟩ ?_) fun hge => .pure fun hm=>?_
 ·have hi:i.toNat<s.length:=by omega
  have e:s.getD i.toNat default=s[i.toNat]:=by rw [gdq,geq hi];rfl
  rw [e];refine .bif (fun hb => .pure ⟨fun _=>?_,fun _=>h1⟩) fun hb => .gdI (by omega) (.pure ⟨⟨by omega,by omega,fun j hj=>?_⟩,by omega⟩)
  ·have : v=s[i.toNat]:=by simpa using hb
   rw [this];exact List.getElem_mem _
  ·by_cases ej:j=i.toNat
   ·subst ej;rw [geq hi];intro he;have := osl he;rw [this] at hb;simp at hb
   ·exact h3 j (by omega)
 ·obtain ⟨j,hj,rfl⟩:=List.getElem_of_mem hm;exact h3 j (by omega) (geq hj)
def DR (z:Jn) (t:Int) (x:Jh):Int:=if x.Op=3 then z.regs.getD (t*3+x.Reg).toNat default else x.Val
def AJ (z:Jn) (t:Int) (x:Jh):Jn:=
 ⟨z.at_.set t.toNat (z.at_.getD t.toNat default+1),if rdX x=true then z.regs.set (t*3+x.Reg).toNat (z.mem.getD x.Loc.toNat default) else z.regs,if wrX x=true then z.mem.set x.Loc.toNat (DR z t x) else z.mem,[]⟩
theorem CB (hp:PV p) (h:Rel p u z) {t:Int} (ht:0<=t/\t<(p.length:Int)) (hlt:z.at_.getD t.toNat default<((p.getD t.toNat default).length:Int)) :
  Jo (iS ⟨u⟩ t) (· = ⟨Ej u t ((p.getD t.toNat default).getD (z.at_.getD t.toNat default).toNat default)⟩):=by
 have hl:=hp.vs.1;have h1:=h.al1 t.toNat (by omega);have h2:=h.a t.toNat (by omega);have hr7:=hp.vs.2 t.toNat;rw [Int.toNat_of_nonneg ht.1] at h2;have hx:=hp.ins t.toNat (z.at_.getD t.toNat default).toNat (by omega) (by omega);unfold iS;refine (vQ hp h ht).bind fun v ⟨e1,e2⟩ => ?_;have e3:=e2 (e1.trans (decide_eq_true hlt));rw [<- e3] at hx ⊢;generalize v.1=x at hx ⊢;obtain ⟨x1,x2,x3,x4,x5,x6⟩:=hx;refine .gdD ⟨ht.1,by omega⟩ (.gdY (by simp only [];omega) ?_);have hrg:=fun g hg=>h.regv (t:=t.toNat) (g:=g) (by omega) hg;rw [Int.toNat_of_nonneg ht.1] at hrg;refine Jo.bind (P:=(· = DN u t x)) ?_ fun v4 hv4=>?_
 ·unfold iZ DN;refine .bif (fun ho => .gdD ⟨ht.1,by omega⟩ (.gdD ⟨x3,by simp only [];omega⟩ (.pure ?_))) fun ho => .gdY (by simp only [];omega) (.pure ?_)
  ·rw [if_pos (by simpa using ho)]
  ·rw [if_neg (by simpa using ho)]
 subst hv4;have hr:Jo (bif rdX x then
   gd (decide (0<=x.Loc/\x.Loc<3)) <|
   gd (decide (0<=x.Reg/\x.Reg<3)) <|
   some (Z33.set u.reg t (Z3b.set (Z33.get u.reg t) x.Reg (Z3b.get u.mem x.Loc)))
  else some u.reg) (· = if rdX x=true then Z33.set u.reg t (Z3b.set (Z33.get u.reg t) x.Reg (Z3b.get u.mem x.Loc)) else u.reg):=
  .bif (fun hb => .gdD ⟨x1,by omega⟩ (.gdD ⟨x3,by omega⟩ (.pure (by rw [if_pos hb])))) fun hb => .pure (by rw [if_neg (by simp [hb])])
 refine Jo.bind (P:=fun w=>(⟨⟨w.1,w.2.1,w.2.2.1⟩,⟨w.2.2.2.1,w.2.2.2.2.1,w.2.2.2.2.2.1⟩,⟨w.2.2.2.2.2.2.1,w.2.2.2.2.2.2.2.1,w.2.2.2.2.2.2.2.2⟩⟩:Z33)=if rdX x=true then Z33.set u.reg t (Z3b.set (Z33.get u.reg t) x.Reg (Z3b.get u.mem x.Loc)) else u.reg) ?_ fun w5 hw5=>?_
 ·refine (Cs _).bind fun b hb=>?_;have hb':b=rdX x:=hb;refine .bif (fun hc => .gdD ⟨x1,by omega⟩ (.gdD ⟨x3,by omega⟩ (.pure ?_))) fun hc => .pure ?_
  ·rw [if_pos (by rw [<- hb'];exact hc)]
  ·rw [if_neg (by rw [<- hb',hc];decide)]
 refine Jo.bind (P:=fun w=>(⟨w.1,w.2.1,w.2.2⟩:Z3b)=if wrX x=true then Z3b.set u.mem x.Loc (DN u t x) else u.mem) ?_ fun w10 hw10 => .pure ?_
 ·refine (vL _).bind fun b hb=>?_;have hb':b=wrX x:=hb;refine .bif (fun hc => .gdD ⟨x1,by omega⟩ (.pure ?_)) fun hc => .pure ?_
  ·rw [if_pos (by rw [<- hb'];exact hc)]
  ·rw [if_neg (by rw [<- hb',hc];decide)]
 ·unfold Ej;rw [hw5,hw10]
theorem En (h:Rel p u z) (hl:p.length<=3):Jo (li z) (· = z):=by
 have ha:=h.al;have hr:=h.rl;have hm:=h.ml;unfold li;refine .gd (au (by simp;omega) rfl) (.gd (au (by simp;omega) rfl) (.gd (au (by simp;omega) rfl) ?_));refine Jo.bind (P:=fun _=>True) ?_ fun _ _ => .pure ?_
 ·refine Jo.loop (fun _=>True) (fun _=>0) trivial fun s _=>?_;unfold lG;refine .bifD (fun h0=>?_) fun _ => .pure trivial;rw [h.b] at h0;exact absurd h0 (by simp)
 ·have hb:=h.b
  cases z
  simp only at hb;subst hb
  rfl
theorem Hg (hp:PV p) (h:Rel p u z) {t:Int} (ht:0<=t/\t<(p.length:Int)) (hlt:z.at_.getD t.toNat default<((p.getD t.toNat default).length:Int)) :
  Jo (nD p z t) (· = AJ z t ((p.getD t.toNat default).getD (z.at_.getD t.toNat default).toNat default)):=by
 have hl:=hp.vs.1;have h1:=h.al1 t.toNat (by omega);have hr7:=hp.vs.2 t.toNat;have hx:=hp.ins t.toNat (z.at_.getD t.toNat default).toNat (by omega) (by omega);unfold nD;generalize (p.getD t.toNat default).getD (z.at_.getD t.toNat default).toNat default=x at hx ⊢;obtain ⟨x1,x2,x3,x4,x5,x6⟩:=hx;have hreg:j4 t x.Reg=some (t*3+x.Reg):=by
  unfold j4;rw [jq (BM (by omega)),jq (BM (by omega))]
 refine (En h hl).bind fun v1 e=>?_;subst e;refine .gdD ht (.gdD (by rw [h.al];exact ht) (.gdD ⟨h1.1,hlt⟩ (.gdI (by omega) (.gdD (by rw [h.al];exact ht) ?_))));refine Jo.bind (P:=(· = if rdX x=true then v1.regs.set (t*3+x.Reg).toNat (v1.mem.getD x.Loc.toNat default) else v1.regs)) ?_ fun w5 hw5=>?_
 ·refine (Fa _).bind fun b hb=>?_;have hb':b=rdX x:=hb;refine .bif (fun hc=>(Jo.of (P:=(· = t*3+x.Reg)) hreg rfl).bind fun v hv=>?_) fun hc => .pure ?_
  ·subst hv;exact .gdD ⟨x1,by rw [h.ml];omega⟩ (.gdD ⟨by omega,by rw [h.rl];omega⟩ (.pure (by rw [if_pos (by rw [<- hb'];exact hc)])))
  ·rw [if_neg (by rw [<- hb',hc];decide)]
 subst hw5;refine Jo.bind (P:=(· = if wrX x=true then v1.mem.set x.Loc.toNat (DR v1 t x) else v1.mem)) ?_ fun w10 hw10 => .pure (by rw [hw10];rfl);refine (Cy _).bind fun b hb=>?_;have hb':b=wrX x:=hb;refine .bif (fun hc=>?_) fun hc => .pure ?_
 ·refine Jo.bind (P:=(· = DR v1 t x)) ?_ fun v hv => .gdD ⟨x1,by rw [h.ml];omega⟩ (.pure (by rw [if_pos (by rw [<- hb'];exact hc),hv]));unfold m8 DR;refine .bif (fun ho=>(Jo.of (P:=(· = t*3+x.Reg)) hreg rfl).bind fun v hv=>?_) fun ho => .pure ?_
  ·subst hv;exact .gdD ⟨by omega,by rw [h.rl];omega⟩ (.pure (by rw [if_pos (by simpa using ho)]))
  ·rw [if_neg (by simpa using ho)]
 ·rw [if_neg (by rw [<- hb',hc];decide)]
theorem Rel.after (hp:PV p) (h:Rel p u z) {t:Int} (ht:0<=t/\t<(p.length:Int)) (hlt:z.at_.getD t.toNat default<((p.getD t.toNat default).length:Int)) {x:Jh} (hx:InR x):Rel p (Ej u t x) (AJ z t x):=by
 have hl:=hp.vs.1;obtain ⟨n,rfl⟩:∃ n:Nat,t=n:=⟨t.toNat,by omega⟩;simp only [tnn] at hlt;have hn:n<p.length:=by omega
 obtain ⟨x1,x2,x3,x4,x5,x6⟩:=hx;obtain ⟨l,hlx⟩:∃ l:Nat,x.Loc=l:=⟨x.Loc.toNat,by omega⟩;obtain ⟨g,hgx⟩:∃ g:Nat,x.Reg=g:=⟨x.Reg.toNat,by omega⟩;have e3:((n:Int)*3+(g:Int)).toNat=3*n+g:=by omega
 have hval:DN u n x=DR z n x:=by
  unfold DN DR
  split
  ·rw [hgx,e3,h.r n g hn (by omega)]
  ·rfl
 have hvv:0<=DR z n x/\DR z n x<=3:=by
  rw [<- hval];unfold DN
  split
  ·rw [hgx];exact h.regv hn (by omega)
  ·omega
 unfold Ej AJ;simp only [tnn];refine ⟨h.up,by simp only [List.length_set];exact h.al,fun i hi=>?_,fun i hi=>?_,?_,fun t' g' ht' hg' => ?_,?_,?_,fun l' hl' => ?_,?_,rfl⟩
 ·simp only [];rw [bq (by rw [h.al];exact hn),mK _ _ _ _ (by omega) (by omega),h.a i hi,h.a n hn]
  by_cases e:i=n
  ·rw [if_pos e,if_pos (by omega)]
  ·rw [if_neg e,if_neg (by omega)]
 ·simp only [];rw [bq (by rw [h.al];exact hn)]
  by_cases e:i=n
  ·subst e;have := h.al1 i hi;rw [if_pos rfl];omega
  ·rw [if_neg e];exact h.al1 i hi
 ·simp only []
  split
  ·rw [List.length_set];exact h.rl
  ·exact h.rl
 ·simp only []
  split
  ·rw [hlx,hgx,e3,tnn,bq (by rw [h.rl];omega),xn _ _ _ _ (by omega) (by omega)]
   by_cases e:t'=n
   ·subst e;rw [if_pos rfl,mK _ _ _ _ (by omega) (by omega)]
    by_cases e2:g'=g
    ·subst e2;rw [if_pos rfl,if_pos rfl,h.m l (by omega)]
    ·rw [if_neg (by omega),if_neg (by omega)];exact h.r t' g' ht' hg'
   ·rw [if_neg (by omega),if_neg (by omega)];exact h.r t' g' ht' hg'
  ·exact h.r t' g' ht' hg'
 ·simp only []
  split
  ·refine zI h.rv ?_;rw [hlx,tnn,h.m l (by omega)];exact h.memv (by omega)
  ·exact h.rv
 ·simp only []
  split
  ·rw [List.length_set];exact h.ml
  ·exact h.ml
 ·simp only []
  split
  ·rw [hlx,tnn,bq (by rw [h.ml];omega),mK _ _ _ _ (by omega) (by omega),hval]
   by_cases e:l'=l
   ·rw [if_pos e,if_pos (by omega)]
   ·rw [if_neg e,if_neg (by omega)];exact h.m l' hl'
  ·exact h.m l' hl'
 ·simp only []
  split
  ·exact zI h.mv hvv
  ·exact h.mv
theorem CC (hp:PV p):Jo (dP p (0:Int)) (Rel p ⟨p,⟨0,0,0⟩,⟨⟨0,0,0⟩,⟨0,0,0⟩,⟨0,0,0⟩⟩,⟨0,0,0⟩⟩):=by
 have hl:=hp.vs.1;have z3:∀ i:Int,Z3b.get ⟨0,0,0⟩ i=0:=fun i=>by
  simp only [Z3b.get]
  split <;> (try split) <;> rfl
 have z33:∀ i:Int,Z33.get ⟨⟨0,0,0⟩,⟨0,0,0⟩,⟨0,0,0⟩⟩ i=⟨0,0,0⟩:=fun i=>by
  simp only [Z33.get]
  split <;> (try split) <;> rfl
 have zr:∀ n i:Nat,(List.replicate n (default:Int)).getD i default=0:=fun n i=>by
  rw [gdq,List.getElem?_replicate]
  split <;> rfl
 unfold dP;refine .gdD (by omega) (.gdI (by omega) (.gdD (by omega) (.gdD (by decide) (.gdD (by decide) (.pure ⟨rfl,by simp,fun i hi=>?_,fun i hi=>?_,by simp;omega,fun t g ht hg=>?_,fun v hv=>?_,by simp,fun l hl=>?_,fun v hv=>?_,by simp⟩)))))
 ·simp only [zr,z3]
 ·simp only [zr];omega
 ·simp only [zr,z33,z3]
 ·rw [List.eq_of_mem_replicate hv];decide
 ·simp only [zr,z3]
 ·rw [List.eq_of_mem_replicate hv];decide
def Good (p:List (List Jh)) (s:LI) (n:Nat):Prop:=∀ j,j<n->(0<=s.getD j default/\s.getD j default<(p.length:Int))/\(s.take j).count (s.getD j default)<(p.getD (s.getD j default).toNat default).length
theorem mL {s:LI} {i:Nat} (h:i<s.length) (v:Int):(s.take (i+1)).count v=(s.take i).count v+if s.getD i default=v then 1 else 0:=by
 have e:s.getD i default=s[i]:=by rw [gdq,geq h];rfl
 rw [<- List.take_append_getElem h,List.count_append,List.count_singleton,e];simp only [beq_iff_eq]
theorem Eo (hp:PV p) {s:LI} {i:Nat} (hs:s.length<=1048576) (hi:i<s.length) (h:Rel p u z) :
  (¬ ((0<=s.getD i default/\s.getD i default<(p.length:Int))/\z.at_.getD (s.getD i default).toNat default<((p.getD (s.getD i default).toNat default).length:Int))->ai s ((i:Int),⟨u⟩)=some (.inr (.inr (none,false)))/\aD p s (z.at_,z.regs,z.mem,z.buf,(i:Int))=some (.inr (.inr ([],false)))) /\
  (((0<=s.getD i default/\s.getD i default<(p.length:Int))/\z.at_.getD (s.getD i default).toNat default<((p.getD (s.getD i default).toNat default).length:Int))->∃ u' z',ai s ((i:Int),⟨u⟩)=some (.inl (((i+1:Nat):Int),⟨u'⟩))/\aD p s (z.at_,z.regs,z.mem,z.buf,(i:Int))=some (.inl (z'.at_,z'.regs,z'.mem,z'.buf,((i+1:Nat):Int)))/\Rel p u' z'/\z'.at_=z.at_.set (s.getD i default).toNat (z.at_.getD (s.getD i default).toNat default+1)/\z'=AJ z (s.getD i default) ((p.getD (s.getD i default).toNat default).getD (z.at_.getD (s.getD i default).toNat default).toNat default)):=by
 have hl:=hp.vs.1;have hc:(i:Int)<(s.length:Int):=by omega
 generalize hm:s.getD i default=m;have hcond:Jo (bif decide (m<(0:Int)) then some true
   else bif decide ((p.length:Int)<=m) then some true
   else gd (decide (0<=m/\m<(z.at_.length:Int)))<|gd (decide (0<=m/\m<(p.length:Int))) <|
    some ((z.at_.getD m.toNat default)==((p.getD m.toNat default).length:Int))) (· = !decide ((0<=m/\m<(p.length:Int))/\z.at_.getD m.toNat default<((p.getD m.toNat default).length:Int))):=by
  refine .bifD (fun h1 => .pure (by rw [decide_eq_false (by omega)];rfl)) fun h1 => .bifD (fun h2 => .pure (by rw [decide_eq_false (by omega)];rfl)) fun h2 => .gdD ⟨by omega,by rw [h.al];omega⟩ (.gdD ⟨by omega,by omega⟩ (.pure ?_));have := h.al1 m.toNat (by omega)
  by_cases e:z.at_.getD m.toNat default=((p.getD m.toNat default).length:Int)
  ·rw [decide_eq_false (by omega),e];simp
  ·rw [decide_eq_true (by omega)];simpa using e
 have hmv:=Cz hp h
 constructor
 ·intro hbad;have hb:=decide_eq_false hbad
  constructor
  ·refine Jo.eq ?_;unfold ai;simp only [tnn,hm];refine .bifD (fun _ => .gdD ⟨by omega,hc⟩ (hmv.bind fun l ⟨hll,hl'⟩ => ?_)) fun hn=>absurd hc hn;refine (qE l m (by omega)).bind fun b hb' => ?_;subst hb';refine .bif (fun _ => .pure rfl) fun hn=>?_;have := (hl' m).1 (by simpa using hn);exact absurd this hbad
  ·refine Jo.eq ?_;unfold aD;simp only [tnn,hm];refine .bifD (fun _=>?_) fun hn=>absurd hc hn;refine Jo.sumR (.gdD ⟨by omega,hc⟩ (.sumR (hcond.bind fun b hb' => ?_)));rw [hb] at hb';subst hb';exact .pure rfl
 ·intro hok;have hb:=decide_eq_true hok;have hx:=hp.ins m.toNat (z.at_.getD m.toNat default).toNat (by omega) (by have := h.al1 m.toNat (by omega);omega);refine ⟨_,_,?_,?_,h.after hp hok.1 hok.2 hx,rfl,rfl⟩
  ·refine Jo.eq ?_;unfold ai;simp only [tnn,hm];refine .bifD (fun _ => .gdD ⟨by omega,hc⟩ (hmv.bind fun l ⟨hll,hl'⟩ => ?_)) fun hn=>absurd hc hn;refine (qE l m (by omega)).bind fun b hb' => ?_;subst hb';refine .bif (fun hn=>?_) fun _=>(CB hp h hok.1 hok.2).bind fun v hv => .gdI (by omega) (.pure (by rw [hv];rfl));have := (hl' m).2 hok;simp [this] at hn
  ·refine Jo.eq ?_;unfold aD;simp only [tnn,hm];refine .bifD (fun _=>?_) fun hn=>absurd hc hn;refine Jo.sumL (s:=((AJ z m ((p.getD m.toNat default).getD (z.at_.getD m.toNat default).toNat default)).at_,(AJ z m ((p.getD m.toNat default).getD (z.at_.getD m.toNat default).toNat default)).regs,(AJ z m ((p.getD m.toNat default).getD (z.at_.getD m.toNat default).toNat default)).mem,(AJ z m ((p.getD m.toNat default).getD (z.at_.getD m.toNat default).toNat default)).buf)) (.gdD ⟨by omega,hc⟩ (.sumL (s:=()) (hcond.bind fun b hb' => ?_) ((Hg hp h hok.1 hok.2).bind fun v hv=>by subst hv;exact .pure rfl))) (.gdI (by omega) (.pure rfl));rw [hb] at hb';subst hb';exact .pure rfl
end
section
variable {p:List (List Jh)} {u:Jk} {z:Jn}
def zR (p:List (List Jh)) (s:LI) (z0:Jn):Nat->Jn
 | 0=>z0
 | i+1=>AJ (zR p s z0 i) (s.getD i default) ((p.getD (s.getD i default).toNat default).getD ((zR p s z0 i).at_.getD (s.getD i default).toNat default).toNat default)
theorem I4 (hp:PV p) {s:LI} (z0:Jn) (hs:s.length<=1048576):∀ (n i:Nat) (u:Jk) (z:Jn),i+n=s.length->z=zR p s z0 i->Rel p u z->(∀ t:Nat,t<p.length->z.at_.getD t default=((s.take i).count (t:Int):Int))->Good p s i ->
  (loopO (ai s) ((i:Int),⟨u⟩)=some (.inr (none,false))/\loopO (aD p s) (z.at_,z.regs,z.mem,z.buf,(i:Int))=some (.inr ([],false)) /\ ¬ Good p s s.length) \/
  (∃ u' z',loopO (ai s) ((i:Int),⟨u⟩)=some (.inl ⟨u'⟩)/\loopO (aD p s) (z.at_,z.regs,z.mem,z.buf,(i:Int))=some (.inl (z'.at_,z'.regs,z'.mem,z'.buf))/\Rel p u' z'/\Good p s s.length/\(∀ t:Nat,t<p.length->z'.at_.getD t default=(s.count (t:Int):Int))/\z'=zR p s z0 s.length):=by
 intro n
 induction n with
 | zero=>
  intro i u z hi hz h hc hg;have e:i=s.length:=by omega
  subst e;refine .inr ⟨u,z,?_,?_,h,hg,by simpa using hc,hz⟩
  ·rw [gm];unfold ai;simp only [decide_eq_false (Int.lt_irrefl (s.length:Int))]
   rfl
  ·rw [gm];unfold aD;simp only [decide_eq_false (Int.lt_irrefl (s.length:Int))]
   rfl
 | succ n ih=>
  intro i u z hi hz h hc hg;have hi':i<s.length:=by omega
  obtain ⟨h1,h2⟩:=Eo hp hs hi' h
  by_cases hok:(0<=s.getD i default/\s.getD i default<(p.length:Int))/\z.at_.getD (s.getD i default).toNat default<((p.getD (s.getD i default).toNat default).length:Int)
  ·obtain ⟨u',z',e1,e2,h',ha,hza⟩:=h2 hok;have hn:(s.getD i default).toNat<p.length:=by omega
   have key:=hc _ hn;have em:(((s.getD i default).toNat:Nat):Int)=s.getD i default:=Int.toNat_of_nonneg hok.1.1;rw [em] at key;have := ih (i+1) u' z' (by omega) (by rw [hza,hz];rfl) h' (fun t ht=>?_) (fun j hj=>?_)
   ·rcases this with ⟨g1,g2,g5⟩ | ⟨u2,z2,g1,g2,g3,g4,g5⟩
    ·exact .inl ⟨by rw [gm,e1];exact g1,by rw [gm,e2];exact g2,g5⟩
    ·exact .inr ⟨u2,z2,by rw [gm,e1];exact g1,by rw [gm,e2];exact g2,g3,g4,g5⟩
   ·rw [ha,bq (by rw [h.al];exact hn),mL hi',key]
    by_cases e:t=(s.getD i default).toNat
    ·have e':s.getD i default=(t:Int):=by omega
     rw [if_pos e,if_pos e',e'];omega
    ·have e' : ¬ s.getD i default=(t:Int):=by omega
     rw [if_neg e,if_neg e',hc t ht]
     rfl
   ·by_cases e:j=i
    ·subst e;exact ⟨hok.1,by rw [key] at hok;omega⟩
    ·exact hg j (by omega)
  ·obtain ⟨e1,e2⟩:=h1 hok;refine .inl ⟨by rw [gm,e1];rfl,by rw [gm,e2];rfl,fun hG=>hok ?_⟩;obtain ⟨q1,q2⟩:=hG i hi';refine ⟨q1,?_⟩;have em:(((s.getD i default).toNat:Nat):Int)=s.getD i default:=Int.toNat_of_nonneg q1.1;have key:=hc (s.getD i default).toNat (by omega);rw [em] at key;rw [key];omega
def Open (p:List (List Jh)) (z:Jn):Prop:=∃ t:Nat,t<p.length/\z.at_.getD t default<((p.getD t default).length:Int)
theorem CE (hp:PV p) (h:Rel p u z):Jo (jh p z) fun d=>d=true ↔ ¬ Open p z:=by
 have hl:=hp.vs.1;unfold jh;refine Jo.sum (PS:=fun _ => ¬ Open p z) (PW:=fun d:Bool=>d=true ↔ ¬ Open p z) ?_ fun _ hn => .pure ⟨fun _=>hn,fun _=>rfl⟩;refine Jo.loop (fun i=>0<=i/\i<=(p.length:Int)/\∀ t:Nat,(t:Int)<i -> ¬ z.at_.getD t default<((p.getD t default).length:Int)) (fun i=>((p.length:Int)-i).toNat) ⟨Int.le_refl _,by omega,fun t ht=>absurd ht (by omega)⟩ fun i ⟨h1,h2,h3⟩ => ?_;unfold lH;refine .bifD (fun h0 => .gdD ⟨h1,by rw [h.al];exact h0⟩ (.gdD ⟨h1,h0⟩ ?_)) fun hge => .pure ?_
 ·refine .bifD (fun he => .pure ⟨nofun,fun hn=>absurd ⟨i.toNat,by omega,he⟩ hn⟩) fun he => .gdI (by omega) (.pure ⟨⟨by omega,by omega,fun t ht=>?_⟩,by omega⟩)
  by_cases e:t=i.toNat
  ·subst e;exact he
  ·exact h3 t (by omega)
 ·rintro ⟨t,ht,hlt⟩;exact h3 t (by omega) hlt
theorem CF (hp:PV p) (h:Rel p u z):Jo (gB ⟨u⟩) fun d=>d=true ↔ ¬ Open p z:=by
 have hl:=hp.vs.1;unfold gB iK;refine Jo.bind (P:=fun d:Bool=>d=true ↔ ¬ Open p z) ?_ fun v hv => .pure hv;refine Jo.sum (PS:=fun _ => ¬ Open p z) (PW:=fun d:Bool=>d=true ↔ ¬ Open p z) ?_ fun _ hn => .pure ⟨fun _=>hn,fun _=>rfl⟩;refine Jo.loop (fun i=>0<=i/\i<=(p.length:Int)/\∀ t:Nat,(t:Int)<i -> ¬ z.at_.getD t default<((p.getD t default).length:Int)) (fun i=>((p.length:Int)-i).toNat) ⟨Int.le_refl _,by omega,fun t ht=>absurd ht (by omega)⟩ fun i ⟨h1,h2,h3⟩ => ?_;unfold fS;simp only [h.up];refine .bifD (fun h0=>(vQ hp h ⟨h1,h0⟩).bind fun v ⟨e1,_⟩ => ?_) fun hge => .pure ?_
 ·refine .bif (fun hb => .pure ⟨nofun,fun hn=>absurd ⟨i.toNat,by omega,of_decide_eq_true (e1.symm.trans hb)⟩ hn⟩) fun hb => .gdI (by omega) (.pure ⟨⟨by omega,by omega,fun t ht=>?_⟩,by omega⟩)
  ·by_cases e:t=i.toNat
   ·subst e;rw [hb] at e1;exact of_decide_eq_false e1.symm
   ·exact h3 t (by omega)
 ·rintro ⟨t,ht,hlt⟩;exact h3 t (by omega) hlt
theorem FY (hp:p.length<=3) (h:Rel p u z) {n:Nat} (hn:n<p.length) (base:LI) (hb:base.length<=1000) {step:(List Int×Int)->Option ((List Int×Int) ⊕ LI)} (hs:∀ s:List Int×Int,step s=bif decide (s.2<(3:Int)) then
  gd (decide (0<=s.2/\s.2<3))<|gd (Jf .i64 (Z3b.get (Z33.get u.reg (n:Int)) s.2))<|gd (aQ (s.1.length+1) 8)<|gd (Jf .i64 (s.2+(1:Int))) <|
  some (.inl ((s.1++[(Z3b.get (Z33.get u.reg (n:Int)) s.2)]),(s.2+(1:Int)))) else some (.inr s.1)):Jo (loopO step (base,(0:Int))) (· = base++(z.regs.drop (3*n)).take 3):=by
 refine Jo.loop (fun s=>∃ k:Nat,k<=3/\s=(base++(z.regs.drop (3*n)).take k,(k:Int))) (fun s=>(3-s.2).toNat) ⟨0,by omega,by simp⟩ fun s ⟨k,h1,h2⟩ => ?_;subst h2;rw [hs];refine .bifD (fun hk=>?_) fun hk => .pure ?_
 ·simp only [] at hk;have hv:=h.regv hn (g:=k) (by omega);have hr:=h.r n k hn (by omega);refine .gdD ⟨by simp only [];omega,hk⟩ (.gdI (by simp only [];omega) (.gd (au ?_ rfl) (.gdI (by simp only [];omega) (.pure ⟨⟨k+1,by omega,?_⟩,by simp only [];omega⟩))))
  ·simp only [lla,List.length_take,List.length_drop];omega
  ·simp only [];rw [<- hr,List.append_assoc];have hkl:3*n+k<z.regs.length:=by rw [h.rl];omega
   have hd:(z.regs.drop (3*n)).take (k+1)=(z.regs.drop (3*n)).take k++[z.regs.getD (3*n+k) default]:=by
    rw [<- List.take_append_getElem (by rw [List.length_drop];omega),List.getElem_drop,gdq,geq hkl]
    rfl
   rw [hd]
   rfl
 ·simp only [] at hk;have : k=3:=by omega
  subst this
  rfl
theorem qF (hp:PV p) (h:Rel p u z):Jo (aS u) (· = z.regs++z.mem):=by
 have hl:=hp.vs.1;unfold aS;refine Jo.bind (P:=(· = z.regs)) ?_ fun v hv=>?_
 ·refine Jo.loop (fun s=>∃ n:Nat,n<=p.length/\s=(z.regs.take (3*n),(n:Int))) (fun s=>((p.length:Int)-s.2).toNat) ⟨0,by omega,by simp⟩ fun s ⟨n,h1,h2⟩ => ?_;subst h2;unfold bA;simp only [h.up];refine .bifD (fun hk=>?_) fun hk => .pure ?_
  ·refine Jo.bind (P:=(· = z.regs.take (3*n)++(z.regs.drop (3*n)).take 3)) (.gdD ⟨by omega,by omega⟩ (FY hl h (n:=n) (by omega) _ (by rw [List.length_take];omega) fun s=>by unfold bv;rfl)) fun v hv => .gdI (by omega) (.pure ⟨⟨n+1,by omega,?_⟩,by simp only [];omega⟩);subst hv;rw [show 3*(n+1)=3*n+3 by omega,List.take_add]
   rfl
  ·have : n=p.length:=by omega
   subst this;exact List.take_of_length_le (by rw [h.rl];exact Nat.le_refl _)
 ·subst hv;refine Jo.bind (P:=(· = z.regs++z.mem)) ?_ fun v hv => .pure hv;refine Jo.loop (fun s=>∃ k:Nat,k<=3/\s=(z.regs++z.mem.take k,(k:Int))) (fun s=>(3-s.2).toNat) ⟨0,by omega,by simp⟩ fun s ⟨k,h1,h2⟩ => ?_;subst h2;unfold bw;have hrl:=h.rl;have hml:=h.ml;refine .bifD (fun hk=>?_) fun hk => .pure ?_
  ·simp only [] at hk;have hv:=h.memv (l:=k) (by omega);have hm:=h.m k (by omega);refine .gdD ⟨by simp only [];omega,hk⟩ (.gdI (by simp only [];omega) (.gd (au (by simp only [lla,List.length_take];omega) rfl) (.gdI (by simp only [];omega) (.pure ⟨⟨k+1,by omega,?_⟩,by simp only [];omega⟩))));simp only [];rw [<- hm,List.append_assoc];have hd:z.mem.take (k+1)=z.mem.take k++[z.mem.getD k default]:=by
    rw [<- List.take_append_getElem (by omega),gdq,geq (by omega)]
    rfl
   rw [hd]
   rfl
  ·simp only [] at hk;have : k=3:=by omega
   subst this;simp only [];rw [List.take_of_length_le (by omega)]
theorem xq (hp:PV p) (h:Rel p u z):Jo (fF z) (· = z.regs++z.mem):=by
 have hl:=hp.vs.1;have hrl:=h.rl;have hml:=h.ml;unfold fF;exact .gd (au (by simp;omega) rfl) (.gd (au (by simp;omega) rfl) (.pure rfl))
def u0 (p:List (List Jh)):Jk:=⟨p,⟨0,0,0⟩,⟨⟨0,0,0⟩,⟨0,0,0⟩,⟨0,0,0⟩⟩,⟨0,0,0⟩⟩
theorem Hh {s:LI} (hI:az p=some true) (g1:loopO (ai s) ((0:Int),⟨u0 p⟩)=some (.inr (none,false))):Jo (aN p s) (· = ([],false)):=by
 unfold aN;refine (Jo.of (P:=(· = true)) hI rfl).bind fun v hv => .bif (fun h=>by subst hv;simp at h) fun _=>?_;refine Jo.bind (P:=(· = ⟨u0 p⟩)) (.pure rfl) fun v3 h3=>?_;subst h3;refine Jo.bind (P:=(· = ([],false))) ?_ fun v hv => .pure (by rw [hv]);unfold cJ;refine Jo.bind (P:=(· = (none,false))) (by unfold dC;exact .sumR (.of g1 rfl)) fun v hv=>?_;subst hv;exact Jo.bind (P:=(· = true)) (.bif (fun _ => .pure rfl) fun h=>by simp at h) fun b hb => .bif (fun _ => .pure rfl) fun h=>by subst hb;cases h
theorem FZ {s:LI} {u':Jk} {d:Bool} {o:LI} (hI:az p=some true) (g1:loopO (ai s) ((0:Int),⟨u0 p⟩)=some (.inl ⟨u'⟩)) (hd:gB ⟨u'⟩=some d) (ho:aS u'=some o) :
  Jo (aN p s) (· = bif d then (o,true) else ([],false)):=by
 unfold aN;refine (Jo.of (P:=(· = true)) hI rfl).bind fun v hv => .bif (fun h=>by subst hv;simp at h) fun _=>?_;refine Jo.bind (P:=(· = ⟨u0 p⟩)) (.pure rfl) fun v3 h3=>?_;subst h3;refine Jo.bind (P:=(· = bif d then (o,true) else ([],false))) ?_ fun v hv => .pure (by rw [hv]);unfold cJ;refine Jo.bind (P:=(· = (some ⟨u'⟩,true))) (by unfold dC;exact .sumL (.of g1 rfl) (.pure rfl)) fun v hv=>?_;subst hv;refine Jo.bind (P:=(· = !d)) (.bif (fun h=>by simp at h) fun _ => .gd rfl ((Jo.of (P:=(· = d)) hd rfl).bind fun v hv => .pure (by rw [hv]))) fun b hb=>?_;subst hb
 cases d with
 | true=>exact .gd rfl ((Jo.of (P:=(· = o)) ho rfl).bind fun v hv => .pure (by rw [hv];rfl))
 | false=>exact .pure rfl
theorem Hk {s:LI} {z0:Jn} (hI:aR p=some true) (h0:dP p 0=some z0) (g1:loopO (aD p s) (z0.at_,z0.regs,z0.mem,z0.buf,(0:Int))=some (.inr ([],false))):Jo (bC p s) (· = ([],false)):=by
 unfold bC;refine (Jo.of (P:=(· = true)) hI rfl).bind fun v hv => .bif (fun h=>by subst hv;simp at h) fun _=>?_;refine (Jo.of (P:=(· = z0)) h0 rfl).bind fun v3 h3=>?_;subst h3;exact .sumR (.of g1 rfl)
theorem F3 {s:LI} {z0 z':Jn} {d:Bool} {o:LI} (hI:aR p=some true) (h0:dP p 0=some z0) (g1:loopO (aD p s) (z0.at_,z0.regs,z0.mem,z0.buf,(0:Int))=some (.inl (z'.at_,z'.regs,z'.mem,z'.buf))) (hd:jh p z'=some d) (ho:fF z'=some o) :
  Jo (bC p s) (· = bif d then (o,true) else ([],false)):=by
 unfold bC;refine (Jo.of (P:=(· = true)) hI rfl).bind fun v hv => .bif (fun h=>by subst hv;simp at h) fun _=>?_;refine (Jo.of (P:=(· = z0)) h0 rfl).bind fun v3 h3=>?_;subst h3;refine .sumL (.of g1 rfl) ((Jo.of (P:=(· = d)) hd rfl).bind fun b hb=>?_);subst hb
 cases b with
 | true=>exact (Jo.of (P:=(· = o)) ho rfl).bind fun v hv => .pure (by rw [hv];rfl)
 | false=>exact .pure rfl
def Whole (p:List (List Jh)) (s:LI):Prop:=aZ (p.map fun r=>r.map gy)=true/\Good p s s.length/\∀ t:Nat,t<p.length->s.count (t:Int)=(p.getD t default).length
theorem vR (p:List (List Jh)) {s:LI} (hsz:p.length<=1048576/\total p<=1048576) (hs:s.length<=1048576) :
  ∃ o b,aN p s=some (o,b)/\bC p s=some (o,b)/\(b=true↔Whole p s)/\(b=true->∃ z0,dP p 0=some z0/\Rel p (u0 p) z0/\o=(zR p s z0 s.length).regs++(zR p s z0 s.length).mem):=by
 have hI:az p=some (aZ (p.map fun r=>r.map gy)):=jq (decide_eq_true hsz);have hS:aR p=some (aZ (p.map fun r=>r.map gy)):=jq (decide_eq_true hsz)
 cases hv:aZ (p.map fun r=>r.map gy) with
 | false=>
  unfold aN bC;rw [hI,hS,hv];exact ⟨[],false,rfl,rfl,⟨nofun,fun h=>by have := h.1;rw [hv] at this;cases this⟩,nofun⟩
 | true=>
  rw [hv] at hI hS;have hp:=PV.of hv;obtain ⟨z0,e0,h0⟩:=CC hp;have hr:=I4 hp z0 hs s.length 0 _ z0 (by omega) rfl h0 (fun t ht=>by
   rw [h0.a t ht];simp only [Z3b.get,List.take_zero,List.count_nil]
   split <;> (try split) <;> rfl) (fun j hj=>absurd hj (by omega))
  rcases hr with ⟨g1,g2,g5⟩ | ⟨u',z',g1,g2,g3,g4,g5,g6⟩
  ·exact ⟨[],false,(Hh hI g1).eq,(Hk hS e0 g2).eq,⟨nofun,fun h=>absurd h.2.1 g5⟩,nofun⟩
  ·obtain ⟨d,d1,d2⟩:=CE hp g3;obtain ⟨d',d1',d2'⟩:=CF hp g3;have ed:d'=d:=Bool.eq_iff_iff.2 (d2'.trans d2.symm);subst ed;have k1:=(FZ hI g1 d1' (qF hp g3).eq).eq;have k2:=(F3 hS e0 g2 d1 (xq hp g3).eq).eq;have hw:d'=true↔Whole p s:=by
    rw [d2];refine ⟨fun h=>⟨hv,g4,fun t ht=>?_⟩,fun h ⟨t,ht,hlt⟩ => ?_⟩
    ·have h1:=(g3.al1 t ht).2;have h2:=g5 t ht;have h3 : ¬ z'.at_.getD t default<((p.getD t default).length:Int):=fun hlt=>h ⟨t,ht,hlt⟩;omega
    ·have h2:=g5 t ht;have h3:=h.2.2 t ht;omega
   cases d' with
   | true=>exact ⟨_,true,k1,k2,hw,fun _=>⟨z0,e0,h0,by rw [g6]⟩⟩
   | false=>exact ⟨[],false,k1,k2,hw,nofun⟩
end
section
variable {α β W:Type} [Inhabited α]
theorem Fb {a b:List α} [DecidableEq α] (hl:a.length=b.length) {bad:W} {step:Int->Option (Int ⊕ (Unit ⊕ W))}
  (hs:∀ i:Int,0<=i->i<(a.length:Int)->Jo (step i) (· = if a.getD i.toNat default=b.getD i.toNat default then .inl (i+1) else .inr (.inr bad)))
  (he:∀ i:Int,¬ i<(a.length:Int)->step i=some (.inr (.inl ()))):Jo (loopO step 0) (· = if a=b then .inl () else .inr bad):=by
 refine Jo.loop (fun i=>0<=i/\i<=(a.length:Int)/\∀ j:Nat,(j:Int)<i->a[j]? = b[j]?) (fun i=>((a.length:Int)-i).toNat) ⟨Int.le_refl _,by omega,fun i hi=>absurd hi (by omega)⟩ fun i ⟨h1,h2,h3⟩ => ?_
 by_cases h:i<(a.length:Int)
 ·refine (hs i h1 h).mono ?_;have ha:i.toNat<a.length:=by omega
  have hb:i.toNat<b.length:=by omega
  have ea:a.getD i.toNat default=a[i.toNat]:=by rw [gdq,geq ha];rfl
  have eb:b.getD i.toNat default=b[i.toNat]:=by rw [gdq,geq hb];rfl
  rintro _ rfl
  by_cases e:a.getD i.toNat default=b.getD i.toNat default
  ·rw [if_pos e];refine ⟨⟨by omega,by omega,fun j hj=>?_⟩,by omega⟩
   by_cases ej:j=i.toNat
   ·subst ej;rw [geq ha,geq hb,<- ea,<- eb,e]
   ·exact h3 j (by omega)
  ·rw [if_neg e];show _=_;rw [if_neg];rintro rfl;exact e rfl
 ·rw [he i h];refine .pure ?_;show _=_;rw [if_pos];refine List.ext_getElem? fun j=>?_
  by_cases hj:(j:Int)<i
  ·exact h3 j hj
  ·rw [gen (by omega),gen (by omega)]
end
instance:DecidableEq Jh:=fun a b=>decidable_of_iff (a.Op=b.Op/\a.Loc=b.Loc/\a.Reg=b.Reg/\a.Val=b.Val) ⟨fun ⟨h1,h2,h3,h4⟩=>by cases a;cases b;simp only at h1 h2 h3 h4;subst h1 h2 h3 h4;rfl,fun h=>by subst h;exact ⟨rfl,rfl,rfl,rfl⟩⟩
section
variable {p:List (List Jh)}
def base (p:List (List Jh)) (t k:Nat):Nat:=(evP p t).length+(evR t (p.getD t default) k).length
def num (p:List (List Jh)) (t k:Nat):Int:=if ((p.getD t default).getD k default).Op=4 then -1 else (base p t k:Int)
theorem F4 (t:Nat) (row:List Jh):∀ {n m:Nat},n<=m->evR t row n <+: evR t row m:=by
 intro n m h
 induction h with
 | refl=>exact List.prefix_refl _
 | step _ ih=>exact ih.trans (List.prefix_append _ _)
theorem sK (p:List (List Jh)):∀ {n m:Nat},n<=m->evP p n <+: evP p m:=by
 intro n m h
 induction h with
 | refl=>exact List.prefix_refl _
 | step _ ih=>exact ih.trans (List.prefix_append _ _)
theorem zJ {l m:List Jj} (h:l <+: m) {i:Nat} (hi:i<l.length):m.getD i default=l.getD i default/\i<m.length:=by
 obtain ⟨r,rfl⟩:=h;refine ⟨?_,by rw [lla];omega⟩;rw [gdq,gdq,gal hi]
theorem Fc {t k:Nat} (ht:t<p.length) (hk:k<(p.getD t default).length) (ho : ¬ ((p.getD t default).getD k default).Op=4) :
  (evs p).getD (base p t k) default=⟨t,k,((p.getD t default).getD k default).Loc,rdX ((p.getD t default).getD k default),wrX ((p.getD t default).getD k default)⟩/\base p t k<(evs p).length:=by
 have h1:evP p t++(evR t (p.getD t default) k++[⟨t,k,((p.getD t default).getD k default).Loc,rdX ((p.getD t default).getD k default),wrX ((p.getD t default).getD k default)⟩]) <+: evs p:=by
  refine List.IsPrefix.trans ?_ (sK p (show t+1<=p.length by omega));refine (List.prefix_append_right_inj _).2 ?_;refine List.IsPrefix.trans ?_ (F4 t (p.getD t default) (show k+1<=(p.getD t default).length by omega));show _ <+: evR t (p.getD t default) k++evI t k ((p.getD t default).getD k default);unfold evI;rw [if_neg ho];exact List.prefix_refl _
 obtain ⟨e1,e2⟩:=zJ h1 (i:=base p t k) (by simp only [base,lla,List.length_singleton];omega);refine ⟨e1.trans ?_,e2⟩;rw [gdq,base,gar (by omega),Nat.add_sub_cancel_left,gar (by omega),Nat.sub_self]
 rfl
def p5 (p:List (List Jh)) (t k:Nat):LI:=if ((p.getD t default).getD k default).Op=4 then [] else [(base p t k:Int)]
def Jp (s:LI) (j:Nat):Nat:=(s.getD j default).toNat
def Jq (s:LI) (j:Nat):Nat:=(s.take j).count (s.getD j default)
def fw (p:List (List Jh)) (s:LI):Nat->LI
 | 0=>[]
 | n+1=>fw p s n++p5 p (Jp s n) (Jq s n)
theorem iz {p:List (List Jh)} (h:Vs p):(evs p).length<=24:=by
 have h1:=vP h p.length;have h2:=h.1;unfold evs;omega
end
section
variable {p:List (List Jh)}
theorem vS (l:LL) (i:Nat):l.getD i default=l.getD i []:=rfl
theorem oz {l:LL} {i j:Nat} {v:LI} (hi:i<l.length):(l.set i v).getD j []=if j=i then v else l.getD j []:=by
 rw [gdq,List.getElem?_set]
 by_cases e:i=j
 ·subst e;rw [if_pos rfl,if_pos hi,if_pos rfl]
  rfl
 ·rw [if_neg e,if_neg (Ne.symm e),gdq]
def vT (p:List (List Jh)) (t k:Nat):LI:=(List.range k).map (num p t)
theorem CG (t k:Nat):vT p t (k+1)=vT p t k++[num p t k]:=by
 unfold vT;rw [List.range_succ,List.map_append]
 rfl
theorem sM (hp:PV p):Jo (iC p) fun l=>l.length=p.length/\∀ t:Nat,t<p.length->l.getD t []=vT p t (p.getD t default).length:=by
 have hl:=hp.vs.1;unfold iC;refine .gdD (by omega) ?_;refine Jo.bind (P:=fun l=>l.length=p.length/\∀ t:Nat,t<p.length->l.getD t []=vT p t (p.getD t default).length) ?_ fun v hv => .pure hv;refine Jo.loop (fun z=>∃ n:Nat,n<=p.length/\z.2.1=(n:Int)/\z.2.2=((evP p n).length:Int)/\z.1.length=p.length/\∀ t:Nat,t<p.length->z.1.getD t []=if t<n then vT p t (p.getD t default).length else []) (fun z=>((p.length:Int)-z.2.1).toNat) ⟨0,by omega,rfl,rfl,by simp,fun t ht=>?_⟩ fun z ⟨n,h1,h2,h3,h4,h5⟩ => ?_
 ·simp only [];rw [if_neg (by omega),gdq,List.getElem?_replicate]
  split <;> rfl
 ·obtain ⟨l,i,c⟩:=z;simp only at h2 h3 h4 h5;subst h2 h3;unfold gG;refine .bifD (fun hk=>?_) fun hk => .pure ?_
  ·simp only [] at hk;have hn:n<p.length:=by omega
   have hrow:=hp.vs.2 n;have hlen:=vP hp.vs n;refine Jo.bind (P:=fun y=>y.2=((evP p (n+1)).length:Int)/\y.1.length=p.length/\∀ t:Nat,t<p.length->y.1.getD t []=if t<n+1 then vT p t (p.getD t default).length else []) (.gdD ⟨by simp only [];omega,hk⟩ ?_) fun v ⟨v1,v2,v3⟩ => .gdI (by simp only [];omega) (.pure ⟨⟨n+1,by omega,rfl,v1,v2,v3⟩,by simp only [];omega⟩);refine Jo.loop (fun y=>∃ k:Nat,k<=(p.getD n default).length/\y.2.1=(k:Int)/\y.2.2=(base p n k:Int)/\y.1.length=p.length/\∀ t:Nat,t<p.length->y.1.getD t []=if t<n then vT p t (p.getD t default).length else if t=n then vT p t k else []) (fun y=>(((p.getD n default).length:Int)-y.2.1).toNat) ⟨0,by omega,rfl,by simp [base,evR],h4,fun t ht=>?_⟩ fun y ⟨k,k1,k2,k3,k4,k5⟩ => ?_
   ·rw [h5 t ht]
    by_cases e:t<n
    ·rw [if_pos e,if_pos e]
    ·rw [if_neg e,if_neg e]
     split <;> rfl
   ·obtain ⟨l',i',c'⟩:=y;simp only at k2 k3 k4 k5;subst k2 k3;unfold gF;simp only [tnn];refine .bifD (fun hkk=>?_) fun hkk => .pure ?_
    ·have hR:=vO n (p.getD n default) k;have hb:base p n k<=31:=by unfold base;omega
     have hrn:=k5 n hn;rw [if_neg (Nat.lt_irrefl n),if_pos rfl] at hrn;have hrl:(vT p n k).length=k:=by simp [vT]
     have hfin:∀ (v:Int),v=num p n k->∀ t:Nat,t<p.length->(l'.set n (vT p n k++[v])).getD t []=if t<n then vT p t (p.getD t default).length else if t=n then vT p t (k+1) else []:=fun v hv t ht=>by
      rw [oz (by omega)]
      by_cases e:t=n
      ·subst e;rw [if_pos rfl,if_neg (Nat.lt_irrefl t),if_pos rfl,CG,hv]
      ·rw [if_neg e,k5 t ht]
       by_cases e2:t<n
       ·rw [if_pos e2,if_pos e2]
       ·rw [if_neg e2,if_neg e2,if_neg e,if_neg e]
     refine Jo.bind (P:=fun y=>y.2=(base p n (k+1):Int)/\y.1.length=p.length/\∀ t:Nat,t<p.length->y.1.getD t []=if t<n then vT p t (p.getD t default).length else if t=n then vT p t (k+1) else []) (.gdD ⟨by omega,hkk⟩ (.bif (fun ho=>?_) fun ho=>?_)) fun v ⟨v1,v2,v3⟩ => .gdI (by omega) (.pure ⟨⟨k+1,by omega,rfl,v1,v2,v3⟩,by simp only [];omega⟩)
     ·have ho:((p.getD n default).getD k default).Op=4:=by simpa using ho
      refine .gdD ⟨by omega,by omega⟩ (.gd (au (by rw [hrn,hrl];omega) rfl) (.pure ⟨?_,by simp only [List.length_set];exact k4,?_⟩))
      ·simp only [base,evR,evI,if_pos ho,List.append_nil]
      ·rw [hrn];exact hfin _ (by rw [num,if_pos ho])
     ·have ho : ¬ ((p.getD n default).getD k default).Op=4:=by simpa using ho
      refine .gdD ⟨by omega,by omega⟩ (.gd (au (by rw [hrn,hrl];omega) rfl) (.gdI (by omega) (.pure ⟨?_,by simp only [List.length_set];exact k4,?_⟩)))
      ·simp only [base,evR,evI,if_neg ho,lla,List.length_singleton];omega
      ·rw [hrn];exact hfin _ (by rw [num,if_neg ho])
    ·have : k=(p.getD n default).length:=by omega
     subst this;refine ⟨?_,k4,fun t ht=>?_⟩
     ·simp only [base,evP,lla]
     ·simp only [];rw [k5 t ht]
      by_cases e:t=n
      ·subst e;rw [if_neg (Nat.lt_irrefl t),if_pos rfl,if_pos (by omega)]
      ·by_cases e2:t<n
       ·rw [if_pos e2,if_pos (by omega)]
       ·rw [if_neg e2,if_neg e,if_neg (by omega)]
  ·simp only [] at hk;have : n=p.length:=by omega
   subst this;refine ⟨h4,fun t ht=>?_⟩;rw [h5 t ht,if_pos ht]
abbrev XS:=List Int×LL
def stX (p:List (List Jh)) (st:XS) (n:Int):XS:=
  (if ((evs p).getD n.toNat default).Reads=true then st.1.set n.toNat ((st.2.getD ((evs p).getD n.toNat default).Loc.toNat []).getD (((st.2.getD ((evs p).getD n.toNat default).Loc.toNat []).length:Int)-1).toNat default) else st.1,
   st.2.set ((evs p).getD n.toNat default).Loc.toNat (if ((evs p).getD n.toNat default).Writes=true then st.2.getD ((evs p).getD n.toNat default).Loc.toNat []++[n] else st.2.getD ((evs p).getD n.toNat default).Loc.toNat []))
def x0 (p:List (List Jh)):XS:=(List.replicate (evs p).length (-1),[[0],[1],[2]])
def nE (p:List (List Jh)) (l:LI):XS:=l.foldl (stX p) (x0 p)
theorem sN (l:LI) (n:Int):nE p (l++[n])=stX p (nE p l) n:=by
 unfold nE;rw [List.foldl_append]
 rfl
def OkN (p:List (List Jh)) (n:Int):Prop:=(0<=n/\n<((evs p).length:Int))/\0<=((evs p).getD n.toNat default).Loc/\((evs p).getD n.toNat default).Loc<=2
structure InX (p:List (List Jh)) (m:Nat) (st:XS):Prop where
 f:st.1.length=(evs p).length
 o:st.2.length=3
 r:∀ i:Nat,i<3->1<=(st.2.getD i []).length/\(st.2.getD i []).length<=m+1
theorem InX.x0:InX p 0 (x0 p):=⟨by simp [YtlmjnhnpahicmaaGreat.x0],rfl,fun i hi=>by
 match i,hi with
 | 0,_=>exact ⟨Nat.le_refl 1,Nat.le_refl 1⟩
 | 1,_=>exact ⟨Nat.le_refl 1,Nat.le_refl 1⟩
 | 2,_=>exact ⟨Nat.le_refl 1,Nat.le_refl 1⟩⟩
theorem InX.step {m:Nat} {st:XS} {n:Int} (h:InX p m st) (hn:OkN p n):InX p (m+1) (stX p st n):=by
 obtain ⟨_,h2,h3⟩:=hn;unfold stX;refine ⟨?_,by simp only [List.length_set];exact h.o,fun i hi=>?_⟩
 ·simp only []
  split
  ·rw [List.length_set];exact h.f
  ·exact h.f
 ·simp only [];rw [oz (by rw [h.o];omega)];have hr:=h.r ((evs p).getD n.toNat default).Loc.toNat (by omega);have hi':=h.r i hi
  split
  ·split
   ·simp only [lla,List.length_singleton];omega
   ·omega
  ·omega
theorem InX.runs:∀ {l:LI} {m:Nat} {st:XS},InX p m st->(∀ n∈l,OkN p n)->InX p (m+l.length) (l.foldl (stX p) st)
 | [],_,_,h,_=>h
 | n::l,m,st,h,k=>by
  have := InX.runs (h.step (k n (List.mem_cons_self))) fun x hx=>k x (List.mem_cons_of_mem _ hx);rw [llc,show m+(l.length+1)=m+1+l.length by omega];exact this
theorem InX.run {l:LI} (h:∀ n∈l,OkN p n):InX p l.length (nE p l):=by
 have := InX.runs InX.x0 h
 rwa [Nat.zero_add] at this
theorem step_ok (hp:PV p) {t k:Nat} (ht:t<p.length) (hk:k<(p.getD t default).length):∀ n∈p5 p t k,OkN p n:=by
 intro n hn;unfold p5 at hn
 split at hn
 ·simp at hn
 ·rename_i ho;rw [List.mem_singleton] at hn;subst hn;obtain ⟨e1,e2⟩:=Fc ht hk ho;have hx:=hp.ins t k ht hk;refine ⟨by omega,?_⟩;rw [tnn,e1];exact ⟨hx.1,hx.2.1⟩
theorem yM {s:LI} (hg:Good p s s.length) {j:Nat} (hj:j<s.length):Jp s j<p.length/\((Jp s j:Nat):Int)=s.getD j default/\Jq s j<(p.getD (Jp s j) default).length:=by
 obtain ⟨g1,g2⟩:=hg j hj;unfold Jp Jq;exact ⟨by omega,by omega,g2⟩
theorem zK (hp:PV p) {s:LI} (hg:Good p s s.length):∀ {n:Nat},n<=s.length->∀ m∈fw p s n,OkN p m:=by
 intro n
 induction n with
 | zero=>intro _ m hm;simp [fw] at hm
 | succ n ih=>
  intro hn m hm;simp only [fw,List.mem_append] at hm;rcases hm with hm | hm
  ·exact ih (by omega) m hm
  ·obtain ⟨h1,_,h3⟩:=yM hg (j:=n) (by omega);exact step_ok hp h1 h3 m hm
theorem CH (a:Z3i) (q i v:Int) (hq:0<=q/\q<=2) (hi:0<=i/\i<=2):Z3i.get (Z3i.set a q v) i=if i=q then v else Z3i.get a i:=by
 obtain ⟨x,y,z⟩:=a;have h1:q=0\/q=1\/q=2:=by omega
 have h2:i=0\/i=1\/i=2:=by omega
 rcases h1 with rfl | rfl | rfl <;> rcases h2 with rfl | rfl | rfl <;> rfl
end
def same (a b:Ji):Bool:=decide (a.From=b.From)&&decide (a.Order=b.Order)
end
end Go.Proofs.YtlmjnhnpahicmaaGreat
