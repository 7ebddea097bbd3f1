/- Texts joined. No conditions. -/
import Derived.Test.YtabfkkjdfhbngaaGreatDoorW6
namespace Go.Proofs.YtabfkkjdfhbngaaGreatDoor
noncomputable section
open _root_.Inhabited renaming default -> Rh
open _root_.Bool renaming true -> Ri
open _root_.Bool renaming false -> Rj
open _root_.Option renaming some -> Rk
open _root_.Decidable renaming decide -> Rm
open _root_.Nat renaming le_refl -> UB, lt_irrefl -> UK
open _root_.List renaming length_set -> UC, replicate -> UD, append_assoc -> UE, append_nil -> UF, take_append_getElem -> UI, length_take -> UJ, take_of_length_le -> UL, length_singleton -> UN, getElem?_replicate -> UO, eq_of_mem_replicate -> UQ
open _root_.Int renaming toNat_of_nonneg -> UG, le_refl -> UH
open _root_.List.IsPrefix renaming trans -> UM
open Go.RowKit
set_option maxRecDepth 100000
def evX (t k:Nat) (x:QV):List QX:=if x.Op=4 then [] else [⟨t,k,x.Loc,rdX x,wrX x⟩]
def evR (t:Nat) (row:List QV):Nat->List QX
 | 0=>[]
 | n+1=>evR t row n++evX t n (row.getD n Rh)
def ev0:List QX:=[⟨-1,0,0,Rj,Ri⟩,⟨-1,1,1,Rj,Ri⟩,⟨-1,2,2,Rj,Ri⟩]
def evP (p:List<|List QV):Nat->List QX
 | 0=>ev0
 | n+1=>evP p n++evR n (p.getD n Rh) (p.getD n Rh).length
def evs (p:List<|List QV):List QX:=evP p p.length
theorem Jz (t k:Nat) (x:QV):(evX t k x).length<=1:=by unfold evX;grind
theorem DZ (t:Nat) (row:List QV) (n:Nat):(evR t row n).length<=n:=by
 induction n with
 | zero=>exact UB _
 | succ n ih=>
  have := Jz t n<|row.getD n Rh;simp only [evR,lla];omega
theorem D5 {p:List (List QV)} (h:Vs p) (n:Nat):(evP p n).length<=3+7*n:=by
 induction n with
 | zero=>exact UB _
 | succ n ih=>
  have h1:=DZ n (p.getD n Rh) (p.getD n Rh).length;have h2:=h.2 n;simp only [evP,lla];omega
theorem OP (x:QV):Q4 (nU x) (· = rdX x):=by
 unfold nU rdX;exact Q4.bind (P:=(· = (x.Op==1||x.Op==5))) (.bif (λh => .pure<|by simp_all) λh => .pure<|by simp_all) λv hv => .pure hv
theorem Nh (x:QV):Q4 (mf x) (· = wrX x):=by
 unfold mf wrX;exact Q4.bind (P:=(· = (x.Op==2||x.Op==3))) (.bif (λh => .pure<|by simp_all) λh => .pure<|by simp_all) λv hv=>Q4.bind (P:=(· = (x.Op==2||x.Op==3||x.Op==5))) (.bif (λh => .pure<|by simp_all) λh => .pure<|by simp_all) λv hv => .pure hv
theorem F8 {p:List (List QV)} (hp:Vs p):Q4 (kx p) (· = evs p):=by
 have hpl:=hp.1;unfold kx;refine Q4.bind (P:=(· = ev0)) ?_ λl hl=>Q4.bind (P:=(· = evs p)) ?_ λv hv => .pure hv
 ·refine Q4.loop (λs=>∃ n:Nat,n<=3/\s=(ev0.take n,(n:Int))) (λs=>(3-s.2).toNat) ⟨0,by omega,rfl⟩ λs ⟨n,h1,h2⟩ => ?_;subst h2;unfold uI;refine .bifD (λh=>?_) λh => .pure ?_
  ·match n,h1,h with
   | 0,_,_=>exact .gdC (by decide) rfl (.gdI (by decide)<|.pure ⟨⟨1,by omega,rfl⟩,by decide⟩)
   | 1,_,_=>exact .gdC (by decide) rfl (.gdI (by decide)<|.pure ⟨⟨2,by omega,rfl⟩,by decide⟩)
   | 2,_,_=>exact .gdC (by decide) rfl (.gdI (by decide)<|.pure ⟨⟨3,by omega,rfl⟩,by decide⟩)
   | 3,_,h=>omega
  have : n=3:=by simp only [] at h;omega
  subst this
  rfl
 subst hl;refine Q4.loop (λs=>∃ n:Nat,n<=p.length/\s=(evP p n,(n:Int))) (λs=>((p.length:Int)-s.2).toNat) ⟨0,by omega,rfl⟩ λs ⟨n,h1,h2⟩ => ?_;subst h2;unfold tj;refine .bifD (λh=>?_) λh => .pure ?_
 ·have hlen:=D5 hp n;have hrow:=hp.2 n;simp only [] at h;refine Q4.bind (P:=(· = evP p (n+1))) (.gdD ⟨by omega,h⟩ ?_) λv hv => .gdI (by omega)<|.pure ⟨⟨n+1,by omega,by simp_all⟩,by omega⟩;refine Q4.loop (λt=>∃ k:Nat,k<=(p.getD n Rh).length/\t=(evP p n++evR n (p.getD n Rh) k,(k:Int))) (λt=>(((p.getD n Rh).length:Int)-t.2).toNat) ⟨0,by omega,by simp [evR]⟩ λt ⟨k,k1,k2⟩ => ?_;subst k2;unfold sZ J;simp only [tnn];refine .bifD (λhk=>?_) λhk => .pure ?_
  ·have hl2:=DZ n (p.getD n Rh) k;refine Q4.bind (P:=(· = evP p n++evR n (p.getD n Rh) (k+1))) (.gdD ⟨by omega,hk⟩ ?_) λv hv => .gdI (by omega)<|.pure ⟨⟨k+1,by omega,by simp_all⟩,by omega⟩;refine .bif (λho=>?_) λho => .pure ?_
   ·refine (G8 _).bind λa ha=>(BR _).bind λb hb => .gdC (by grind) rfl<|.pure ?_;have h4 : ¬ ((p.getD n Rh).getD k Rh).Op=4:=by simpa using ho
    subst ha hb;simp only [evR,evX,if_neg h4,UE]
   have h4:((p.getD n Rh).getD k Rh).Op=4:=by simpa using ho
   simp only [evR,evX,if_pos h4,UF]
  have : k=(p.getD n Rh).length:=by omega
  subst this
  rfl
 have : n=p.length:=by simp only [] at h;omega
 subst this
 rfl
theorem D6 {p:List (List QV)} (hp:Vs p):Q4 (ez p) (· = evs p):=by
 have hpl:=hp.1;unfold ez;refine Q4.bind (P:=(· = ev0)) ?_ λl hl=>Q4.bind (P:=(· = evs p)) ?_ λv hv => .pure hv
 ·refine Q4.loop (λs=>∃ n:Nat,n<=3/\s=(ev0.take n,(n:Int))) (λs=>(3-s.2).toNat) ⟨0,by omega,rfl⟩ λs ⟨n,h1,h2⟩ => ?_;subst h2;unfold rG;refine .bifD (λh=>?_) λh => .pure ?_
  ·match n,h1,h with
   | 0,_,_=>exact .gdC (by decide) rfl (.gdI (by decide)<|.pure ⟨⟨1,by omega,rfl⟩,by decide⟩)
   | 1,_,_=>exact .gdC (by decide) rfl (.gdI (by decide)<|.pure ⟨⟨2,by omega,rfl⟩,by decide⟩)
   | 2,_,_=>exact .gdC (by decide) rfl (.gdI (by decide)<|.pure ⟨⟨3,by omega,rfl⟩,by decide⟩)
   | 3,_,h=>omega
  have : n=3:=by simp only [] at h;omega
  subst this
  rfl
 subst hl;refine Q4.loop (λs=>∃ n:Nat,n<=p.length/\s=(evP p n,(n:Int))) (λs=>((p.length:Int)-s.2).toNat) ⟨0,by omega,rfl⟩ λs ⟨n,h1,h2⟩ => ?_;subst h2;unfold qL;refine .bifD (λh=>?_) λh => .pure ?_
 ·have hlen:=D5 hp n;have hrow:=hp.2 n;simp only [] at h;refine Q4.bind (P:=(· = evP p (n+1))) ?_ λv hv => .gdI (by omega)<|.pure ⟨⟨n+1,by omega,by simp_all⟩,by omega⟩;refine Q4.loop (λt=>∃ k:Nat,k<=(p.getD n Rh).length/\t=(evP p n++evR n (p.getD n Rh) k,(k:Int))) (λt=>(((p.getD n Rh).length:Int)-t.2).toNat) ⟨0,by omega,by simp [evR]⟩ λt ⟨k,k1,k2⟩ => ?_;subst k2;unfold qK J;simp only [tnn];refine .gdD ⟨by omega,h⟩<|.bifD (λhk=>?_) λhk => .pure ?_
  ·have hl2:=DZ n (p.getD n Rh) k;refine Q4.bind (P:=(· = evP p n++evR n (p.getD n Rh) (k+1))) (.gdD ⟨by omega,hk⟩ ?_) λv hv => .gdI (by omega)<|.pure ⟨⟨k+1,by omega,by simp_all⟩,by omega⟩;refine .bif (λho=>?_) λho => .pure ?_
   ·refine (OP _).bind λa ha=>(Nh _).bind λb hb => .gdC (by grind) rfl<|.pure ?_;have h4 : ¬ ((p.getD n Rh).getD k Rh).Op=4:=by simpa using ho
    subst ha hb;simp only [evR,evX,if_neg h4,UE]
   have h4:((p.getD n Rh).getD k Rh).Op=4:=by simpa using ho
   simp only [evR,evX,if_pos h4,UF]
  have : k=(p.getD n Rh).length:=by omega
  subst this
  rfl
 have : n=p.length:=by simp only [] at h;omega
 subst this
 rfl
theorem jV {l:LI} {i j:Nat} {v:Int} (hj:i<l.length):(l.set i v).getD j Rh=if j=i then v else l.getD j Rh:=by
 grind
theorem ym {l:LI} {i:Nat} (h:i<l.length):l.getD i Rh∈l:=by
 simp_all
theorem G9 {l:LI} {P:Int->Prop} (h:∀ v∈l,P v) {i:Nat} {x:Int} (hx:P x):∀ v∈l.set i x,P v:=by grind
structure Rel (p:List (List QV)) (u:QY) (z:ZSt):Prop where
 up:u.p=p
 al:z.at_.length=p.length
 a:∀ i:Nat,i<p.length->z.at_.getD i Rh=Z3b.get u.pc i
 al1:∀ i:Nat,i<p.length->0<=z.at_.getD i Rh/\z.at_.getD i Rh<=((p.getD i Rh).length:Int)
 rl:z.regs.length=3*p.length
 r:∀ t g:Nat,t<p.length->g<3->z.regs.getD (3*t+g) Rh=Z3b.get (Z33.get u.reg t) g
 rv:∀ v∈z.regs,0<=v/\v<=3
 ml:z.mem.length=3
 m:∀ l:Nat,l<3->z.mem.getD l Rh=Z3b.get u.mem l
 mv:∀ v∈z.mem,0<=v/\v<=3
 b:z.buf=[]
section
variable {p:List (List QV)} {u:QY} {z:ZSt}
theorem Rel.regv (h:Rel p u z) {t g:Nat} (ht:t<p.length) (hg:g<3):0<=Z3b.get (Z33.get u.reg t) g/\Z3b.get (Z33.get u.reg t) g<=3:=by
 rw [<- h.r t g ht hg];exact h.rv _<|ym (by rw [h.rl];omega)
theorem Rel.memv (h:Rel p u z) {l:Nat} (hl:l<3):0<=Z3b.get u.mem l/\Z3b.get u.mem l<=3:=by
 rw [<- h.m l hl];exact h.mv _<|ym (by rw [h.ml];omega)
theorem D7 (hp:PV p) (h:Rel p u z) {t:Int} (ht:0<=t/\t<(p.length:Int)):Q4 (dH u t) λv=>v.2=Rm (z.at_.getD t.toNat Rh<((p.getD t.toNat Rh).length:Int))/\(v.2=Ri->v.1=(p.getD t.toNat Rh).getD (z.at_.getD t.toNat Rh).toNat Rh):=by
 have hl:=hp.vs.1;have hr:=hp.vs.2 t.toNat;have h1:=h.al1 t.toNat (by omega);have h2:=h.a t.toNat (by omega);rw [UG ht.1] at h2;unfold dH J;rw [h.up,<- h2];refine .gdD ⟨ht.1,by omega⟩<|.gdI (by omega)<|.gdD ht<|.bifD (λhle => .pure ⟨?_,nofun⟩) λhle => .gdD ⟨h1.1,by omega⟩<|.pure ⟨?_,λ_=>rfl⟩
 ·simp only [];rw [decide_eq_false (by omega)]
 simp only [];rw [decide_eq_true (by omega)]
theorem JA (hp:PV p) (h:Rel p u z):Q4 (lm ⟨u⟩) λl=>l.length<=3/\∀ m:Int,m∈l↔(0<=m/\m<(p.length:Int))/\z.at_.getD m.toNat Rh<((p.getD m.toNat Rh).length:Int):=by
 have hl:=hp.vs.1;unfold lm;refine Q4.bind (P:=λl=>l.length<=3/\∀ m:Int,m∈l↔(0<=m/\m<(p.length:Int))/\z.at_.getD m.toNat Rh<((p.getD m.toNat Rh).length:Int)) ?_ λv hv => .pure hv;refine Q4.loop (λs=>0<=s.2/\s.2<=(p.length:Int)/\(s.1.length:Int)<=s.2/\∀ m:Int,m∈s.1↔(0<=m/\m<s.2)/\z.at_.getD m.toNat Rh<((p.getD m.toNat Rh).length:Int)) (λs=>((p.length:Int)-s.2).toNat) ⟨UH _,by simp only [];omega,by simp,λm=>⟨nofun,λ⟨⟨h1,h2⟩,_⟩=>absurd h2<|by simp only [];omega⟩⟩ λs ⟨h1,h2,h3,h4⟩ => ?_;unfold qO;simp only [h.up];refine .bifD (λhlt=>?_) λhge => .pure ?_
 ·refine Q4.bind (P:=λl:LI=>(l.length:Int)<=s.2+1/\∀ m:Int,m∈l↔(0<=m/\m<s.2+1)/\z.at_.getD m.toNat Rh<((p.getD m.toNat Rh).length:Int)) ?_ λv ⟨v1,v2⟩ => .gdI (by omega)<|.pure ⟨⟨by simp only [];omega,by simp only [];omega,v1,v2⟩,by simp only [];omega⟩;refine (D7 hp h ⟨h1,hlt⟩).bind λv ⟨e1,_⟩ => .bif (λhb => .gd (bJ (by omega) rfl)<|.pure ⟨by rw [lla];simp;omega,λm=>?_⟩) λhb => .pure ⟨by omega,λm=>?_⟩
  ·rw [hb] at e1;have e1:=of_decide_eq_true e1.symm;rw [List.mem_append,h4,List.mem_singleton]
   constructor
   ·rintro (⟨⟨g1,g2⟩,g3⟩ | rfl)
    ·exact ⟨⟨g1,by omega⟩,g3⟩
    exact ⟨⟨h1,by omega⟩,e1⟩
   rintro ⟨⟨g1,g2⟩,g3⟩
   by_cases e:m=s.2
   ·exact .inr e
   exact .inl ⟨⟨g1,by omega⟩,g3⟩
  rw [hb] at e1;have e1:=of_decide_eq_false e1.symm;rw [h4]
  constructor
  ·rintro ⟨⟨g1,g2⟩,g3⟩;exact ⟨⟨g1,by omega⟩,g3⟩
  rintro ⟨⟨g1,g2⟩,g3⟩;refine ⟨⟨g1,?_⟩,g3⟩
  by_cases e:m=s.2
  ·subst e;exact absurd g3 e1
  omega
 have : s.2=(p.length:Int):=by omega
 rw [<- this];exact ⟨by omega,h4⟩
theorem Ac (s:LI) (v:Int) (hs:s.length<=1048576):Q4 (bN s v) (· = Rm (v∈s)):=by
 unfold bN;refine Q4.bind (P:=λr:Int=>0<=r↔v∈s) ?_ λr hr => .pure<|decide_eq_decide.2 hr;unfold bv;refine Q4.sum (PS:=λ_=>v∉s) (PW:=λr:Int=>0<=r↔v∈s) ?_ λ_ hn => .pure ⟨λh=>absurd h (by decide),λh=>absurd h hn⟩;refine Q4.loop (λi=>0<=i/\i<=(s.length:Int)/\∀ j:Nat,(j:Int)<i->s[j]? ≠ Rk v) (λi=>((s.length:Int)-i).toNat) ⟨UH _,by omega,λj hj=>absurd hj<|by omega⟩ λi ⟨h1,h2,h3⟩ => ?_;unfold fJ J;refine .bifD (λhlt => .gdD ⟨h1,hlt⟩ ?_) λhge => .pure λhm=>?_
 ·have hi:i.toNat<s.length:=by omega
  have e:s.getD i.toNat Rh=s[i.toNat]:=by rw [gdq,geq hi];rfl
  rw [e];refine .bif (λhb => .pure ⟨λ_=>?_,λ_=>h1⟩) λhb => .gdI (by omega)<|.pure ⟨⟨by omega,by omega,λj hj=>?_⟩,by omega⟩
  ·have : v=s[i.toNat]:=by simpa using hb
   rw [this];exact List.getElem_mem _
  grind
 obtain ⟨j,hj,rfl⟩:=List.getElem_of_mem hm
 grind
def OQ (z:ZSt) (t:Int) (x:QV):Int:=if x.Op=3 then z.regs.getD (t*3+x.Reg).toNat Rh else x.Val
def Qr (z:ZSt) (t:Int) (x:QV):ZSt:=
 ⟨z.at_.set t.toNat<|z.at_.getD t.toNat Rh+1,if rdX x=Ri then z.regs.set (t*3+x.Reg).toNat (z.mem.getD x.Loc.toNat Rh) else z.regs,if wrX x=Ri then z.mem.set x.Loc.toNat (OQ z t x) else z.mem,[]⟩
theorem JB (hp:PV p) (h:Rel p u z) {t:Int} (ht:0<=t/\t<(p.length:Int)) (hlt:z.at_.getD t.toNat Rh<((p.getD t.toNat Rh).length:Int)) :
  Q4 (lq ⟨u⟩ t) (· = ⟨PE u t<|(p.getD t.toNat Rh).getD (z.at_.getD t.toNat Rh).toNat Rh⟩):=by
 have hl:=hp.vs.1;have h1:=h.al1 t.toNat (by omega);have h2:=h.a t.toNat (by omega);have hr7:=hp.vs.2 t.toNat;rw [UG ht.1] at h2;have hx:=hp.ins t.toNat (z.at_.getD t.toNat Rh).toNat (by omega) (by omega);unfold lq;refine (D7 hp h ht).bind λv ⟨e1,e2⟩ => ?_;have e3:=e2<|e1.trans<|decide_eq_true hlt;rw [<- e3] at hx ⊢;generalize v.1=x at hx ⊢;obtain ⟨x1,x2,x3,x4,x5,x6⟩:=hx;refine .gdD ⟨ht.1,by omega⟩<|.gdY (by simp only [];omega) ?_;have hrg:=λg hg=>h.regv (t:=t.toNat) (g:=g) (by omega) hg;rw [UG ht.1] at hrg;refine Q4.bind (P:=(· = Ng u t x)) ?_ λv4 hv4=>?_
 ·unfold kK Ng;refine .bif (λho => .gdD ⟨ht.1,by omega⟩<|.gdD ⟨x3,by simp only [];omega⟩<|.pure ?_) λho => .gdY (by simp only [];omega) (.pure ?_)
  ·rw [if_pos (by simpa using ho)]
  rw [if_neg (by simpa using ho)]
 subst hv4;have hr:Q4 (bif rdX x then
   gd (Rm<|0<=x.Loc/\x.Loc<3) <|
   gd (Rm<|0<=x.Reg/\x.Reg<3) <|
   Rk (Z33.set u.reg t<|Z3b.set (Z33.get u.reg t) x.Reg<|Z3b.get u.mem x.Loc)
  else Rk u.reg) (· = if rdX x=Ri then Z33.set u.reg t (Z3b.set (Z33.get u.reg t) x.Reg (Z3b.get u.mem x.Loc)) else u.reg):=
  .bif (λhb => .gdD ⟨x1,by omega⟩<|.gdD ⟨x3,by omega⟩<|.pure<|by rw [if_pos hb]) λhb => .pure (by rw [if_neg (by simp [hb])])
 refine Q4.bind (P:=λw=>(⟨⟨w.1,w.2.1,w.2.2.1⟩,⟨w.2.2.2.1,w.2.2.2.2.1,w.2.2.2.2.2.1⟩,⟨w.2.2.2.2.2.2.1,w.2.2.2.2.2.2.2.1,w.2.2.2.2.2.2.2.2⟩⟩:Z33)=if rdX x=Ri then Z33.set u.reg t (Z3b.set (Z33.get u.reg t) x.Reg<|Z3b.get u.mem x.Loc) else u.reg) ?_ λw5 hw5=>?_
 ·refine (G8 _).bind λb hb=>?_;have hb':b=rdX x:=hb;refine .bif (λhc => .gdD ⟨x1,by omega⟩<|.gdD ⟨x3,by omega⟩<|.pure ?_) λhc => .pure ?_
  ·rw [if_pos (by rw [<- hb'];exact hc)]
  rw [if_neg (by rw [<- hb',hc];decide)]
 refine Q4.bind (P:=λw=>(⟨w.1,w.2.1,w.2.2⟩:Z3b)=if wrX x=Ri then Z3b.set u.mem x.Loc (Ng u t x) else u.mem) ?_ λw10 hw10 => .pure ?_
 ·refine (BR _).bind λb hb=>?_;have hb':b=wrX x:=hb;refine .bif (λhc => .gdD ⟨x1,by omega⟩<|.pure ?_) λhc => .pure ?_
  ·rw [if_pos (by rw [<- hb'];exact hc)]
  rw [if_neg (by rw [<- hb',hc];decide)]
 unfold PE;rw [hw5,hw10]
theorem Rel.after (hp:PV p) (h:Rel p u z) {t:Int} (ht:0<=t/\t<(p.length:Int)) (hlt:z.at_.getD t.toNat Rh<((p.getD t.toNat Rh).length:Int)) {x:QV} (hx:InR x):Rel p (PE u t x) (Qr z t x):=by
 have hl:=hp.vs.1;obtain ⟨n,rfl⟩:∃ n:Nat,t=n:=⟨t.toNat,by omega⟩;simp only [tnn] at hlt;have hn:n<p.length:=by omega
 obtain ⟨x1,x2,x3,x4,x5,x6⟩:=hx;obtain ⟨l,hlx⟩:∃ l:Nat,x.Loc=l:=⟨x.Loc.toNat,by omega⟩;obtain ⟨g,hgx⟩:∃ g:Nat,x.Reg=g:=⟨x.Reg.toNat,by omega⟩;have e3:((n:Int)*3+(g:Int)).toNat=3*n+g:=by omega
 have hval:Ng u n x=OQ z n x:=by
  unfold Ng OQ
  split
  ·rw [hgx,e3,h.r n g hn (by omega)]
  rfl
 have hvv:0<=OQ z n x/\OQ z n x<=3:=by
  rw [<- hval];unfold Ng
  split
  ·rw [hgx];exact h.regv hn (by omega)
  omega
 unfold PE Qr;simp only [tnn];refine ⟨h.up,by simp only [UC];exact h.al,λi hi=>?_,λi hi=>?_,?_,λt' g' ht' hg' => ?_,?_,?_,λl' hl' => ?_,?_,rfl⟩
 ·simp only [];rw [jV (by rw [h.al];exact hn),DY _ _ _ _ (by omega) (by omega),h.a i hi,h.a n hn]
  by_cases e:i=n
  ·rw [if_pos e,if_pos (by omega)]
  rw [if_neg e,if_neg (by omega)]
 ·simp only [];rw [jV (by rw [h.al];exact hn)]
  by_cases e:i=n
  ·subst e;have := h.al1 i hi;rw [if_pos rfl];omega
  rw [if_neg e];exact h.al1 i hi
 ·simp only []
  split
  ·rw [UC];exact h.rl
  exact h.rl
 ·simp only []
  split
  ·rw [hlx,hgx,e3,tnn,jV (by rw [h.rl];omega),Jy _ _ _ _ (by omega) (by omega)]
   by_cases e:t'=n
   ·subst e;rw [if_pos rfl,DY _ _ _ _ (by omega) (by omega)]
    by_cases e2:g'=g
    ·subst e2;rw [if_pos rfl,if_pos rfl,h.m l (by omega)]
    rw [if_neg (by omega),if_neg (by omega)];exact h.r t' g' ht' hg'
   rw [if_neg (by omega),if_neg (by omega)];exact h.r t' g' ht' hg'
  exact h.r t' g' ht' hg'
 ·simp only []
  split
  ·refine G9 h.rv ?_;rw [hlx,tnn,h.m l (by omega)];exact h.memv (by omega)
  exact h.rv
 ·simp only []
  split
  ·rw [UC];exact h.ml
  exact h.ml
 ·simp only []
  split
  ·rw [hlx,tnn,jV (by rw [h.ml];omega),DY _ _ _ _ (by omega) (by omega),hval]
   by_cases e:l'=l
   ·rw [if_pos e,if_pos (by omega)]
   rw [if_neg e,if_neg (by omega)];exact h.m l' hl'
  exact h.m l' hl'
 simp only []
 split
 ·exact G9 h.mv hvv
 exact h.mv
def Good (p:List<|List QV) (s:LI) (n:Nat):Prop:=∀ j,j<n->(0<=s.getD j Rh/\s.getD j Rh<(p.length:Int))/\(s.take j).count (s.getD j Rh)<(p.getD (s.getD j Rh).toNat Rh).length
theorem zo {s:LI} {i:Nat} (h:i<s.length) (v:Int):(s.take<|i+1).count v=(s.take i).count v+if s.getD i Rh=v then 1 else 0:=by
 have e:s.getD i Rh=s[i]:=by rw [gdq,geq h];rfl
 rw [<- UI h,List.count_append,List.count_singleton,e]
 simp_all
end
section
variable {p:List (List QV)} {u:QY} {z:ZSt}
def Open (p:List<|List QV) (z:ZSt):Prop:=∃ t:Nat,t<p.length/\z.at_.getD t Rh<((p.getD t Rh).length:Int)
theorem ES (hp:PV p) (h:Rel p u z):Q4 (jw ⟨u⟩) λd=>d=Ri ↔ ¬ Open p z:=by
 have hl:=hp.vs.1;unfold jw jv;refine Q4.bind (P:=λd:Bool=>d=Ri ↔ ¬ Open p z) ?_ λv hv => .pure hv;refine Q4.sum (PS:=λ_ => ¬ Open p z) (PW:=λd:Bool=>d=Ri ↔ ¬ Open p z) ?_ λ_ hn => .pure ⟨λ_=>hn,λ_=>rfl⟩;refine Q4.loop (λi=>0<=i/\i<=(p.length:Int)/\∀ t:Nat,(t:Int)<i -> ¬ z.at_.getD t Rh<((p.getD t Rh).length:Int)) (λi=>((p.length:Int)-i).toNat) ⟨UH _,by omega,λt ht=>absurd ht<|by omega⟩ λi ⟨h1,h2,h3⟩ => ?_;unfold lV;simp only [h.up];refine .bifD (λh0=>(D7 hp h ⟨h1,h0⟩).bind λv ⟨e1,_⟩ => ?_) λhge => .pure ?_
 ·refine .bif (λhb => .pure ⟨nofun,λhn=>absurd ⟨i.toNat,by omega,of_decide_eq_true<|e1.symm.trans hb⟩ hn⟩) λhb => .gdI (by omega)<|.pure ⟨⟨by omega,by omega,λt ht=>?_⟩,by omega⟩
  by_cases e:t=i.toNat
  ·subst e;rw [hb] at e1;exact of_decide_eq_false e1.symm
  exact h3 t (by omega)
 rintro ⟨t,ht,hlt⟩;exact h3 t (by omega) hlt
theorem Ni (hp:p.length<=3) (h:Rel p u z) {n:Nat} (hn:n<p.length) (base:LI) (hb:base.length<=1000) {step:(List Int×Int)->Option ((List Int×Int) ⊕ LI)} (hs:∀ s:List Int×Int,step s=bif Rm (s.2<(3:Int)) then
  gd (Rm<|0<=s.2/\s.2<3)<|gd (QS .i64<|Z3b.get (Z33.get u.reg (n:Int)) s.2)<|gd (bT (s.1.length+1) 8)<|gd (QS .i64<|s.2+(1:Int)) <|
  Rk (.inl ((s.1++[(Z3b.get (Z33.get u.reg (n:Int)) s.2)]),(s.2+(1:Int)))) else Rk (.inr s.1)):Q4 (loopO step (base,(0:Int))) (· = base++(z.regs.drop (3*n)).take 3):=by
 refine Q4.loop (λs=>∃ k:Nat,k<=3/\s=(base++(z.regs.drop<|3*n).take k,(k:Int))) (λs=>(3-s.2).toNat) ⟨0,by omega,by simp⟩ λs ⟨k,h1,h2⟩ => ?_;subst h2;rw [hs];refine .bifD (λhk=>?_) λhk => .pure ?_
 ·simp only [] at hk;have hv:=h.regv hn (g:=k) (by omega);have hr:=h.r n k hn (by omega);refine .gdD ⟨by simp only [];omega,hk⟩ (.gdI (by simp only [];omega)<|.gd (bJ ?_ rfl)<|.gdI (by simp only [];omega)<|.pure ⟨⟨k+1,by omega,?_⟩,by simp only [];omega⟩)
  ·simp only [lla,UJ,List.length_drop];omega
  simp only [];rw [<- hr,UE];have hkl:3*n+k<z.regs.length:=by rw [h.rl];omega
  have hd:(z.regs.drop<|3*n).take (k+1)=(z.regs.drop<|3*n).take k++[z.regs.getD (3*n+k) Rh]:=by
   rw [<- UI (by rw [List.length_drop];omega),List.getElem_drop,gdq,geq hkl]
   rfl
  rw [hd]
  rfl
 simp only [] at hk;have : k=3:=by omega
 subst this
 rfl
theorem Ad (hp:PV p) (h:Rel p u z):Q4 (dA u) (· = z.regs++z.mem):=by
 have hl:=hp.vs.1;unfold dA;refine Q4.bind (P:=(· = z.regs)) ?_ λv hv=>?_
 ·refine Q4.loop (λs=>∃ n:Nat,n<=p.length/\s=(z.regs.take<|3*n,(n:Int))) (λs=>((p.length:Int)-s.2).toNat) ⟨0,by omega,by simp⟩ λs ⟨n,h1,h2⟩ => ?_;subst h2;unfold lW;simp only [h.up];refine .bifD (λhk=>?_) λhk => .pure ?_
  ·refine Q4.bind (P:=(· = z.regs.take (3*n)++(z.regs.drop<|3*n).take 3)) (.gdD ⟨by omega,by omega⟩<|Ni hl h (n:=n) (by omega) _ (by rw [UJ];omega) λs=>by unfold kV;rfl) λv hv => .gdI (by omega) (.pure ⟨⟨n+1,by omega,?_⟩,by simp only [];omega⟩);subst hv;rw [show 3*(n+1)=3*n+3 by omega,List.take_add]
   rfl
  have : n=p.length:=by omega
  subst this;exact UL (by rw [h.rl];exact UB _)
 subst hv;refine Q4.bind (P:=(· = z.regs++z.mem)) ?_ λv hv => .pure hv;refine Q4.loop (λs=>∃ k:Nat,k<=3/\s=(z.regs++z.mem.take k,(k:Int))) (λs=>(3-s.2).toNat) ⟨0,by omega,by simp⟩ λs ⟨k,h1,h2⟩ => ?_;subst h2;unfold kW;have hrl:=h.rl;have hml:=h.ml;refine .bifD (λhk=>?_) λhk => .pure ?_
 ·simp only [] at hk;have hv:=h.memv (l:=k) (by omega);have hm:=h.m k (by omega);refine .gdD ⟨by simp only [];omega,hk⟩ (.gdI (by simp only [];omega)<|.gd (bJ (by simp only [lla,UJ];omega) rfl)<|.gdI (by simp only [];omega)<|.pure ⟨⟨k+1,by omega,?_⟩,by simp only [];omega⟩);simp only [];rw [<- hm,UE];have hd:z.mem.take (k+1)=z.mem.take k++[z.mem.getD k Rh]:=by
   rw [<- UI (by omega),gdq,geq (by omega)]
   rfl
  rw [hd]
  rfl
 simp only [] at hk;have : k=3:=by omega
 subst this;simp only [];rw [UL (by omega)]
def u0 (p:List<|List QV):QY:=⟨p,⟨0,0,0⟩,⟨⟨0,0,0⟩,⟨0,0,0⟩,⟨0,0,0⟩⟩,⟨0,0,0⟩⟩
theorem JC {s:LI} {u':QY} {d:Bool} {o:LI} (hI:aT p=Rk Ri) (g1:loopO (aZ s) ((0:Int),⟨u0 p⟩)=Rk (.inl ⟨u'⟩)) (hd:jw ⟨u'⟩=Rk d) (ho:dA u'=Rk o) :
  Q4 (jg p s) (· = bif d then (o,Ri) else ([],Rj)):=by
 unfold jg;refine (Q4.of (P:=(· = Ri)) hI rfl).bind λv hv => .bif (λh=>by subst hv;simp at h) λ_=>?_;refine Q4.bind (P:=(· = ⟨u0 p⟩)) (.pure rfl) λv3 h3=>?_;subst h3;refine Q4.bind (P:=(· = bif d then (o,Ri) else ([],Rj))) ?_ λv hv => .pure (by rw [hv]);unfold fS;refine Q4.bind (P:=(· = (Rk ⟨u'⟩,Ri))) (by unfold iz;exact .sumL (.of g1 rfl)<|.pure rfl) λv hv=>?_;subst hv;refine Q4.bind (P:=(· = !d)) (.bif (λh=>by simp at h) λ_ => .gd rfl ((Q4.of (P:=(· = d)) hd rfl).bind λv hv => .pure<|by rw [hv])) λb hb=>?_;subst hb
 cases d with
 | true=>exact .gd rfl ((Q4.of (P:=(· = o)) ho rfl).bind λv hv => .pure<|by rw [hv];rfl)
 | false=>exact .pure rfl
def Whole (p:List<|List QV) (s:LI):Prop:=bq (p.map λr=>r.map jl)=Ri/\Good p s s.length/\∀ t:Nat,t<p.length->s.count (t:Int)=(p.getD t Rh).length
end
section
variable {α β W:Type} [Inhabited α]
theorem Mv {a b:List α} [DecidableEq α] (hl:a.length=b.length) {bad:W} {step:Int->Option (Int ⊕ (Unit ⊕ W))}
  (hs:∀ i:Int,0<=i->i<(a.length:Int)->Q4 (step i) (· = if a.getD i.toNat Rh=b.getD i.toNat Rh then .inl (i+1) else .inr (.inr bad)))
  (he:∀ i:Int,¬ i<(a.length:Int)->step i=Rk (.inr<|.inl ())):Q4 (loopO step 0) (· = if a=b then .inl () else .inr bad):=by
 refine Q4.loop (λi=>0<=i/\i<=(a.length:Int)/\∀ j:Nat,(j:Int)<i->a[j]? = b[j]?) (λi=>((a.length:Int)-i).toNat) ⟨UH _,by omega,λi hi=>absurd hi<|by omega⟩ λi ⟨h1,h2,h3⟩ => ?_
 by_cases h:i<(a.length:Int)
 ·refine (hs i h1 h).mono ?_
  grind
 rw [he i h];refine .pure ?_;show _=_;rw [if_pos];refine List.ext_getElem? λj=>?_
 grind
end
instance:DecidableEq QV:=λa b=>decidable_of_iff (a.Op=b.Op/\a.Loc=b.Loc/\a.Reg=b.Reg/\a.Val=b.Val) ⟨λ⟨h1,h2,h3,h4⟩=>by cases a;cases b;simp only at h1 h2 h3 h4;subst h1 h2 h3 h4;rfl,λh=>by subst h;exact ⟨rfl,rfl,rfl,rfl⟩⟩
theorem Nj:((List.range 25).all λn=>Rm<|nK 1 (n:Int)=Rk (0,(n:Int)))=Ri:=by decide +kernel
theorem OT {n:Nat} (h:n<25):mK 1 (n:Int)=Rk (0,(n:Int)):=by
 have := List.all_eq_true.1 Nj n<|List.mem_range.2 h;unfold mK;rw [of_decide_eq_true this]
 rfl
theorem Ij {n:Nat} (h:n<25) (h0:0<n) (c:Int):Q4 (dU [c] (n:Int)) (· = List.replicate n c):=by
 unfold dU;refine Q4.bind (P:=λ_=>True) (.bifD (λh=>absurd h<|by omega) λ_ => .pure trivial) λ_ _ => .gd (Mr<|by simp)<|.gd (Mr<|by omega) ?_;refine (Q4.of (P:=(· = (0,(n:Int)))) (OT h) rfl).bind λv5 h5=>?_;subst h5;refine Q4.bind (P:=λ_=>True) (Q4.bind (P:=(· = false)) (.bifD (λh=>absurd h<|Int.lt_irrefl 0) λ_ => .pure<|by simp only [];rw [decide_eq_false (by omega)]) λb hb => .bif (λh=>by subst hb;cases h) λ_ => .pure trivial) λ_ _ => .gdI (by simp only [];omega) (.gdD (by simp only [];omega) ?_);simp only [tnn,List.length_replicate];refine Q4.bind (P:=(· = List.replicate n c)) ?_ λv hv => .pure hv;refine Q4.loop (λs=>∃ (k:Nat) (r:LI),0<k/\k<=n/\s.2=(k:Int)/\s.1=List.replicate k c++r/\r.length=n-k) (λs=>((n:Int)-s.2).toNat) ⟨1,List.replicate (n-1) default,by omega,by omega,by simp;omega,?_,by simp⟩ λs ⟨k,r,k0,k1,k2,k3,k4⟩ => ?_
 ·unfold cpy;rw [if_pos (by simp)];simp only [List.take_zero,List.nil_append,List.length_singleton,List.drop_replicate];rw [show min 1 n=1 by omega]
  rfl
 obtain ⟨l,m⟩:=s;simp only at k2 k3;subst k2;have hl:l.length=n:=by rw [k3,lla,List.length_replicate,k4];omega
 unfold eH;simp only [hl,tnn,Int.toNat_zero,Nat.zero_add,List.drop_zero,Nat.sub_zero];refine .bifD (λhk=>?_) λhk => .pure ?_
 ·have ht:l.take k=List.replicate k c:=by rw [k3,List.take_append_of_le_length (by simp),List.take_of_length_le (by simp)]
  simp only [ht,List.length_replicate];refine .gdD (by omega)<|.gdD (by omega)<|.gdI (by omega)<|.pure ⟨⟨k+min k (n-k),r.drop<|min k<|n-k,by omega,by omega,by simp,?_,by rw [List.length_drop];omega⟩,by simp only [];omega⟩;unfold cpy;rw [if_pos (by omega),ht];simp only [List.length_replicate,List.take_replicate];rw [show min (min k<|n-k) k=min k (n-k) by omega,List.replicate_append_replicate,k3,List.drop_append,List.length_replicate,List.drop_of_length_le (by simp),List.nil_append,Nat.add_sub_cancel_left]
 have : k=n:=by omega
 subst this;have : r=[]:=List.eq_nil_of_length_eq_zero (by omega);rw [k3,this,List.append_nil]
section
variable {p:List (List QV)}
def base (p:List<|List QV) (t k:Nat):Nat:=(evP p t).length+(evR t (p.getD t default) k).length
def num (p:List<|List QV) (t k:Nat):Int:=if ((p.getD t Rh).getD k Rh).Op=4 then -1 else (base p t k:Int)
theorem Nk (t:Nat) (row:List QV):∀ {n m:Nat},n<=m->evR t row n <+: evR t row m:=by
 intro n m h
 induction h with
 | refl=>simp_all
 | step _ ih=>exact ih.trans (List.prefix_append _ _)
theorem zq (p:List<|List QV):∀ {n m:Nat},n<=m->evP p n <+: evP p m:=by
 intro n m h
 induction h with
 | refl=>simp_all
 | step _ ih=>exact ih.trans (List.prefix_append _ _)
theorem Ha {l m:List QX} (h:l <+: m) {i:Nat} (hi:i<l.length):m.getD i Rh=l.getD i Rh/\i<m.length:=by
 obtain ⟨r,rfl⟩:=h
 grind
theorem JD {t k:Nat} (ht:t<p.length) (hk:k<(p.getD t Rh).length) (ho : ¬ ((p.getD t Rh).getD k Rh).Op=4) :
  (evs p).getD (base p t k) Rh=⟨t,k,((p.getD t Rh).getD k Rh).Loc,rdX<|(p.getD t Rh).getD k Rh,wrX<|(p.getD t Rh).getD k Rh⟩/\base p t k<(evs p).length:=by
 have h1:evP p t++(evR t (p.getD t Rh) k++[⟨t,k,((p.getD t Rh).getD k Rh).Loc,rdX<|(p.getD t Rh).getD k Rh,wrX<|(p.getD t Rh).getD k Rh⟩]) <+: evs p:=by
  refine UM ?_<|zq p (show t+1<=p.length by omega);refine (List.prefix_append_right_inj _).2 ?_;refine UM ?_<|Nk t (p.getD t Rh) (show k+1<=(p.getD t Rh).length by omega);show _ <+: evR t (p.getD t Rh) k++evX t k ((p.getD t Rh).getD k Rh);unfold evX;rw [if_neg ho];exact List.prefix_refl _
 obtain ⟨e1,e2⟩:=Ha h1 (i:=base p t k) (by simp only [base,lla,UN];omega);refine ⟨e1.trans ?_,e2⟩;rw [gdq,base,gar (by omega),Nat.add_sub_cancel_left,gar (by omega),Nat.sub_self]
 rfl
def zt (p:List<|List QV) (t k:Nat):LI:=if ((p.getD t Rh).getD k Rh).Op=4 then [] else [(base p t k:Int)]
def sTh (s:LI) (j:Nat):Nat:=(s.getD j Rh).toNat
def stK (s:LI) (j:Nat):Nat:=(s.take j).count<|s.getD j Rh
def sN (p:List<|List QV) (s:LI):Nat->LI
 | 0=>[]
 | n+1=>sN p s n++zt p (sTh s n) (stK s n)
theorem Lt (p:List<|List QV) (s:LI) (n:Nat):(sN p s n).length<=n:=by
 induction n with
 | zero=>exact UB _
 | succ n ih=>
  have : (zt p (sTh s n)<|stK s n).length<=1:=by unfold zt;grind
  simp only [sN,lla];omega
theorem jX {p:List (List QV)} (h:Vs p):(evs p).length<=24:=by
 have h1:=D5 h p.length;have h2:=h.1;unfold evs;omega
end
section
variable {p:List (List QV)}
theorem D8 (l:LL) (i:Nat):l.getD i Rh=l.getD i []:=rfl
theorem yn {l:LL} {i j:Nat} {v:LI} (hi:i<l.length):(l.set i v).getD j []=if j=i then v else l.getD j []:=by
 grind
def Bb (p:List<|List QV) (t k:Nat):LI:=(List.range k).map<|num p t
theorem JE (t k:Nat):Bb p t (k+1)=Bb p t k++[num p t k]:=by
 unfold Bb;rw [List.range_succ,List.map_append]
 rfl
theorem wS (hp:PV p):Q4 (kS p) λl=>l.length=p.length/\∀ t:Nat,t<p.length->l.getD t []=Bb p t (p.getD t Rh).length:=by
 have hl:=hp.vs.1;unfold kS;refine .gdD (by omega) ?_;refine Q4.bind (P:=λl=>l.length=p.length/\∀ t:Nat,t<p.length->l.getD t []=Bb p t (p.getD t Rh).length) ?_ λv hv => .pure hv;refine Q4.loop (λz=>∃ n:Nat,n<=p.length/\z.2.1=(n:Int)/\z.2.2=((evP p n).length:Int)/\z.1.length=p.length/\∀ t:Nat,t<p.length->z.1.getD t []=if t<n then Bb p t (p.getD t Rh).length else []) (λz=>((p.length:Int)-z.2.1).toNat) ⟨0,by omega,rfl,rfl,by simp,λt ht=>?_⟩ λz ⟨n,h1,h2,h3,h4,h5⟩ => ?_
 ·simp only [];rw [if_neg (by omega),gdq,UO]
  split <;> rfl
 obtain ⟨l,i,c⟩:=z;simp only at h2 h3 h4 h5;subst h2 h3;unfold mb;refine .bifD (λhk=>?_) λhk => .pure ?_
 ·simp only [] at hk;have hn:n<p.length:=by omega
  have hrow:=hp.vs.2 n;have hlen:=D5 hp.vs n;refine Q4.bind (P:=λy=>y.2=((evP p<|n+1).length:Int)/\y.1.length=p.length/\∀ t:Nat,t<p.length->y.1.getD t []=if t<n+1 then Bb p t (p.getD t Rh).length else []) (.gdD ⟨by simp only [];omega,hk⟩ ?_) λv ⟨v1,v2,v3⟩ => .gdI (by simp only [];omega) (.pure ⟨⟨n+1,by omega,rfl,v1,v2,v3⟩,by simp only [];omega⟩);refine Q4.loop (λy=>∃ k:Nat,k<=(p.getD n Rh).length/\y.2.1=(k:Int)/\y.2.2=(base p n k:Int)/\y.1.length=p.length/\∀ t:Nat,t<p.length->y.1.getD t []=if t<n then Bb p t (p.getD t Rh).length else if t=n then Bb p t k else []) (λy=>(((p.getD n Rh).length:Int)-y.2.1).toNat) ⟨0,by omega,rfl,by simp [base,evR],h4,λt ht=>?_⟩ λy ⟨k,k1,k2,k3,k4,k5⟩ => ?_
  ·rw [h5 t ht]
   by_cases e:t<n
   ·rw [if_pos e,if_pos e]
   rw [if_neg e,if_neg e]
   split <;> rfl
  obtain ⟨l',i',c'⟩:=y;simp only at k2 k3 k4 k5;subst k2 k3;unfold rF J;simp only [tnn];refine .bifD (λhkk=>?_) λhkk => .pure ?_
  ·have hR:=DZ n (p.getD n Rh) k;have hb:base p n k<=31:=by unfold base;omega
   have hrn:=k5 n hn;rw [if_neg (UK n),if_pos rfl] at hrn;have hrl:(Bb p n k).length=k:=by simp [Bb]
   have hfin:∀ (v:Int),v=num p n k->∀ t:Nat,t<p.length->(l'.set n<|Bb p n k++[v]).getD t []=if t<n then Bb p t (p.getD t Rh).length else if t=n then Bb p t (k+1) else []:=λv hv t ht=>by
    rw [yn (by omega)]
    by_cases e:t=n
    ·subst e;rw [if_pos rfl,if_neg (UK t),if_pos rfl,JE,hv]
    rw [if_neg e,k5 t ht]
    by_cases e2:t<n
    ·rw [if_pos e2,if_pos e2]
    rw [if_neg e2,if_neg e2,if_neg e,if_neg e]
   refine Q4.bind (P:=λy=>y.2=(base p n (k+1):Int)/\y.1.length=p.length/\∀ t:Nat,t<p.length->y.1.getD t []=if t<n then Bb p t (p.getD t Rh).length else if t=n then Bb p t (k+1) else []) (.gdD ⟨by omega,hkk⟩<|.bif (λho=>?_) λho=>?_) λv ⟨v1,v2,v3⟩ => .gdI (by omega)<|.pure ⟨⟨k+1,by omega,rfl,v1,v2,v3⟩,by simp only [];omega⟩
   ·have ho:((p.getD n Rh).getD k Rh).Op=4:=by simpa using ho
    refine .gdD ⟨by omega,by omega⟩<|.gd (bJ (by rw [hrn,hrl];omega) rfl)<|.pure ⟨?_,by simp only [UC];exact k4,?_⟩
    ·simp only [base,evR,evX,if_pos ho,UF]
    rw [hrn];exact hfin _ (by rw [num,if_pos ho])
   have ho : ¬ ((p.getD n Rh).getD k Rh).Op=4:=by simpa using ho
   refine .gdD ⟨by omega,by omega⟩<|.gd (bJ (by rw [hrn,hrl];omega) rfl)<|.gdI (by omega)<|.pure ⟨?_,by simp only [UC];exact k4,?_⟩
   ·simp only [base,evR,evX,if_neg ho,lla,UN];omega
   rw [hrn];exact hfin _ (by rw [num,if_neg ho])
  have : k=(p.getD n Rh).length:=by omega
  subst this;refine ⟨?_,k4,λt ht=>?_⟩
  ·simp only [base,evP,lla]
  simp only [];rw [k5 t ht]
  by_cases e:t=n
  ·subst e;rw [if_neg (UK t),if_pos rfl,if_pos (by omega)]
  by_cases e2:t<n
  ·rw [if_pos e2,if_pos (by omega)]
  rw [if_neg e2,if_neg e,if_neg (by omega)]
 simp only [] at hk;have : n=p.length:=by omega
 subst this;refine ⟨h4,λt ht=>?_⟩;rw [h5 t ht,if_pos ht]
abbrev XS:=List Int×LL
def stX (p:List<|List QV) (st:XS) (n:Int):XS:=
  (if ((evs p).getD n.toNat Rh).Reads=Ri then st.1.set n.toNat ((st.2.getD ((evs p).getD n.toNat Rh).Loc.toNat []).getD (((st.2.getD ((evs p).getD n.toNat Rh).Loc.toNat []).length:Int)-1).toNat Rh) else st.1,
   st.2.set ((evs p).getD n.toNat Rh).Loc.toNat (if ((evs p).getD n.toNat Rh).bK=Ri then st.2.getD ((evs p).getD n.toNat Rh).Loc.toNat []++[n] else st.2.getD ((evs p).getD n.toNat Rh).Loc.toNat []))
def x0 (p:List<|List QV):XS:=(UD (evs p).length<|-1,[[0],[1],[2]])
def wT (p:List<|List QV) (l:LI):XS:=l.foldl (stX p)<|x0 p
theorem yp (l:LI) (n:Int):wT p (l++[n])=stX p (wT p l) n:=by
 unfold wT
 simp_all
def OkN (p:List<|List QV) (n:Int):Prop:=(0<=n/\n<((evs p).length:Int))/\0<=((evs p).getD n.toNat Rh).Loc/\((evs p).getD n.toNat Rh).Loc<=2
structure InX (p:List (List QV)) (m:Nat) (st:XS):Prop where
 f:st.1.length=(evs p).length
 o:st.2.length=3
 r:∀ i:Nat,i<3->1<=(st.2.getD i []).length/\(st.2.getD i []).length<=m+1
theorem InX.x0:InX p 0 (x0 p):=⟨by simp [YtabfkkjdfhbngaaGreatDoor.x0],rfl,λi hi=>by
 match i,hi with
 | 0,_=>exact ⟨UB 1,UB 1⟩
 | 1,_=>exact ⟨UB 1,UB 1⟩
 | 2,_=>exact ⟨UB 1,UB 1⟩⟩
theorem InX.step {m:Nat} {st:XS} {n:Int} (h:InX p m st) (hn:OkN p n):InX p (m+1) (stX p st n):=by
 obtain ⟨_,h2,h3⟩:=hn;unfold stX;refine ⟨?_,by simp only [UC];exact h.o,λi hi=>?_⟩
 ·simp only []
  split
  ·rw [UC];exact h.f
  exact h.f
 simp only [];rw [yn (by rw [h.o];omega)];have hr:=h.r ((evs p).getD n.toNat Rh).Loc.toNat (by omega);have hi':=h.r i hi
 grind
theorem InX.runs:∀ {l:LI} {m:Nat} {st:XS},InX p m st->(∀ n∈l,OkN p n)->InX p (m+l.length) (l.foldl (stX p) st)
 | [],_,_,h,_=>h
 | n::l,m,st,h,k=>by
  have := InX.runs (h.step<|k n<|List.mem_cons_self) λx hx=>k x<|List.mem_cons_of_mem _ hx
  grind
theorem InX.run {l:LI} (h:∀ n∈l,OkN p n):InX p l.length (wT p l):=by
 have := InX.runs InX.x0 h
 rwa [Nat.zero_add] at this
theorem step_ok (hp:PV p) {t k:Nat} (ht:t<p.length) (hk:k<(p.getD t Rh).length):∀ n∈zt p t k,OkN p n:=by
 intro n hn;unfold zt at hn
 split at hn
 ·grind
 rename_i ho;rw [List.mem_singleton] at hn;subst hn;obtain ⟨e1,e2⟩:=JD ht hk ho;have hx:=hp.ins t k ht hk;refine ⟨by omega,?_⟩;rw [tnn,e1];exact ⟨hx.1,hx.2.1⟩
theorem F9 {s:LI} (hg:Good p s s.length) {j:Nat} (hj:j<s.length):sTh s j<p.length/\((sTh s j:Nat):Int)=s.getD j Rh/\stK s j<(p.getD (sTh s j) Rh).length:=by
 obtain ⟨g1,g2⟩:=hg j hj;unfold sTh stK;omega
theorem Mw (hp:PV p) {s:LI} (hg:Good p s s.length):∀ {n:Nat},n<=s.length->∀ m∈sN p s n,OkN p m:=by
 intro n
 induction n with
 | zero=>intro _ m hm;simp [sN] at hm
 | succ n ih=>
  intro hn m hm;simp only [sN,List.mem_append] at hm;rcases hm with hm | hm
  ·grind
  obtain ⟨h1,_,h3⟩:=F9 hg (j:=n) (by omega);exact step_ok hp h1 h3 m hm
theorem JF {m:Nat} {st:XS} {n:Int} (h:InX p m st) (hm:m<=2000000) (hn:OkN p n) {loc:Int} {rd wr:Bool} (hloc:loc=((evs p).getD n.toNat Rh).Loc) (hrd:rd=((evs p).getD n.toNat Rh).Reads) (hwr:wr=((evs p).getD n.toNat Rh).bK) :
  Q4 (Option.bind (bif rd then
    gd (QS .i64<|((st.2.getD loc.toNat []).length:Int)-(1:Int)) <|
    gd (Rm<|0<=(((st.2.getD loc.toNat []).length:Int)-(1:Int))/\(((st.2.getD loc.toNat []).length:Int)-(1:Int))<(((st.2.getD loc.toNat []).length):Int)) <|
    gd (Rm<|0<=n/\n<(st.1.length:Int)) <|
    Rk ((st.1.set n.toNat<|(st.2.getD loc.toNat []).getD ((((st.2.getD loc.toNat []).length:Int)-(1:Int)).toNat) Rh),(st.2.getD loc.toNat []))
   else Rk (st.1,(st.2.getD loc.toNat []))) λ(w:List Int×LI)=>
   bif wr then
    gd (bT (w.2.length+1) 8) <|
    Rk (w.1,(st.2.set loc.toNat<|w.2++[n]))
   else Rk (w.1,(st.2.set loc.toNat w.2))) (· = stX p st n):=by
 obtain ⟨h1,h2,h3⟩:=hn;have hr:=h.r ((evs p).getD n.toNat Rh).Loc.toNat (by omega);subst hloc hrd hwr;unfold stX;refine Q4.bind (P:=λw=>w.1=(if ((evs p).getD n.toNat Rh).Reads=Ri then st.1.set n.toNat ((st.2.getD ((evs p).getD n.toNat Rh).Loc.toNat []).getD (((st.2.getD ((evs p).getD n.toNat Rh).Loc.toNat []).length:Int)-1).toNat Rh) else st.1)/\w.2=st.2.getD ((evs p).getD n.toNat Rh).Loc.toNat []) (.bif (λhb => .gdI (by omega)<|.gdD (by omega)<|.gdD (by rw [h.f];exact h1)<|.pure ⟨by simp_all,rfl⟩) λhb => .pure ⟨by simp_all,rfl⟩) λw ⟨w1,w2⟩ => ?_;exact .bif (λhb => .gd (bJ (by grind) rfl)<|.pure<|by simp_all) λhb => .pure (by simp_all)
theorem ET (a:Z3i) (q i v:Int) (hq:0<=q/\q<=2) (hi:0<=i/\i<=2):Z3i.get (Z3i.set a q v) i=if i=q then v else Z3i.get a i:=by
 obtain ⟨x,y,z⟩:=a;have h1:q=0\/q=1\/q=2:=by omega
 have h2:i=0\/i=1\/i=2:=by omega
 rcases h1 with rfl | rfl | rfl <;> rcases h2 with rfl | rfl | rfl <;> rfl
theorem EU (hp:PV p) {s:LI} (hs:s.length<=1048576) (hg:Good p s s.length):Q4 (qh p s) (· = ⟨(wT p<|sN p s s.length).1,(wT p<|sN p s s.length).2⟩):=by
 have hl:=hp.vs.1;have hel:=jX hp.vs;have he3:3<=(evs p).length:=(zq p<|Nat.zero_le p.length).length_le;unfold qh;refine (F8 hp.vs).bind λv1 h1=>?_;subst h1;refine (Ij (by omega) (by omega)<|-1).bind λv2 h2=>?_;subst h2;refine (wS hp).bind λv6 ⟨n1,n2⟩ => ?_;refine Q4.bind (P:=λz=>z.1=(wT p<|sN p s s.length).1/\z.2.1=(wT p<|sN p s s.length).2) ?_ λv hv => .pure (by rw [hv.1,hv.2]);refine Q4.loop (λz=>∃ n:Nat,n<=s.length/\z.1=(wT p<|sN p s n).1/\z.2.1=(wT p<|sN p s n).2/\z.2.2.2.2.2=(n:Int)/\∀ t:Nat,t<3->Z3i.get ⟨z.2.2.1,z.2.2.2.1,z.2.2.2.2.1⟩ (t:Int)=((s.take n).count (t:Int):Int)) (λz=>((s.length:Int)-z.2.2.2.2.2).toNat) ⟨0,by omega,rfl,rfl,rfl,λt ht=>?_⟩ λz ⟨n,h1,h2,h3,h4,h5⟩ => ?_
 ·simp only [Z3i.get,List.take_zero,List.count_nil]
  split <;> (try split) <;> rfl
 obtain ⟨f,o,a0,a1,a2,i⟩:=z;simp only at h2 h3 h4 h5;subst h2 h3 h4;unfold nL J;refine .bifD (λhk=>?_) λhk => .pure ?_
 ·simp only [] at hk;simp only [tnn];obtain ⟨g1,g2,g3⟩:=F9 hg (j:=n) (by omega);have hok:=Mw hp hg (n:=n) (by omega);have hin:=InX.run hok;have hol:=Lt p s n;generalize ha:(⟨a0,a1,a2⟩:Z3i)=a at h5 ⊢;have hgt:Z3i.get a (s.getD n Rh)=(stK s n:Int):=by
   rw [<- g2,h5 _ (by omega),g2]
   rfl
  have hrow:=hp.vs.2<|sTh s n;have hx:=hp.ins _ _ g1 g3;have hT:(s.getD n Rh).toNat=sTh s n:=rfl;have hnum:v6.getD (sTh s n) Rh=Bb p (sTh s n) (p.getD (sTh s n) Rh).length:=n2 _ g1;have hnl:(Bb p (sTh s n) (p.getD (sTh s n) Rh).length).length=(p.getD (sTh s n) Rh).length:=by simp [Bb]
  have hnk:(Bb p (sTh s n) (p.getD (sTh s n) Rh).length).getD (stK s n) Rh=num p (sTh s n) (stK s n):=by
   unfold Bb;rw [gdq,List.getElem?_map,List.getElem?_range g3]
   rfl
  simp only [hgt,hT,hnum,hnk,tnn];refine Q4.bind (P:=(· = wT p (sN p s<|n+1))) (.gdD ⟨by omega,hk⟩<|.gdD (by omega)<|.gdD (by omega)<|.gdD (by omega)<|.gdD (by rw [n1];omega)<|.gdD (by rw [hnl];omega)<|.gdI (by omega) ?_) λv hv => .gdI (by omega) (.pure ⟨⟨n+1,by omega,by rw [hv],by rw [hv],rfl,λt ht=>?_⟩,by simp only [];omega⟩)
  ·show Q4 _ (· = wT p (sN p s n++zt p (sTh s n) (stK s n)));refine .bif (λho => .pure ?_) λho=>?_
   ·have ho:((p.getD (sTh s n) Rh).getD (stK s n) Rh).Op=4:=by simpa using ho
    rw [zt,if_pos ho,UF]
   have ho : ¬ ((p.getD (sTh s n) Rh).getD (stK s n) Rh).Op=4:=by simpa using ho
   have hokn:=step_ok hp g1 g3 (base p (sTh s n) (stK s n):Int) (by rw [zt,if_neg ho];simp);obtain ⟨e1,e2⟩:=JD g1 g3 ho;rw [zt,if_neg ho,yp,num,if_neg ho];refine .gdD ⟨hx.1,by rw [hin.o];have := hx.2.1;omega⟩ ?_;have key:=JF hin (by omega) hokn (loc:=((p.getD (sTh s n) Rh).getD (stK s n) Rh).Loc) (rd:=rdX<|(p.getD (sTh s n) Rh).getD (stK s n) Rh) (wr:=wrX<|(p.getD (sTh s n) Rh).getD (stK s n) Rh) (by rw [tnn,e1]) (by rw [tnn,e1]) (by rw [tnn,e1]);obtain ⟨b1,r1,r2⟩:=G8<|(p.getD (sTh s n) Rh).getD (stK s n) Rh;obtain ⟨b2,w1,w2⟩:=BR<|(p.getD (sTh s n) Rh).getD (stK s n) Rh;subst r2 w2;rw [r1,w1];exact key
  simp only [];have e:(⟨(Z3i.set a (s.getD n Rh)<|(stK s n:Int)+1).x0,(Z3i.set a (s.getD n Rh)<|(stK s n:Int)+1).x1,(Z3i.set a (s.getD n Rh)<|(stK s n:Int)+1).x2⟩:Z3i)=Z3i.set a (s.getD n Rh) ((stK s n:Int)+1):=rfl;rw [e,ET _ _ _ _ (by omega) (by omega),zo (by omega),h5 t ht]
  by_cases e:(t:Int)=s.getD n Rh
  ·rw [if_pos e,if_pos e.symm];unfold stK;rw [e]
   rfl
  rw [if_neg e,if_neg (Ne.symm e)]
  rfl
 simp only [] at hk;have : n=s.length:=by omega
 subst this;exact ⟨rfl,rfl⟩
end
theorem zu {a b:LI} (h:a.length<=4000000):Q4 (bM a b) (· = Rm (a=b)):=by
 unfold bM;refine .bif (λhn => .pure ?_) λhn=>?_
 ·grind
 have hl:a.length=b.length:=by
  have : (a.length:Int)=(b.length:Int):=by simpa using hn
  omega
 refine Q4.sum (PS:=λ_=>a=b) (PW:=(· = Rm (a=b))) ((Mv hl (bad:=false) (λi h1 h2=>?_) λi hi=>?_).mono λv hv=>?_) λ_ e => .pure (decide_eq_true e).symm
 ·unfold fL J;refine .bifD (λ_ => .gdD ⟨h1,h2⟩<|.gdD ⟨h1,by omega⟩<|.bif (λhb => .pure ?_) λhb => .gdI (by omega)<|.pure ?_) λh=>absurd h2 h
  ·rw [if_neg (by simpa using hb)]
  rw [if_pos (by simpa using hb)]
 ·unfold fL J;rw [decide_eq_false hi]
  rfl
 grind
theorem Ik {a b:LL} (h:a.length<=4000000) (hr:∀ i:Nat,(a.getD i Rh).length<=4000000):Q4 (aD a b) (· = Rm (a=b)):=by
 unfold aD;refine .bif (λhn => .pure ?_) λhn=>?_
 ·rw [decide_eq_false];rintro rfl;simp at hn
 have hl:a.length=b.length:=by
  have : (a.length:Int)=(b.length:Int):=by simpa using hn
  omega
 refine Q4.sum (PS:=λ_=>a=b) (PW:=(· = Rm (a=b))) ((Mv hl (bad:=false) (λi h1 h2=>?_) λi hi=>?_).mono λv hv=>?_) λ_ e => .pure (decide_eq_true e).symm
 ·unfold aR J;refine .bifD (λ_ => .gdD ⟨h1,h2⟩<|.gdD ⟨h1,by omega⟩ ?_) λh=>absurd h2 h;refine Q4.bind (P:=(· = Rm (a.getD i.toNat Rh=b.getD i.toNat Rh))) (by unfold nM;exact (zu<|hr _).bind λv hv => .pure hv) λv hv=>?_;subst hv;refine .bif (λhb => .pure ?_) λhb => .gdI (by omega)<|.pure ?_
  ·rw [if_neg (by intro e;rw [decide_eq_true e] at hb;cases hb)]
  rw [if_pos (by refine of_decide_eq_true ?_;revert hb;cases Rm (a.getD i.toNat Rh=b.getD i.toNat Rh) <;> simp)]
 ·unfold aR J;rw [decide_eq_false hi]
  rfl
 subst hv
 by_cases e:a=b
 ·rw [if_pos e];exact e
 rw [if_neg e];exact (decide_eq_false e).symm
def EB (e:QW):Prop:=e.From.length<=4000000/\e.Order.length<=4000000/\∀ i:Nat,(e.Order.getD i Rh).length<=4000000
def same (a b:QW):Bool:=Rm (a.From=b.From)&&Rm (a.Order=b.Order)
theorem JG {a b:QW} (h:EB a):Q4 (mL a b) (· = same a b):=by
 unfold mL same;refine (zu h.1).bind λv hv=>?_;subst hv;refine Q4.bind (P:=(· = (Rm (a.From=b.From)&&Rm (a.Order=b.Order)))) (.bif (λhb=>(Ik h.2.1 h.2.2).bind λv hv => .pure<|by rw [hv,hb];rfl) λhb => .pure<|by rw [hb];rfl) λv hv => .pure hv
def PT (p:List<|List QV) (s:LI) (b:Bool):QW:=bif b then ⟨(wT p<|sN p s s.length).1,(wT p<|sN p s s.length).2⟩ else ⟨[],[]⟩
section
variable {p:List (List QV)} {u:QY} {z:ZSt}
theorem JH (hp:PV p):Rel p (u0 p) ⟨UD p.length Rh,UD (p.length*3) Rh,UD 3 Rh,[]⟩:=by
 have hl:=hp.vs.1;have z3:∀ i:Int,Z3b.get ⟨0,0,0⟩ i=0:=λi=>by
  simp only [Z3b.get]
  split <;> (try split) <;> rfl
 have z33:∀ i:Int,Z33.get ⟨⟨0,0,0⟩,⟨0,0,0⟩,⟨0,0,0⟩⟩ i=⟨0,0,0⟩:=λi=>by
  simp only [Z33.get]
  split <;> (try split) <;> rfl
 have zr:∀ n i:Nat,(UD n (Rh:Int)).getD i Rh=0:=λn i=>by
  rw [gdq,UO]
  split <;> rfl
 refine ⟨rfl,by simp,λi hi=>?_,λi hi=>?_,by simp;omega,λt g ht hg=>?_,λv hv=>?_,by simp,λl hl=>?_,λv hv=>?_,by simp⟩
 ·simp only [zr,u0,z3]
 ·simp only [zr];omega
 ·simp only [zr,u0,z33,z3]
 ·rw [UQ hv];decide
 ·simp only [zr,u0,z3]
 rw [UQ hv];decide
theorem OU (hp:PV p) {s:LI} {i:Nat} (hs:s.length<=1048576) (hi:i<s.length) (h:Rel p u z)
  (hok:(0<=s.getD i Rh/\s.getD i Rh<(p.length:Int))/\z.at_.getD (s.getD i Rh).toNat Rh<((p.getD (s.getD i Rh).toNat Rh).length:Int)) :
  ∃ u' z',aZ s ((i:Int),⟨u⟩)=Rk (.inl (((i+1:Nat):Int),⟨u'⟩))/\Rel p u' z'/\z'.at_=z.at_.set (s.getD i Rh).toNat (z.at_.getD (s.getD i Rh).toNat Rh+1):=by
 have hc:(i:Int)<(s.length:Int):=by omega
 generalize hm:s.getD i Rh=m at hok ⊢;have hx:=hp.ins m.toNat (z.at_.getD m.toNat Rh).toNat (by omega) (by have := h.al1 m.toNat (by omega);omega);refine ⟨_,_,Q4.eq ?_,h.after hp hok.1 hok.2 hx,rfl⟩;unfold aZ J;simp only [tnn,hm];refine .bifD (λ_ => .gdD ⟨by omega,hc⟩<|(JA hp h).bind λl ⟨hll,hl'⟩ => ?_) λhn=>absurd hc hn;refine (Ac l m<|by omega).bind λb hb' => ?_;subst hb';refine .bif (λhn=>?_) λ_=>(JB hp h hok.1 hok.2).bind λv hv => .gdI (by omega)<|.pure (by rw [hv];rfl);have := (hl' m).2 hok;simp [this] at hn
theorem OV (hp:PV p) {s:LI} (hs:s.length<=1048576) (hg:Good p s s.length):∀ (n i:Nat) (u:QY) (z:ZSt),i+n=s.length->Rel p u z->(∀ t:Nat,t<p.length->z.at_.getD t Rh=((s.take i).count (t:Int):Int)) ->
  ∃ u' z',loopO (aZ s) ((i:Int),⟨u⟩)=Rk (.inl ⟨u'⟩)/\Rel p u' z'/\(∀ t:Nat,t<p.length->z'.at_.getD t Rh=(s.count (t:Int):Int)):=by
 intro n
 induction n with
 | zero=>
  intro i u z hi h hc;have e:i=s.length:=by omega
  subst e;refine ⟨u,z,?_,h,by simpa using hc⟩;rw [uf];unfold aZ J;simp only [decide_eq_false (Int.lt_irrefl (s.length:Int))]
  rfl
 | succ n ih=>
  intro i u z hi h hc;have hi':i<s.length:=by omega
  obtain ⟨q1,q2⟩:=hg i hi';have hn:(s.getD i Rh).toNat<p.length:=by omega
  have key:=hc _ hn;have em:(((s.getD i Rh).toNat:Nat):Int)=s.getD i Rh:=UG q1.1;rw [em] at key;obtain ⟨u',z',e1,h',ha⟩:=OU hp hs hi' h ⟨q1,by rw [key];omega⟩;rw [uf,e1];refine ih (i+1) u' z' (by omega) h' λt ht=>?_;rw [ha,jV (by rw [h.al];exact hn),zo hi',key]
  by_cases e:t=(s.getD i Rh).toNat
  ·have e':s.getD i Rh=(t:Int):=by omega
   rw [if_pos e,if_pos e',e'];omega
  have e' : ¬ s.getD i Rh=(t:Int):=by omega
  rw [if_neg e,if_neg e',hc t ht]
  rfl
theorem Il (hsz:p.length<=1048576/\total p<=1048576) {s:LI} (hs:s.length<=1048576) (hw:Whole p s):iA p s=Rk (PT p s Ri,Ri):=by
 have hp:=PV.of hw.1;have hI:aT p=Rk Ri:=hw.1 ▸ oP (decide_eq_true hsz);have h0:=JH hp;obtain ⟨u',z',g1,g2,g3⟩:=OV hp hs hw.2.1 s.length 0 _ _ (by omega) h0 λt ht=>by
  rw [h0.a t ht];simp only [u0,Z3b.get,List.take_zero,List.count_nil]
  split <;> (try split) <;> rfl
 obtain ⟨d,d1,d2⟩:=ES hp g2;obtain rfl:d=Ri:=d2.2 λ⟨t,ht,hlt⟩=>by
  have h2:=g3 t ht;have h3:=hw.2.2 t ht;omega
 refine Q4.eq ?_;unfold iA;refine (JC hI g1 d1 (Ad hp g2).eq).bind λv hv=>?_;subst hv;exact .bif (λh=>by cases h) λ_=>(EU hp hs hw.2.1).bind λv hv => .pure (by rw [hv];rfl)
end
end
end Go.Proofs.YtabfkkjdfhbngaaGreatDoor
