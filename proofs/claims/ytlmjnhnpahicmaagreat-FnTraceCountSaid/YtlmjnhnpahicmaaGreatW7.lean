/- Texts joined. No conditions. -/
import Derived.Test.YtlmjnhnpahicmaaGreatW6
namespace Go.Proofs.YtlmjnhnpahicmaaGreat
noncomputable section
open Go.RowKit
set_option maxRecDepth 100000
def evI (t k:Nat) (x:Ma):List Mc:=if x.Op=4 then [] else [⟨t,k,x.Loc,rdX x,wrX x⟩]
def Mh (t:Nat) (row:List Ma):Nat->List Mc
 | 0=>[]
 | n+1=>Mh t row n++evI t n (row.getD n default)
def ev0:List Mc:=[⟨-1,0,0,false,true⟩,⟨-1,1,1,false,true⟩,⟨-1,2,2,false,true⟩]
def evP (p:List (List Ma)):Nat->List Mc
 | 0=>ev0
 | n+1=>evP p n++Mh n (p.getD n default) (p.getD n default).length
def evs (p:List (List Ma)):List Mc:=evP p p.length
theorem Fa (t k:Nat) (x:Ma):(evI t k x).length<=1:=by unfold evI;split <;> simp
theorem yA (t:Nat) (row:List Ma) (n:Nat):(Mh t row n).length<=n:=by
 induction n with
 | zero=>exact Nat.le_refl _
 | succ n ih=>
  have := Fa t n (row.getD n default);simp only [Mh,lla];omega
theorem yB {p:List (List Ma)} (h:Vs p) (n:Nat):(evP p n).length<=3+7*n:=by
 induction n with
 | zero=>exact Nat.le_refl _
 | succ n ih=>
  have h1:=yA n (p.getD n default) (p.getD n default).length;have h2:=h.2 n;simp only [evP,lla];omega
theorem Kl (x:Ma):Mg (dF x) (· = rdX x):=by
 unfold dF rdX;exact Mg.bind (P:=(· = (x.Op==1||x.Op==5))) (.bif (fun h => .pure (by rw [h];rfl)) fun h => .pure (by rw [h];rfl)) fun v hv => .pure hv
theorem Jc (x:Ma):Mg (bZ x) (· = wrX x):=by
 unfold bZ wrX;exact Mg.bind (P:=(· = (x.Op==2||x.Op==3))) (.bif (fun h => .pure (by rw [h];rfl)) fun h => .pure (by rw [h];rfl)) fun v hv=>Mg.bind (P:=(· = (x.Op==2||x.Op==3||x.Op==5))) (.bif (fun h => .pure (by rw [<- hv,h];rfl)) fun h => .pure (by rw [<- hv,h];rfl)) fun v hv => .pure hv
theorem Jd {p:List (List Ma)} (hp:Vs p):Mg (kL p) (· = evs p):=by
 have hpl:=hp.1;unfold kL;refine Mg.bind (P:=(· = ev0)) ?_ fun l hl=>Mg.bind (P:=(· = evs p)) ?_ fun v hv => .pure hv
 ·refine Mg.loop (fun s=>∃ n:Nat,n<=3/\s=(ev0.take n,(n:Int))) (fun s=>(3-s.2).toNat) ⟨0,by omega,rfl⟩ fun s ⟨n,h1,h2⟩ => ?_;subst h2;unfold kz;refine .bifD (fun h=>?_) fun h => .pure ?_
  ·match n,h1,h with
   | 0,_,_=>exact .gdC (by decide) rfl (.gdI (by decide) (.pure ⟨⟨1,by omega,rfl⟩,by decide⟩))
   | 1,_,_=>exact .gdC (by decide) rfl (.gdI (by decide) (.pure ⟨⟨2,by omega,rfl⟩,by decide⟩))
   | 2,_,_=>exact .gdC (by decide) rfl (.gdI (by decide) (.pure ⟨⟨3,by omega,rfl⟩,by decide⟩))
   | 3,_,h=>exact absurd h (by decide)
  ·have : n=3:=by simp only [] at h;omega
   subst this
   rfl
 ·subst hl;refine Mg.loop (fun s=>∃ n:Nat,n<=p.length/\s=(evP p n,(n:Int))) (fun s=>((p.length:Int)-s.2).toNat) ⟨0,by omega,rfl⟩ fun s ⟨n,h1,h2⟩ => ?_;subst h2;unfold jC;refine .bifD (fun h=>?_) fun h => .pure ?_
  ·have hlen:=yB hp n;have hrow:=hp.2 n;simp only [] at h;refine Mg.bind (P:=(· = evP p (n+1))) (.gdD ⟨by simp only [];omega,h⟩ ?_) fun v hv => .gdI (by simp only [];omega) (.pure ⟨⟨n+1,by omega,by rw [hv];rfl⟩,by simp only [];omega⟩);refine Mg.loop (fun t=>∃ k:Nat,k<=(p.getD n default).length/\t=(evP p n++Mh n (p.getD n default) k,(k:Int))) (fun t=>(((p.getD n default).length:Int)-t.2).toNat) ⟨0,by omega,by simp [Mh]⟩ fun t ⟨k,k1,k2⟩ => ?_;subst k2;unfold jA;simp only [tnn];refine .bifD (fun hk=>?_) fun hk => .pure ?_
   ·have hl2:=yA n (p.getD n default) k;refine Mg.bind (P:=(· = evP p n++Mh n (p.getD n default) (k+1))) (.gdD ⟨by omega,hk⟩ ?_) fun v hv => .gdI (by omega) (.pure ⟨⟨k+1,by omega,by rw [hv];rfl⟩,by simp only [];omega⟩);refine .bif (fun ho=>?_) fun ho => .pure ?_
    ·refine (EU _).bind fun a ha=>(sG _).bind fun b hb => .gdC (by simp only [lla];omega) rfl (.pure ?_);have h4 : ¬ ((p.getD n default).getD k default).Op=4:=by simpa using ho
     subst ha hb;simp only [Mh,evI,if_neg h4,List.append_assoc]
    ·have h4:((p.getD n default).getD k default).Op=4:=by simpa using ho
     simp only [Mh,evI,if_pos h4,List.append_nil]
   ·have : k=(p.getD n default).length:=by omega
    subst this
    rfl
  ·have : n=p.length:=by simp only [] at h;omega
   subst this
   rfl
theorem Bd {p:List (List Ma)} (hp:Vs p):Mg (dV p) (· = evs p):=by
 have hpl:=hp.1;unfold dV;refine Mg.bind (P:=(· = ev0)) ?_ fun l hl=>Mg.bind (P:=(· = evs p)) ?_ fun v hv => .pure hv
 ·refine Mg.loop (fun s=>∃ n:Nat,n<=3/\s=(ev0.take n,(n:Int))) (fun s=>(3-s.2).toNat) ⟨0,by omega,rfl⟩ fun s ⟨n,h1,h2⟩ => ?_;subst h2;unfold iV;refine .bifD (fun h=>?_) fun h => .pure ?_
  ·match n,h1,h with
   | 0,_,_=>exact .gdC (by decide) rfl (.gdI (by decide) (.pure ⟨⟨1,by omega,rfl⟩,by decide⟩))
   | 1,_,_=>exact .gdC (by decide) rfl (.gdI (by decide) (.pure ⟨⟨2,by omega,rfl⟩,by decide⟩))
   | 2,_,_=>exact .gdC (by decide) rfl (.gdI (by decide) (.pure ⟨⟨3,by omega,rfl⟩,by decide⟩))
   | 3,_,h=>exact absurd h (by decide)
  ·have : n=3:=by simp only [] at h;omega
   subst this
   rfl
 ·subst hl;refine Mg.loop (fun s=>∃ n:Nat,n<=p.length/\s=(evP p n,(n:Int))) (fun s=>((p.length:Int)-s.2).toNat) ⟨0,by omega,rfl⟩ fun s ⟨n,h1,h2⟩ => ?_;subst h2;unfold iy;refine .bifD (fun h=>?_) fun h => .pure ?_
  ·have hlen:=yB hp n;have hrow:=hp.2 n;simp only [] at h;refine Mg.bind (P:=(· = evP p (n+1))) ?_ fun v hv => .gdI (by simp only [];omega) (.pure ⟨⟨n+1,by omega,by rw [hv];rfl⟩,by simp only [];omega⟩);refine Mg.loop (fun t=>∃ k:Nat,k<=(p.getD n default).length/\t=(evP p n++Mh n (p.getD n default) k,(k:Int))) (fun t=>(((p.getD n default).length:Int)-t.2).toNat) ⟨0,by omega,by simp [Mh]⟩ fun t ⟨k,k1,k2⟩ => ?_;subst k2;unfold iw;simp only [tnn];refine .gdD ⟨by omega,h⟩ (.bifD (fun hk=>?_) fun hk => .pure ?_)
   ·have hl2:=yA n (p.getD n default) k;refine Mg.bind (P:=(· = evP p n++Mh n (p.getD n default) (k+1))) (.gdD ⟨by omega,hk⟩ ?_) fun v hv => .gdI (by omega) (.pure ⟨⟨k+1,by omega,by rw [hv];rfl⟩,by simp only [];omega⟩);refine .bif (fun ho=>?_) fun ho => .pure ?_
    ·refine (Kl _).bind fun a ha=>(Jc _).bind fun b hb => .gdC (by simp only [lla];omega) rfl (.pure ?_);have h4 : ¬ ((p.getD n default).getD k default).Op=4:=by simpa using ho
     subst ha hb;simp only [Mh,evI,if_neg h4,List.append_assoc]
    ·have h4:((p.getD n default).getD k default).Op=4:=by simpa using ho
     simp only [Mh,evI,if_pos h4,List.append_nil]
   ·have : k=(p.getD n default).length:=by omega
    subst this
    rfl
  ·have : n=p.length:=by simp only [] at h;omega
   subst this
   rfl
theorem Ld {t:Nat} {row:List Ma} {n:Nat} {e:Mc} (h:e∈Mh t row n):∃ k:Nat,k<n/\e.Thread=t/\e.Index=k:=by
 induction n with
 | zero=>simp [Mh] at h
 | succ n ih=>
  simp only [Mh,List.mem_append] at h;rcases h with h | h
  ·obtain ⟨k,h1,h2⟩:=ih h;exact ⟨k,by omega,h2⟩
  ·unfold evI at h
   split at h
   ·simp at h
   ·rw [List.mem_singleton] at h;subst h;exact ⟨n,by omega,rfl,rfl⟩
theorem bP {l:LI} {i j:Nat} {v:Int} (hj:i<l.length):(l.set i v).getD j default=if j=i then v else l.getD j default:=by
 rw [gdq,List.getElem?_set]
 by_cases e:i=j
 ·subst e;rw [if_pos rfl,if_pos hj,if_pos rfl]
  rfl
 ·rw [if_neg e,if_neg (Ne.symm e),gdq]
theorem oJ {l:LI} {i:Nat} (h:i<l.length):l.getD i default∈l:=by
 rw [gdq,geq h];exact List.getElem_mem _
theorem Co {l:LI} {P:Int->Prop} (h:∀ v∈l,P v) {i:Nat} {x:Int} (hx:P x):∀ v∈l.set i x,P v:=fun v hv=>by
 rcases List.mem_or_eq_of_mem_set hv with hv | rfl
 ·exact h v hv
 ·exact hx
structure Rel (p:List (List Ma)) (u:Md) (z:ZSt):Prop where
 up:u.p=p
 al:z.at_.length=p.length
 a:∀ i:Nat,i<p.length->z.at_.getD i default=Z3b.get u.pc i
 al1:∀ i:Nat,i<p.length->0<=z.at_.getD i default/\z.at_.getD i default<=((p.getD i default).length:Int)
 rl:z.regs.length=3*p.length
 r:∀ t g:Nat,t<p.length->g<3->z.regs.getD (3*t+g) default=Z3b.get (Z33.get u.reg t) g
 rv:∀ v∈z.regs,0<=v/\v<=3
 ml:z.mem.length=3
 m:∀ l:Nat,l<3->z.mem.getD l default=Z3b.get u.mem l
 mv:∀ v∈z.mem,0<=v/\v<=3
 b:z.buf=[]
section
variable {p:List (List Ma)} {u:Md} {z:ZSt}
theorem Rel.regv (h:Rel p u z) {t g:Nat} (ht:t<p.length) (hg:g<3):0<=Z3b.get (Z33.get u.reg t) g/\Z3b.get (Z33.get u.reg t) g<=3:=by
 rw [<- h.r t g ht hg];exact h.rv _ (oJ (by rw [h.rl];omega))
theorem Rel.memv (h:Rel p u z) {l:Nat} (hl:l<3):0<=Z3b.get u.mem l/\Z3b.get u.mem l<=3:=by
 rw [<- h.m l hl];exact h.mv _ (oJ (by rw [h.ml];omega))
def Je (z:ZSt) (t:Int) (x:Ma):Int:=if x.Op=3 then z.regs.getD (t*3+x.Reg).toNat default else x.Val
def Jf (z:ZSt) (t:Int) (x:Ma):ZSt:=
 ⟨z.at_.set t.toNat (z.at_.getD t.toNat default+1),if rdX x=true then z.regs.set (t*3+x.Reg).toNat (z.mem.getD x.Loc.toNat default) else z.regs,if wrX x=true then z.mem.set x.Loc.toNat (Je z t x) else z.mem,[]⟩
theorem Rel.after (hp:PV p) (h:Rel p u z) {t:Int} (ht:0<=t/\t<(p.length:Int)) (hlt:z.at_.getD t.toNat default<((p.getD t.toNat default).length:Int)) {x:Ma} (hx:InR x):Rel p (EY u t x) (Jf z t x):=by
 have hl:=hp.vs.1;obtain ⟨n,rfl⟩:∃ n:Nat,t=n:=⟨t.toNat,by omega⟩;simp only [tnn] at hlt;have hn:n<p.length:=by omega
 obtain ⟨x1,x2,x3,x4,x5,x6⟩:=hx;obtain ⟨l,hlx⟩:∃ l:Nat,x.Loc=l:=⟨x.Loc.toNat,by omega⟩;obtain ⟨g,hgx⟩:∃ g:Nat,x.Reg=g:=⟨x.Reg.toNat,by omega⟩;have e3:((n:Int)*3+(g:Int)).toNat=3*n+g:=by omega
 have hval:Gt u n x=Je z n x:=by
  unfold Gt Je
  split
  ·rw [hgx,e3,h.r n g hn (by omega)]
  ·rfl
 have hvv:0<=Je z n x/\Je z n x<=3:=by
  rw [<- hval];unfold Gt
  split
  ·rw [hgx];exact h.regv hn (by omega)
  ·omega
 unfold EY Jf;simp only [tnn];refine ⟨h.up,by simp only [List.length_set];exact h.al,fun i hi=>?_,fun i hi=>?_,?_,fun t' g' ht' hg' => ?_,?_,?_,fun l' hl' => ?_,?_,rfl⟩
 ·simp only [];rw [bP (by rw [h.al];exact hn),m7 _ _ _ _ (by omega) (by omega),h.a i hi,h.a n hn]
  by_cases e:i=n
  ·rw [if_pos e,if_pos (by omega)]
  ·rw [if_neg e,if_neg (by omega)]
 ·simp only [];rw [bP (by rw [h.al];exact hn)]
  by_cases e:i=n
  ·subst e;have := h.al1 i hi;rw [if_pos rfl];omega
  ·rw [if_neg e];exact h.al1 i hi
 ·simp only []
  split
  ·rw [List.length_set];exact h.rl
  ·exact h.rl
 ·simp only []
  split
  ·rw [hlx,hgx,e3,tnn,bP (by rw [h.rl];omega),zI _ _ _ _ (by omega) (by omega)]
   by_cases e:t'=n
   ·subst e;rw [if_pos rfl,m7 _ _ _ _ (by omega) (by omega)]
    by_cases e2:g'=g
    ·subst e2;rw [if_pos rfl,if_pos rfl,h.m l (by omega)]
    ·rw [if_neg (by omega),if_neg (by omega)];exact h.r t' g' ht' hg'
   ·rw [if_neg (by omega),if_neg (by omega)];exact h.r t' g' ht' hg'
  ·exact h.r t' g' ht' hg'
 ·simp only []
  split
  ·refine Co h.rv ?_;rw [hlx,tnn,h.m l (by omega)];exact h.memv (by omega)
  ·exact h.rv
 ·simp only []
  split
  ·rw [List.length_set];exact h.ml
  ·exact h.ml
 ·simp only []
  split
  ·rw [hlx,tnn,bP (by rw [h.ml];omega),m7 _ _ _ _ (by omega) (by omega),hval]
   by_cases e:l'=l
   ·rw [if_pos e,if_pos (by omega)]
   ·rw [if_neg e,if_neg (by omega)];exact h.m l' hl'
  ·exact h.m l' hl'
 ·simp only []
  split
  ·exact Co h.mv hvv
  ·exact h.mv
def Good (p:List (List Ma)) (s:LI) (n:Nat):Prop:=∀ j,j<n->(0<=s.getD j default/\s.getD j default<(p.length:Int))/\(s.take j).count (s.getD j default)<(p.getD (s.getD j default).toNat default).length
theorem sI {s:LI} {i:Nat} (h:i<s.length) (v:Int):(s.take (i+1)).count v=(s.take i).count v+if s.getD i default=v then 1 else 0:=by
 have e:s.getD i default=s[i]:=by rw [gdq,geq h];rfl
 rw [<- List.take_append_getElem h,List.count_append,List.count_singleton,e];simp only [beq_iff_eq]
end
section
variable {p:List (List Ma)} {u:Md} {z:ZSt}
def zR (p:List (List Ma)) (s:LI) (z0:ZSt):Nat->ZSt
 | 0=>z0
 | i+1=>Jf (zR p s z0 i) (s.getD i default) ((p.getD (s.getD i default).toNat default).getD ((zR p s z0 i).at_.getD (s.getD i default).toNat default).toNat default)
def u0 (p:List (List Ma)):Md:=⟨p,⟨0,0,0⟩,⟨⟨0,0,0⟩,⟨0,0,0⟩,⟨0,0,0⟩⟩,⟨0,0,0⟩⟩
def Whole (p:List (List Ma)) (s:LI):Prop:=bu (p.map fun r=>r.map jV)=true/\Good p s s.length/\∀ t:Nat,t<p.length->s.count (t:Int)=(p.getD t default).length
end
section
variable {α β W:Type} [Inhabited α]
end
instance:DecidableEq Ma:=fun a b=>decidable_of_iff (a.Op=b.Op/\a.Loc=b.Loc/\a.Reg=b.Reg/\a.Val=b.Val) ⟨fun ⟨h1,h2,h3,h4⟩=>by cases a;cases b;simp only at h1 h2 h3 h4;subst h1 h2 h3 h4;rfl,fun h=>by subst h;exact ⟨rfl,rfl,rfl,rfl⟩⟩
section
variable {p:List (List Ma)}
def base (p:List (List Ma)) (t k:Nat):Nat:=(evP p t).length+(Mh t (p.getD t default) k).length
def num (p:List (List Ma)) (t k:Nat):Int:=if ((p.getD t default).getD k default).Op=4 then -1 else (base p t k:Int)
theorem Fb (t:Nat) (row:List Ma):∀ {n m:Nat},n<=m->Mh t row n <+: Mh t row m:=by
 intro n m h
 induction h with
 | refl=>exact List.prefix_refl _
 | step _ ih=>exact ih.trans (List.prefix_append _ _)
theorem vE (p:List (List Ma)):∀ {n m:Nat},n<=m->evP p n <+: evP p m:=by
 intro n m h
 induction h with
 | refl=>exact List.prefix_refl _
 | step _ ih=>exact ih.trans (List.prefix_append _ _)
theorem Cq {l m:List Mc} (h:l <+: m) {i:Nat} (hi:i<l.length):m.getD i default=l.getD i default/\i<m.length:=by
 obtain ⟨r,rfl⟩:=h;refine ⟨?_,by rw [lla];omega⟩;rw [gdq,gdq,gal hi]
theorem Ip {t k:Nat} (ht:t<p.length) (hk:k<(p.getD t default).length) (ho : ¬ ((p.getD t default).getD k default).Op=4) :
  (evs p).getD (base p t k) default=⟨t,k,((p.getD t default).getD k default).Loc,rdX ((p.getD t default).getD k default),wrX ((p.getD t default).getD k default)⟩/\base p t k<(evs p).length:=by
 have h1:evP p t++(Mh t (p.getD t default) k++[⟨t,k,((p.getD t default).getD k default).Loc,rdX ((p.getD t default).getD k default),wrX ((p.getD t default).getD k default)⟩]) <+: evs p:=by
  refine List.IsPrefix.trans ?_ (vE p (show t+1<=p.length by omega));refine (List.prefix_append_right_inj _).2 ?_;refine List.IsPrefix.trans ?_ (Fb t (p.getD t default) (show k+1<=(p.getD t default).length by omega));show _ <+: Mh t (p.getD t default) k++evI t k ((p.getD t default).getD k default);unfold evI;rw [if_neg ho];exact List.prefix_refl _
 obtain ⟨e1,e2⟩:=Cq h1 (i:=base p t k) (by simp only [base,lla,List.length_singleton];omega);refine ⟨e1.trans ?_,e2⟩;rw [gdq,base,gar (by omega),Nat.add_sub_cancel_left,gar (by omega),Nat.sub_self]
 rfl
def sJ (p:List (List Ma)) (t k:Nat):LI:=if ((p.getD t default).getD k default).Op=4 then [] else [(base p t k:Int)]
def Mi (s:LI) (j:Nat):Nat:=(s.getD j default).toNat
def Mj (s:LI) (j:Nat):Nat:=(s.take j).count (s.getD j default)
def iB (p:List (List Ma)) (s:LI):Nat->LI
 | 0=>[]
 | n+1=>iB p s n++sJ p (Mi s n) (Mj s n)
theorem jH {p:List (List Ma)} (h:Vs p):(evs p).length<=24:=by
 have h1:=yB h p.length;have h2:=h.1;unfold evs;omega
end
section
variable {p:List (List Ma)}
theorem yC (l:LL) (i:Nat):l.getD i default=l.getD i []:=rfl
theorem qW {l:LL} {i j:Nat} {v:LI} (hi:i<l.length):(l.set i v).getD j []=if j=i then v else l.getD j []:=by
 rw [gdq,List.getElem?_set]
 by_cases e:i=j
 ·subst e;rw [if_pos rfl,if_pos hi,if_pos rfl]
  rfl
 ·rw [if_neg e,if_neg (Ne.symm e),gdq]
def yD (p:List (List Ma)) (t k:Nat):LI:=(List.range k).map (num p t)
theorem Fc (t k:Nat):yD p t (k+1)=yD p t k++[num p t k]:=by
 unfold yD;rw [List.range_succ,List.map_append]
 rfl
theorem vF (hp:PV p):Mg (jK p) fun l=>l.length=p.length/\∀ t:Nat,t<p.length->l.getD t []=yD p t (p.getD t default).length:=by
 have hl:=hp.vs.1;unfold jK;refine .gdD (by omega) ?_;refine Mg.bind (P:=fun l=>l.length=p.length/\∀ t:Nat,t<p.length->l.getD t []=yD p t (p.getD t default).length) ?_ fun v hv => .pure hv;refine Mg.loop (fun z=>∃ n:Nat,n<=p.length/\z.2.1=(n:Int)/\z.2.2=((evP p n).length:Int)/\z.1.length=p.length/\∀ t:Nat,t<p.length->z.1.getD t []=if t<n then yD p t (p.getD t default).length else []) (fun z=>((p.length:Int)-z.2.1).toNat) ⟨0,by omega,rfl,rfl,by simp,fun t ht=>?_⟩ fun z ⟨n,h1,h2,h3,h4,h5⟩ => ?_
 ·simp only [];rw [if_neg (by omega),gdq,List.getElem?_replicate]
  split <;> rfl
 ·obtain ⟨l,i,c⟩:=z;simp only at h2 h3 h4 h5;subst h2 h3;unfold iU;refine .bifD (fun hk=>?_) fun hk => .pure ?_
  ·simp only [] at hk;have hn:n<p.length:=by omega
   have hrow:=hp.vs.2 n;have hlen:=yB hp.vs n;refine Mg.bind (P:=fun y=>y.2=((evP p (n+1)).length:Int)/\y.1.length=p.length/\∀ t:Nat,t<p.length->y.1.getD t []=if t<n+1 then yD p t (p.getD t default).length else []) (.gdD ⟨by simp only [];omega,hk⟩ ?_) fun v ⟨v1,v2,v3⟩ => .gdI (by simp only [];omega) (.pure ⟨⟨n+1,by omega,rfl,v1,v2,v3⟩,by simp only [];omega⟩);refine Mg.loop (fun y=>∃ k:Nat,k<=(p.getD n default).length/\y.2.1=(k:Int)/\y.2.2=(base p n k:Int)/\y.1.length=p.length/\∀ t:Nat,t<p.length->y.1.getD t []=if t<n then yD p t (p.getD t default).length else if t=n then yD p t k else []) (fun y=>(((p.getD n default).length:Int)-y.2.1).toNat) ⟨0,by omega,rfl,by simp [base,Mh],h4,fun t ht=>?_⟩ fun y ⟨k,k1,k2,k3,k4,k5⟩ => ?_
   ·rw [h5 t ht]
    by_cases e:t<n
    ·rw [if_pos e,if_pos e]
    ·rw [if_neg e,if_neg e]
     split <;> rfl
   ·obtain ⟨l',i',c'⟩:=y;simp only at k2 k3 k4 k5;subst k2 k3;unfold iT;simp only [tnn];refine .bifD (fun hkk=>?_) fun hkk => .pure ?_
    ·have hR:=yA n (p.getD n default) k;have hb:base p n k<=31:=by unfold base;omega
     have hrn:=k5 n hn;rw [if_neg (Nat.lt_irrefl n),if_pos rfl] at hrn;have hrl:(yD p n k).length=k:=by simp [yD]
     have hfin:∀ (v:Int),v=num p n k->∀ t:Nat,t<p.length->(l'.set n (yD p n k++[v])).getD t []=if t<n then yD p t (p.getD t default).length else if t=n then yD p t (k+1) else []:=fun v hv t ht=>by
      rw [qW (by omega)]
      by_cases e:t=n
      ·subst e;rw [if_pos rfl,if_neg (Nat.lt_irrefl t),if_pos rfl,Fc,hv]
      ·rw [if_neg e,k5 t ht]
       by_cases e2:t<n
       ·rw [if_pos e2,if_pos e2]
       ·rw [if_neg e2,if_neg e2,if_neg e,if_neg e]
     refine Mg.bind (P:=fun y=>y.2=(base p n (k+1):Int)/\y.1.length=p.length/\∀ t:Nat,t<p.length->y.1.getD t []=if t<n then yD p t (p.getD t default).length else if t=n then yD p t (k+1) else []) (.gdD ⟨by omega,hkk⟩ (.bif (fun ho=>?_) fun ho=>?_)) fun v ⟨v1,v2,v3⟩ => .gdI (by omega) (.pure ⟨⟨k+1,by omega,rfl,v1,v2,v3⟩,by simp only [];omega⟩)
     ·have ho:((p.getD n default).getD k default).Op=4:=by simpa using ho
      refine .gdD ⟨by omega,by omega⟩ (.gd (aC (by rw [hrn,hrl];omega) rfl) (.pure ⟨?_,by simp only [List.length_set];exact k4,?_⟩))
      ·simp only [base,Mh,evI,if_pos ho,List.append_nil]
      ·rw [hrn];exact hfin _ (by rw [num,if_pos ho])
     ·have ho : ¬ ((p.getD n default).getD k default).Op=4:=by simpa using ho
      refine .gdD ⟨by omega,by omega⟩ (.gd (aC (by rw [hrn,hrl];omega) rfl) (.gdI (by omega) (.pure ⟨?_,by simp only [List.length_set];exact k4,?_⟩)))
      ·simp only [base,Mh,evI,if_neg ho,lla,List.length_singleton];omega
      ·rw [hrn];exact hfin _ (by rw [num,if_neg ho])
    ·have : k=(p.getD n default).length:=by omega
     subst this;refine ⟨?_,k4,fun t ht=>?_⟩
     ·simp only [base,evP,lla]
     ·simp only [];rw [k5 t ht]
      by_cases e:t=n
      ·subst e;rw [if_neg (Nat.lt_irrefl t),if_pos rfl,if_pos (by omega)]
      ·by_cases e2:t<n
       ·rw [if_pos e2,if_pos (by omega)]
       ·rw [if_neg e2,if_neg e,if_neg (by omega)]
  ·simp only [] at hk;have : n=p.length:=by omega
   subst this;refine ⟨h4,fun t ht=>?_⟩;rw [h5 t ht,if_pos ht]
abbrev XS:=List Int×LL
def stX (p:List (List Ma)) (st:XS) (n:Int):XS:=
  (if ((evs p).getD n.toNat default).Reads=true then st.1.set n.toNat ((st.2.getD ((evs p).getD n.toNat default).Loc.toNat []).getD (((st.2.getD ((evs p).getD n.toNat default).Loc.toNat []).length:Int)-1).toNat default) else st.1,
   st.2.set ((evs p).getD n.toNat default).Loc.toNat (if ((evs p).getD n.toNat default).Writes=true then st.2.getD ((evs p).getD n.toNat default).Loc.toNat []++[n] else st.2.getD ((evs p).getD n.toNat default).Loc.toNat []))
def x0 (p:List (List Ma)):XS:=(List.replicate (evs p).length (-1),[[0],[1],[2]])
def qX (p:List (List Ma)) (l:LI):XS:=l.foldl (stX p) (x0 p)
theorem vG (l:LI) (n:Int):qX p (l++[n])=stX p (qX p l) n:=by
 unfold qX;rw [List.foldl_append]
 rfl
def OkN (p:List (List Ma)) (n:Int):Prop:=(0<=n/\n<((evs p).length:Int))/\0<=((evs p).getD n.toNat default).Loc/\((evs p).getD n.toNat default).Loc<=2
structure InX (p:List (List Ma)) (m:Nat) (st:XS):Prop where
 f:st.1.length=(evs p).length
 o:st.2.length=3
 r:∀ i:Nat,i<3->1<=(st.2.getD i []).length/\(st.2.getD i []).length<=m+1
theorem InX.x0:InX p 0 (x0 p):=⟨by simp [YtlmjnhnpahicmaaGreat.x0],rfl,fun i hi=>by
 match i,hi with
 | 0,_=>exact ⟨Nat.le_refl 1,Nat.le_refl 1⟩
 | 1,_=>exact ⟨Nat.le_refl 1,Nat.le_refl 1⟩
 | 2,_=>exact ⟨Nat.le_refl 1,Nat.le_refl 1⟩⟩
theorem InX.step {m:Nat} {st:XS} {n:Int} (h:InX p m st) (hn:OkN p n):InX p (m+1) (stX p st n):=by
 obtain ⟨_,h2,h3⟩:=hn;unfold stX;refine ⟨?_,by simp only [List.length_set];exact h.o,fun i hi=>?_⟩
 ·simp only []
  split
  ·rw [List.length_set];exact h.f
  ·exact h.f
 ·simp only [];rw [qW (by rw [h.o];omega)];have hr:=h.r ((evs p).getD n.toNat default).Loc.toNat (by omega);have hi':=h.r i hi
  split
  ·split
   ·simp only [lla,List.length_singleton];omega
   ·omega
  ·omega
theorem InX.runs:∀ {l:LI} {m:Nat} {st:XS},InX p m st->(∀ n∈l,OkN p n)->InX p (m+l.length) (l.foldl (stX p) st)
 | [],_,_,h,_=>h
 | n::l,m,st,h,k=>by
  have := InX.runs (h.step (k n (List.mem_cons_self))) fun x hx=>k x (List.mem_cons_of_mem _ hx);rw [llc,show m+(l.length+1)=m+1+l.length by omega];exact this
theorem InX.run {l:LI} (h:∀ n∈l,OkN p n):InX p l.length (qX p l):=by
 have := InX.runs InX.x0 h
 rwa [Nat.zero_add] at this
theorem step_ok (hp:PV p) {t k:Nat} (ht:t<p.length) (hk:k<(p.getD t default).length):∀ n∈sJ p t k,OkN p n:=by
 intro n hn;unfold sJ at hn
 split at hn
 ·simp at hn
 ·rename_i ho;rw [List.mem_singleton] at hn;subst hn;obtain ⟨e1,e2⟩:=Ip ht hk ho;have hx:=hp.ins t k ht hk;refine ⟨by omega,?_⟩;rw [tnn,e1];exact ⟨hx.1,hx.2.1⟩
theorem Be {s:LI} (hg:Good p s s.length) {j:Nat} (hj:j<s.length):Mi s j<p.length/\((Mi s j:Nat):Int)=s.getD j default/\Mj s j<(p.getD (Mi s j) default).length:=by
 obtain ⟨g1,g2⟩:=hg j hj;unfold Mi Mj;exact ⟨by omega,by omega,g2⟩
theorem Cr (hp:PV p) {s:LI} (hg:Good p s s.length):∀ {n:Nat},n<=s.length->∀ m∈iB p s n,OkN p m:=by
 intro n
 induction n with
 | zero=>intro _ m hm;simp [iB] at hm
 | succ n ih=>
  intro hn m hm;simp only [iB,List.mem_append] at hm;rcases hm with hm | hm
  ·exact ih (by omega) m hm
  ·obtain ⟨h1,_,h3⟩:=Be hg (j:=n) (by omega);exact step_ok hp h1 h3 m hm
theorem Fe (a:Z3i) (q i v:Int) (hq:0<=q/\q<=2) (hi:0<=i/\i<=2):Z3i.get (Z3i.set a q v) i=if i=q then v else Z3i.get a i:=by
 obtain ⟨x,y,z⟩:=a;have h1:q=0\/q=1\/q=2:=by omega
 have h2:i=0\/i=1\/i=2:=by omega
 rcases h1 with rfl | rfl | rfl <;> rcases h2 with rfl | rfl | rfl <;> rfl
end
def same (a b:Mb):Bool:=decide (a.From=b.From)&&decide (a.Order=b.Order)
end
end Go.Proofs.YtlmjnhnpahicmaaGreat
