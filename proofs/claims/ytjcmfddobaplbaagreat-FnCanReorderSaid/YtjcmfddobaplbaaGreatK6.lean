/- Texts joined. No conditions. -/
import Derived.Test.YtjcmfddobaplbaaGreatK5
namespace Go.Proofs.YtjcmfddobaplbaaGreat
noncomputable section
open _root_.Int renaming le_refl -> Kw, toNat_of_nonneg -> Lg, mul_tdiv_add_tmod -> Lh
open _root_.List renaming range -> Ky, mem_cons_self -> Kz, mem_flatMap -> KA, mem_cons -> KD, isEmpty_iff -> KE, not_mem_nil -> KG, mem_singleton -> KI, getElem_mem -> KJ, mem_append -> KL, mem_map -> KM, mem_range -> KN, take_add_one -> KO, range_succ -> KQ, flatMap_cons -> KR, getElem_of_mem -> KS, append_assoc -> KV, map_append -> KW, map_congr_left -> KX, map_cons -> KY, all_eq_true -> K3, map_map -> K6, map_id -> K7, mem_cons_of_mem -> K8, isEmpty_eq_false_iff -> K9, take_length -> La, replicate -> Lb, getElem?_set_ne -> Lc, mem_filter -> Ld, flatMap_append -> Lf, mem_of_getElem? -> Li, eq_nil_of_length_eq_zero -> Lj, length_singleton -> Ll, cons_append -> Lm, filter_cons_of_pos -> Lp, filter_cons_of_neg -> Lr, length_filter_le -> Ls, map_eq_nil_iff -> Lv, mem_or_eq_of_mem_set -> Lx, mem_of_mem_drop -> Ly, exists_cons_of_ne_nil -> LA, eq_nil_iff_forall_not_mem -> LC, length_pos_iff -> LD
open _root_.Nat renaming le_trans -> KC, zero_le -> KP, lt_or_ge -> KT, le_refl -> KU, mul_le_mul_right -> KZ, pow_le_pow_right -> Lu
open _root_.Option renaming bind -> KH, getD_some -> K4
open _root_.BitVec renaming ofInt -> K5
open Go.RowKit
set_option maxRecDepth 100000
def ltL (x y:LI):Prop:=cmpL x y<0
theorem Ed {x y:LI}:leL x y=true↔ltL x y\/x=y:=by
 unfold leL ltL;rw [dte];rcases mO x y with h | h | h
 ·exact ⟨λ_ => .inl h,λ_=>by have := mM x y;omega⟩
 ·exact ⟨λ_ => .inr h,λ_=>by rw [h,l5];decide⟩
 refine ⟨λg=>absurd h g,λg=>?_⟩;rcases g with g | g
 ·have := mM x y;omega
 rw [g,l5] at h;exact absurd h (by decide)
structure Sor (l q:List (List Int)):Prop where
 lt:q.Pairwise ltL
 mem:∀ o,o∈q↔o∈l
 len:q.length<=l.length
theorem yj {l c:LL} {n:Nat} (hs:l.Pairwise λx y=>leL x y=true) (h:c.Pairwise ltL) (hm:∀ o,o∈c↔o∈l.take n) (h0:0<n) (hn:n<l.length) (hne:l.getD n default≠l.getD (n-1) default) :
  (c++[l.getD n default]).Pairwise ltL/\∀ o,o∈c++[l.getD n default]↔o∈l.take (n+1):=by
 have e1:l.getD n default=l[n]:=by simp [hn]
 have e2:l.getD (n-1) default=l[n-1]:=by simp [List.getD,show n-1<l.length by omega]
 rw [e1] at hne ⊢;rw [e2] at hne;have hp:=List.pairwise_iff_getElem.1 hs;refine ⟨List.pairwise_append.2 ⟨h,by simp,λy hy x hx=>?_⟩,λo=>?_⟩
 ·rw [KI.1 hx];obtain ⟨j,hj,rfl⟩:=KS<|(hm y).1 hy;have hjn:j<n:=Nat.lt_of_lt_of_le (show j<min n l.length by simpa using hj)<|Nat.min_le_left _ _;rw [List.getElem_take];rcases Ed.1 (hp j n (by omega) hn hjn) with g | g
  ·exact g
  exfalso;apply hne
  by_cases hj1:j=n-1
  ·subst hj1;exact g.symm
  exact yd _ _ (g ▸ hp j (n-1) (by omega) (by omega) (by omega))<|hp (n-1) n (by omega) hn (by omega)
 rw [KL,hm,KO,KL,geq hn];simp
theorem yl {l:LL} {n:Nat} (h0:0<n) (hn:n<l.length) (he:l.getD n default=l.getD (n-1) default) (o:LI):o∈l.take (n+1)↔o∈l.take n:=by
 have e1:l.getD n default=l[n]:=by simp [hn]
 have e2:l.getD (n-1) default=l[n-1]:=by simp [List.getD,show n-1<l.length by omega]
 rw [e1,e2] at he;rw [KO,KL,geq hn];refine ⟨λh=>h.elim id λh=>?_,.inl⟩;have : o=l[n-1]:=by simpa [he] using h
 rw [this];exact List.mem_iff_getElem.2 ⟨n-1,by simp;omega,by simp⟩
theorem Be (a b:LI) (ha:a.length<=1048576):G7 (cO a b) (· = decide (a=b)):=by
 unfold cO;refine .bif (λh => .pure ?_) λh=>?_
 ·have h:a.length≠b.length:=by
   intro e;rw [e] at h;simp at h
  rw [decide_eq_false (λe=>h<|by rw [e])]
 have h:a.length=b.length:=by
  have : (a.length:Int)=(b.length:Int):=by simpa using h
  omega
 refine G7.sum (PS:=λ_=>a=b) (PW:=λv=>v=decide (a=b)) ?_ λ_ he => .pure (by rw [decide_eq_true he]);refine G7.loop (λi=>0<=i/\i<=(a.length:Int)/\∀ j:Nat,(j:Int)<i->a[j]? = b[j]?) (λi=>((a.length:Int)-i).toNat) ⟨Kw _,by omega,λj hj=>absurd hj<|by omega⟩ λi ⟨h1,h2,h3⟩ => ?_;unfold fK;refine .bifD (λhlt => .gdD ⟨h1,hlt⟩<|.gdD ⟨h1,by omega⟩ ?_) λhge => .pure ?_
 ·have hi:i.toNat<a.length:=by omega
  have hib:i.toNat<b.length:=by omega
  have ea:a.getD i.toNat default=a[i.toNat]:=by simp [hi]
  have eb:b.getD i.toNat default=b[i.toNat]:=by simp [hib]
  rw [ea,eb];refine .bif (λhb => .pure ?_) λhb => .gdI (by omega)<|.pure ⟨⟨by omega,by omega,λj hj=>?_⟩,by omega⟩
  ·simp only [bne_iff_ne] at hb;have : a≠b:=λe=>hb (by simp [e]);simp only [];rw [decide_eq_false this]
  by_cases ej:j=i.toNat
  ·subst ej;rw [geq hi,geq hib];have : a[i.toNat]=b[i.toNat]:=by simpa using hb
   rw [this]
  exact h3 j (by omega)
 simp only [];apply List.ext_getElem?;intro j;rcases KT j a.length with g | g
 ·exact h3 j (by omega)
 rw [gen g,gen (by omega)]
theorem Bf (a b:LI) (ha:a.length<=1048576):G7 (bC a b) (· = decide (a=b)):=by
 unfold bC;exact (Be a b ha).bind λv hv => .pure hv
theorem xe {l:LL} (hs:l.Pairwise λx y=>leL x y=true) (hl:l.length<=1099511627776) (hr:∀ r∈l,r.length<=1048576):G7 (az l) (Sor l):=by
 have hrD:∀ n,(l.getD n default).length<=1048576:=λn=>by
  by_cases hn:n<l.length
  ·have : l.getD n default=l[n]:=by simp [hn]
   rw [this];exact hr _<|KJ hn
  rw [gdq,gen (by omega)];exact KP _
 unfold az;refine .bifD (λh => .pure ⟨?_,λ_=>Iff.rfl,KU _⟩) λh=>?_
 ·match l,h with
  | [],_=>exact .nil
  | [x],_=>simp
  | _::_::_,h=>simp at h;omega
 have h2:2<=l.length:=by omega
 refine G7.sum (PS:=λq=>Sor l q) (PW:=λq=>Sor l q) ?_ λq hq => .pure hq;refine G7.loop (λs=>s.1=l/\1<=s.2/\s.2<=(l.length:Int)/\(l.take s.2.toNat).Pairwise ltL) (λs=>((l.length:Int)-s.2).toNat) ⟨rfl,Kw _,by simp only [];omega,?_⟩ λs ⟨e,h1,h3,h4⟩ => ?_
 ·match l,h2 with
  | x::_,_=>simp
 obtain ⟨c,k⟩:=s;simp only at e h1 h3 h4;subst e;unfold aF;simp only [];refine .bifD (λhlt=>?_) λhge => .pure ?_
 rotate_left
 ·have : k.toNat=c.length:=by omega
  rw [this,La] at h4;exact ⟨h4,λ_=>Iff.rfl,KU _⟩
 have hk1:(k-1).toNat=k.toNat-1:=by omega
 refine G7.sum (PS:=λ_=>c.getD k.toNat default≠c.getD (k.toNat-1) default) ?_ λ_ hne => .gdI (by omega)<|.pure ⟨⟨rfl,by simp only [];omega,by simp only [];omega,?_⟩,by simp only [];omega⟩
 rotate_left
 ·have := (yj hs h4 (λ_=>Iff.rfl) (by omega) (by omega) hne).1;simp only [];rw [show (k+1).toNat=k.toNat+1 by omega,KO,geq (by omega)];rw [show c.getD k.toNat default=c[k.toNat]'(by omega) by simp [show k.toNat<c.length by omega]] at this;simpa using this
 refine .gdD ⟨by omega,hlt⟩<|.gdI (by omega)<|.gdD ⟨by omega,by omega⟩<|(Bf _ _<|hrD _).bind λv hv=>?_;subst hv;rw [hk1];refine .bifD (λhe=>?_) λhne => .pure hne;refine .gdD ⟨by omega,by omega,Kw _⟩ ?_;refine G7.bind (P:=λz=>(k<=z.2/\z.2<=(c.length:Int))/\z.1.length=c.length/\(z.1.take z.2.toNat).Pairwise ltL/\∀ o,o∈z.1.take z.2.toNat↔o∈c) ?_ λz ⟨⟨z1,z2⟩,z3,z4,z5⟩ => .gdD ⟨by omega,by omega,Kw _⟩<|.gdD ⟨Kw _,by omega,by omega⟩<|.pure ?_
 rotate_left
 ·have e1:(((cpy z.1 (0+z.2.toNat) (Lb ((z.1.length:Int).toNat-z.2.toNat) (default:LI))<|(z.1.length:Int).toNat-z.2.toNat).drop (0:Int).toNat).take<|z.2.toNat-(0:Int).toNat)=z.1.take z.2.toNat:=by
   simp only [cpy,Nat.zero_add,show (0:Int).toNat=0 from rfl,List.drop_zero,Nat.sub_zero];rw [if_pos (by omega),KV,List.take_append_of_le_length (by rw [List.length_take];omega),List.take_take,Nat.min_self]
  simp only [];rw [e1];exact ⟨z4,z5,by simp;omega⟩
 refine G7.loop (λs=>(1<=s.2.1/\k+s.2.1<=(c.length:Int))/\(k<=s.2.2/\s.2.2<=k+s.2.1-1)/\s.1.length=c.length/\(∀ j:Nat,k+s.2.1-1<=(j:Int)->s.1[j]? = c[j]?)/\(s.1.take s.2.2.toNat).Pairwise ltL/\∀ o,o∈s.1.take s.2.2.toNat↔o∈c.take (k+s.2.1).toNat) (λs=>((c.length:Int)-k-s.2.1).toNat) ⟨⟨Kw _,by simp only [];omega⟩,⟨Kw _,by simp only [];omega⟩,rfl,λ_ _=>rfl,h4,λo=>?_⟩ λs ⟨⟨a1,a2⟩,⟨a3,a4⟩,a5,a6,a7,a8⟩ => ?_
 ·simp only [];rw [show (k+1).toNat=k.toNat+1 by omega];exact (yl (by omega) (by omega) he o).symm
 obtain ⟨d,k2,kk⟩:=s;simp only at a1 a2 a3 a4 a5 a6 a7 a8;unfold aD;simp only [];have hz:((((c.length:Int).toNat-k.toNat:Nat)):Int)=(c.length:Int)-k:=by omega
 rw [hz];refine .bifD (λhlt2=>?_) λhge => .pure ⟨⟨a3,by simp only [];omega⟩,a5,a7,λo=>?_⟩
 rotate_left
 ·rw [a8,show (k+k2).toNat=c.length by omega,La]
 have g1:d.getD (0+k.toNat+k2.toNat) default=c.getD (k+k2).toNat default:=by
  rw [gdq,gdq,a6 _ (by omega),show 0+k.toNat+k2.toNat=(k+k2).toNat by omega]
 have g2:d.getD (0+k.toNat+(k2-1).toNat) default=c.getD ((k+k2).toNat-1) default:=by
  rw [gdq,gdq,a6 _ (by omega),show 0+k.toNat+(k2-1).toNat=(k+k2).toNat-1 by omega]
 have hn1:(k+(k2+1)).toNat=(k+k2).toNat+1:=by omega
 refine G7.bind (P:=λz=>(k<=z.2/\z.2<=k+k2)/\z.1.length=c.length/\(∀ j:Nat,k+k2<=(j:Int)->z.1[j]? = c[j]?)/\(z.1.take z.2.toNat).Pairwise ltL/\∀ o,o∈z.1.take z.2.toNat↔o∈c.take ((k+k2).toNat+1)) ?_ λz ⟨⟨z1,z2⟩,z3,z4,z5,z6⟩ => .gdI (by omega)<|.pure ⟨⟨⟨by simp only [];omega,by simp only [];omega⟩,⟨z1,by simp only [];omega⟩,z3,λj hj=>z4 j (by simp only [] at hj;omega),z5,by simp only [hn1];exact z6⟩,by simp only [];omega⟩;refine .gdD ⟨⟨by omega,by omega⟩,by omega⟩<|.gdI (by omega)<|.gdD ⟨⟨by omega,by omega⟩,by omega⟩ ?_;rw [g1,g2];refine (Bf _ _<|hrD _).bind λv hv=>?_;subst hv;rw [<- decide_not];refine .bifD (λhne=>?_) λhe2 => .pure ⟨⟨a3,by simp only [];omega⟩,a5,λj hj=>a6 j (by omega),a7,λo=>?_⟩
 ·have hkl:kk.toNat<d.length:=by omega
  refine .gdD ⟨by omega,by omega⟩<|.gdI (by omega)<|.pure ⟨⟨by simp only [];omega,by simp only [];omega⟩,by simp [a5],λj hj=>?_,?_⟩
  ·simp only [];rw [Lc (by omega)];exact a6 j (by omega)
  have e:(d.set kk.toNat<|c.getD (k+k2).toNat default).take (kk+1).toNat=d.take kk.toNat++[c.getD (k+k2).toNat default]:=by
   rw [show (kk+1).toNat=kk.toNat+1 by omega,KO,List.getElem?_set_self hkl,List.take_set_of_le (KU _)]
   rfl
  simp only [];rw [e];exact yj hs a7 a8 (by omega) (by omega) hne
 simp only [];rw [a8];exact (yl (by omega) (by omega) (Decidable.not_not.1 he2) o).symm
theorem uf {l:LL} (hl:l.length<=1099511627776) (hr:∀ r∈l,r.length<=1048576):G7 (aL l) (Sor l):=by
 unfold aL;refine G7.bind (P:=(· = vW l)) ?_ λv hv=>?_
 ·unfold dD;exact .gdD (by omega)<|.pure rfl
 subst hv;have hp:=jl l;refine (xe (rN l) (by rw [hp.length_eq];exact hl) λr h=>hr r<|hp.mem_iff.1 h).bind λv ⟨v1,v2,v3⟩ => .pure ⟨v1,λo=>(v2 o).trans hp.mem_iff,by rw [<- hp.length_eq];exact v3⟩
structure Iv (p:List (List GY)) (u:GZ):Prop where
 up:u.p=p
 pc:∀ t:Nat,t<3->0<=Z3b.get u.pc t/\Z3b.get u.pc t<=((p.getD t default).length:Int)
 rv:∀ t g:Nat,t<3->g<3->0<=Z3b.get (Z33.get u.reg t) g/\Z3b.get (Z33.get u.reg t) g<=3
 mv:∀ l:Nat,l<3->0<=Z3b.get u.mem l/\Z3b.get u.mem l<=3
def xg (u:GZ) (t:Nat):Bool:=decide<|Z3b.get u.pc t<((u.p.getD t default).length:Int)
def zO (u:GZ) (n:Nat):LI:=((Ky n).filter<|xg u).map Int.ofNat
def rQ (u:GZ):LI:=zO u u.p.length
def rR (u:GZ) (t:Int):GY:=(u.p.getD t.toNat default).getD (Z3b.get u.pc t).toNat default
def rS (u:GZ) (n:Nat):LI:=(Ky n).flatMap λt:Nat=>(Ky 3).map λg:Nat=>Z3b.get (Z33.get u.reg t) g
def FW (u:GZ):LI:=(Ky 3).map λl:Nat=>Z3b.get u.mem l
def Bg (u:GZ):LI:=rS u u.p.length++FW u
def keyL (u:GZ):LI:=[u.pc.x0,u.pc.x1,u.pc.x2,u.reg.x0.x0,u.reg.x0.x1,u.reg.x0.x2,u.reg.x1.x0,u.reg.x1.x1,u.reg.x1.x2,u.reg.x2.x0,u.reg.x2.x1,u.reg.x2.x2,u.mem.x0,u.mem.x1,u.mem.x2]
def Fe:Mac G3 where
 mv s:=rQ s.values
 af s t:=⟨Bc s.values t<|rR s.values t⟩
 ky s:=strOfNums<|keyL s.values
 dn s:=(rQ s.values).isEmpty
 oc s:=Bg s.values
section
variable {p:List (List GY)} {u:GZ}
theorem iW {n:Nat} {m:Int}:m∈zO u n↔∃ t:Nat,t<n/\m=t/\xg u t=true:=by
 unfold zO;rw [KM]
 constructor
 ·rintro ⟨t,ht,rfl⟩;rw [Ld,KN] at ht;exact ⟨t,ht.1,rfl,ht.2⟩
 rintro ⟨t,h1,rfl,h2⟩;exact ⟨t,Ld.2 ⟨KN.2 h1,h2⟩,rfl⟩
theorem rT (n:Nat):zO u (n+1)=if xg u n=true then zO u n++[(n:Int)] else zO u n:=by
 unfold zO;rw [KQ,List.filter_append,KW]
 split
 ·rename_i h;rw [Lp h]
  rfl
 rename_i h;rw [Lr h];simp
theorem ym (n:Nat):(zO u n).length<=n:=by
 unfold zO;rw [llm];exact KC (Ls _ _) (by simp)
theorem Bh (hp:PV p) (h:Iv p u) {t:Nat} (ht:t<p.length):G7 (aZ u t) λv=>v.2=xg u t/\(v.2=true->v.1=rR u t):=by
 have hl:=hp.vs.1;have hr:=hp.vs.2 t;have h1:=h.pc t (by omega);unfold aZ xg rR;rw [h.up];simp only [tnn];refine .gdD ⟨by omega,by omega⟩<|.gdI (by omega)<|.gdD ⟨by omega,by omega⟩<|.bifD (λhle => .pure ⟨?_,nofun⟩) λhle => .gdD ⟨h1.1,by omega⟩<|.pure ⟨?_,λ_=>rfl⟩
 ·rw [decide_eq_false (by omega)]
 rw [decide_eq_true (by omega)]
theorem Ff (hp:PV p) (h:Iv p u):G7 (cZ ⟨u⟩) (· = rQ u):=by
 have hl:=hp.vs.1;unfold cZ;refine G7.bind (P:=(· = rQ u)) ?_ λv hv => .pure hv;refine G7.loop (λs=>(0<=s.2/\s.2<=(p.length:Int))/\s.1=zO u s.2.toNat) (λs=>((p.length:Int)-s.2).toNat) ⟨⟨Kw _,by simp only [];omega⟩,rfl⟩ λs ⟨⟨h1,h2⟩,h3⟩ => ?_;unfold f9;simp only [h.up];refine .bifD (λhlt=>?_) λhge => .pure ?_
 ·obtain ⟨l,i⟩:=s;simp only at h1 h2 h3 hlt;obtain ⟨n,rfl⟩:∃ n:Nat,i=n:=⟨i.toNat,by omega⟩;simp only [tnn] at h3;subst h3;have hln:=ym (u:=u) n;refine G7.bind (P:=(· = zO u (n+1))) ?_ λv hv => .gdI (by omega)<|.pure ⟨⟨⟨by simp only [];omega,by simp only [];omega⟩,hv⟩,by simp only [];omega⟩;refine (Bh hp h<|by omega).bind λv ⟨e1,_⟩ => .bif (λhb => .gd (il (by simp only [];omega) rfl)<|.pure ?_) λhb => .pure ?_
  ·rw [rT,if_pos (by rw [<- e1,hb])]
  rw [rT,if_neg (by rw [<- e1,hb];decide)]
 rw [h3];unfold rQ;rw [h.up,show s.2.toNat=p.length by omega]
theorem Fg (hp:PV p) (h:Iv p u):G7 (bV ⟨u⟩) (· = (rQ u).isEmpty):=by
 have hl:=hp.vs.1;unfold bV;refine G7.bind (P:=(· = (rQ u).isEmpty)) ?_ λv hv => .pure hv;unfold aW;refine G7.sum (PS:=λ_=>rQ u=[]) (PW:=(· = (rQ u).isEmpty)) ?_ λ_ hn => .pure (by rw [hn];rfl);refine G7.loop (λi=>(0<=i/\i<=(p.length:Int))/\zO u i.toNat=[]) (λi=>((p.length:Int)-i).toNat) ⟨⟨Kw _,by omega⟩,rfl⟩ λi ⟨⟨h1,h2⟩,h3⟩ => ?_;unfold gq;simp only [h.up];refine .bifD (λhlt=>?_) λhge => .pure ?_
 ·obtain ⟨n,rfl⟩:∃ n:Nat,i=n:=⟨i.toNat,by omega⟩;simp only [tnn] at h3;refine (Bh hp h<|by omega).bind λv ⟨e1,_⟩ => .bif (λhb => .pure ?_) λhb => .gdI (by omega)<|.pure ⟨⟨⟨by omega,by omega⟩,?_⟩,by omega⟩
  ·have hm:(n:Int)∈rQ u:=iW.2 ⟨n,by rw [h.up];omega,rfl,by rw [<- e1,hb]⟩
   cases e:rQ u with
   | nil=>rw [e] at hm;cases hm
   | cons a l=>rfl
  rw [show ((n:Int)+1).toNat=n+1 by omega,rT,if_neg (by rw [<- e1,hb];decide),h3]
 simp only [];unfold rQ;rw [h.up,<- show i.toNat=p.length by omega,h3]
theorem ug (n:Nat):rS u (n+1)=rS u n++(Ky 3).map λg:Nat=>Z3b.get (Z33.get u.reg n) g:=by
 unfold rS;rw [show Ky (n+1)=Ky n++[n] from KQ,Lf];simp
theorem rU (n:Nat):(rS u n).length=3*n:=by
 induction n with
 | zero=>rfl
 | succ n ih=>rw [ug,lla,ih];simp;omega
theorem yn (hp:PV p) (h:Iv p u):G7 (aK u) (· = Bg u):=by
 have hl:=hp.vs.1;unfold aK;refine G7.bind (P:=(· = rS u p.length)) ?_ λv hv=>?_
 ·refine G7.loop (λs=>(0<=s.2/\s.2<=(p.length:Int))/\s.1=rS u s.2.toNat) (λs=>((p.length:Int)-s.2).toNat) ⟨⟨Kw _,by simp only [];omega⟩,rfl⟩ λs ⟨⟨h1,h2⟩,h3⟩ => ?_;unfold dE;simp only [h.up];refine .bifD (λhlt=>?_) λhge => .pure ?_
  ·obtain ⟨l,i⟩:=s;simp only at h1 h2 h3 hlt;obtain ⟨n,rfl⟩:∃ n:Nat,i=n:=⟨i.toNat,by omega⟩;simp only [tnn] at h3;subst h3;have hln:=rU (u:=u) n;refine G7.bind (P:=(· = rS u (n+1))) ?_ λv hv => .gdI (by omega)<|.pure ⟨⟨⟨by simp only [];omega,by simp only [];omega⟩,hv⟩,by simp only [];omega⟩;refine .gdD ⟨by omega,by omega⟩<|G7.loop (λs=>(0<=s.2/\s.2<=3)/\s.1=rS u n++(Ky s.2.toNat).map λg:Nat=>Z3b.get (Z33.get u.reg n) g) (λs=>((3:Int)-s.2).toNat) ⟨⟨Kw _,(by decide:(0:Int)<=3)⟩,by simp⟩ λs ⟨⟨a1,a2⟩,a3⟩ => ?_;unfold di;simp only [];refine .bifD (λhlt=>?_) λhge => .pure ?_
   ·obtain ⟨l,j⟩:=s;simp only at a1 a2 a3 hlt;obtain ⟨g,rfl⟩:∃ g:Nat,j=g:=⟨j.toNat,by omega⟩;simp only [tnn] at a3;subst a3;have hv:=h.rv n g (by omega) (by omega);refine .gdD ⟨by omega,hlt⟩<|.gdI (by first | omega | (simp only [];omega))<|.gd (il (by simp;omega) rfl)<|.gdI (by omega)<|.pure ⟨⟨⟨by simp only [];omega,by simp only [];omega⟩,?_⟩,by simp only [];omega⟩;simp only [];rw [show ((g:Int)+1).toNat=g+1 by omega,KQ,KW,<- KV]
    rfl
   rw [a3,ug,show s.2.toNat=3 by omega]
  rw [h3,show s.2.toNat=p.length by omega]
 subst hv;refine G7.bind (P:=(· = Bg u)) ?_ λv hv => .pure hv;have hln:=rU (u:=u) p.length;refine G7.loop (λs=>(0<=s.2/\s.2<=3)/\s.1=rS u p.length++(Ky s.2.toNat).map λg:Nat=>Z3b.get u.mem g) (λs=>((3:Int)-s.2).toNat) ⟨⟨Kw _,(by decide:(0:Int)<=3)⟩,by simp⟩ λs ⟨⟨a1,a2⟩,a3⟩ => ?_;unfold dm;refine .bifD (λhlt=>?_) λhge => .pure ?_
 ·obtain ⟨l,j⟩:=s;simp only at a1 a2 a3 hlt;obtain ⟨g,rfl⟩:∃ g:Nat,j=g:=⟨j.toNat,by omega⟩;simp only [tnn] at a3;subst a3;have hv:=h.mv g (by omega);refine .gdD ⟨by omega,hlt⟩<|.gdI (by first | omega | (simp only [];omega))<|.gd (il (by simp;omega) rfl)<|.gdI (by omega)<|.pure ⟨⟨⟨by simp only [];omega,by simp only [];omega⟩,?_⟩,by simp only [];omega⟩;simp only [];rw [show ((g:Int)+1).toNat=g+1 by omega,KQ,KW,<- KV]
  rfl
 rw [a3,show s.2.toNat=3 by omega];unfold Bg FW;rw [h.up]
theorem yp (u:GZ):G7 (bT ⟨u⟩) (· = strOfNums (keyL u)):=by
 unfold bT bA;refine G7.bind (P:=(· = strOfNums (keyL u))) (.gd rfl ?_) λv hv => .pure hv;refine G7.bind (P:=λl=>l=[u.pc.x0,u.pc.x1,u.pc.x2,u.reg.x0.x0,u.reg.x0.x1,u.reg.x0.x2,u.reg.x1.x0,u.reg.x1.x1,u.reg.x1.x2,u.reg.x2.x0,u.reg.x2.x1,u.reg.x2.x2]) ?_ λv hv=>?_
 ·refine G7.of (v:=[u.pc.x0,u.pc.x1,u.pc.x2,u.reg.x0.x0,u.reg.x0.x1,u.reg.x0.x2,u.reg.x1.x0,u.reg.x1.x1,u.reg.x1.x2,u.reg.x2.x0,u.reg.x2.x1,u.reg.x2.x2]) ?_ rfl
  exact ou (step:=eG u) (λi=>match i with
   | 0=>([u.pc.x0,u.pc.x1,u.pc.x2],0)
   | 1=>([u.pc.x0,u.pc.x1,u.pc.x2,u.reg.x0.x0,u.reg.x0.x1,u.reg.x0.x2],1)
   | 2=>([u.pc.x0,u.pc.x1,u.pc.x2,u.reg.x0.x0,u.reg.x0.x1,u.reg.x0.x2,u.reg.x1.x0,u.reg.x1.x1,u.reg.x1.x2],2)
   | _=>([u.pc.x0,u.pc.x1,u.pc.x2,u.reg.x0.x0,u.reg.x0.x1,u.reg.x0.x2,u.reg.x1.x0,u.reg.x1.x1,u.reg.x1.x2,u.reg.x2.x0,u.reg.x2.x1,u.reg.x2.x2],3)) 3 (λi hi=>match i,hi with
   | 0,_=>rfl
   | 1,_=>rfl
   | 2,_=>rfl) rfl
 subst hv;exact .gd rfl<|.pure rfl
theorem oJ:∀ {l k:LI},(∀ x∈l,0<=x/\x<=255)->(∀ x∈k,0<=x/\x<=255)->strOfNums l=strOfNums k->l=k:=λ{l k} hl hk h=>by
 have h1:(l.map λn=>UInt8.ofNat n.toNat)=k.map λn=>UInt8.ofNat n.toNat:=by
  rw [<- strOfNums_data,<- strOfNums_data,h]
 have h2:(l.map λn=>UInt8.ofNat n.toNat).map (λb=>(b.toNat:Int))=(k.map λn=>UInt8.ofNat n.toNat).map (λb=>(b.toNat:Int)):=by rw [h1]
 have back:∀ l:LI,(∀ x∈l,0<=x/\x<=255)->(l.map λn=>UInt8.ofNat n.toNat).map (λb=>(b.toNat:Int))=l:=λl hl=>by
  rw [K6]
  conv=>rhs;rw [<- K7 l]
  refine KX λx hx=>?_;have := hl x hx;simp only [Function.comp,UInt8.toNat_ofNat',id];omega
 rwa [back l hl,back k hk] at h2
theorem Gs (a:Z3b):Z3b.get a ((0:Nat):Int)=a.x0:=rfl
theorem Gt (a:Z3b):Z3b.get a ((1:Nat):Int)=a.x1:=rfl
theorem Gu (a:Z3b):Z3b.get a ((2:Nat):Int)=a.x2:=rfl
theorem Iv.keyL (hp:PV p) (h:Iv p u):∃ d:List Nat,Go.Proofs.YtjcmfddobaplbaaGreat.keyL u=d.map Int.ofNat/\d.length=15/\∀ x∈d.zip [8,8,8,4,4,4,4,4,4,4,4,4,4,4,4],x.1<x.2:=by
 have e:∀ x:Int,0<=x->x=Int.ofNat x.toNat:=λx hx=>(Lg hx).symm;have hv:=hp.vs.2;have p0:=h.pc 0 (by decide);have p1:=h.pc 1 (by decide);have p2:=h.pc 2 (by decide);have v0:=hv 0;have v1:=hv 1;have v2:=hv 2;have r00:=h.rv 0 0 (by decide) (by decide);have r01:=h.rv 0 1 (by decide) (by decide);have r02:=h.rv 0 2 (by decide) (by decide);have r10:=h.rv 1 0 (by decide) (by decide);have r11:=h.rv 1 1 (by decide) (by decide);have r12:=h.rv 1 2 (by decide) (by decide);have r20:=h.rv 2 0 (by decide) (by decide);have r21:=h.rv 2 1 (by decide) (by decide);have r22:=h.rv 2 2 (by decide) (by decide);have m0:=h.mv 0 (by decide);have m1:=h.mv 1 (by decide);have m2:=h.mv 2 (by decide);change 0<=u.pc.x0/\u.pc.x0<=_ at p0;change 0<=u.pc.x1/\u.pc.x1<=_ at p1;change 0<=u.pc.x2/\u.pc.x2<=_ at p2;change 0<=u.reg.x0.x0/\u.reg.x0.x0<=_ at r00;change 0<=u.reg.x0.x1/\u.reg.x0.x1<=_ at r01;change 0<=u.reg.x0.x2/\u.reg.x0.x2<=_ at r02;change 0<=u.reg.x1.x0/\u.reg.x1.x0<=_ at r10;change 0<=u.reg.x1.x1/\u.reg.x1.x1<=_ at r11;change 0<=u.reg.x1.x2/\u.reg.x1.x2<=_ at r12;change 0<=u.reg.x2.x0/\u.reg.x2.x0<=_ at r20;change 0<=u.reg.x2.x1/\u.reg.x2.x1<=_ at r21;change 0<=u.reg.x2.x2/\u.reg.x2.x2<=_ at r22;change 0<=u.mem.x0/\u.mem.x0<=_ at m0;change 0<=u.mem.x1/\u.mem.x1<=_ at m1;change 0<=u.mem.x2/\u.mem.x2<=_ at m2;refine ⟨(Go.Proofs.YtjcmfddobaplbaaGreat.keyL u).map Int.toNat,?_,rfl,?_⟩
 ·unfold Go.Proofs.YtjcmfddobaplbaaGreat.keyL;simp only [KY,List.map_nil];rw [<- e _ p0.1,<- e _ p1.1,<- e _ p2.1,<- e _ r00.1,<- e _ r01.1,<- e _ r02.1,<- e _ r10.1,<- e _ r11.1,<- e _ r12.1,<- e _ r20.1,<- e _ r21.1,<- e _ r22.1,<- e _ m0.1,<- e _ m1.1,<- e _ m2.1]
 unfold Go.Proofs.YtjcmfddobaplbaaGreat.keyL;simp only [KY,List.map_nil,List.zip_cons_cons,List.zip_nil_left,KD,KG,or_false,forall_eq_or_imp,forall_eq];refine ⟨?_,?_,?_,?_,?_,?_,?_,?_,?_,?_,?_,?_,?_,?_,?_⟩ <;> omega
theorem uS {u v:GZ} (hp:u.p=v.p) (h:keyL u=keyL v):u=v:=by
 obtain ⟨p,⟨a0,a1,a2⟩,⟨⟨b0,b1,b2⟩,⟨c0,c1,c2⟩,⟨d0,d1,d2⟩⟩,⟨e0,e1,e2⟩⟩:=u;obtain ⟨p',⟨a0',a1',a2'⟩,⟨⟨b0',b1',b2'⟩,⟨c0',c1',c2'⟩,⟨d0',d1',d2'⟩⟩,⟨e0',e1',e2'⟩⟩:=v;simp only [keyL,List.cons.injEq,and_true] at h;obtain ⟨rfl,rfl,rfl,rfl,rfl,rfl,rfl,rfl,rfl,rfl,rfl,rfl,rfl,rfl,rfl⟩:=h;simp only at hp;subst hp
 rfl
end
section
variable {p:List (List GY)} {u:GZ}
theorem Iv.ins (hp:PV p) (h:Iv p u) {t:Nat} (ht:t<p.length) (hc:xg u t=true):InR (rR u t):=by
 have hl:=hp.vs.1;have h1:=h.pc t (by omega);unfold xg at hc;rw [h.up] at hc;have hc:=of_decide_eq_true hc;unfold rR;rw [h.up,tnn];exact hp.ins t _ ht (by omega)
theorem Fh (hp:PV p) (h:Iv p u) {t:Nat} (ht:t<p.length) (hc:xg u t=true):G7 (da ⟨u⟩ t) (· = ⟨Bc u t<|rR u t⟩):=by
 have hl:=hp.vs.1;have hr7:=hp.vs.2 t;have h1:=h.pc t (by omega);have hx:=h.ins hp ht hc;unfold da;refine (Bh hp h ht).bind λv ⟨e1,e2⟩ => ?_;have e3:=e2<|e1.trans hc;rw [<- e3] at hx ⊢;generalize v.1=x at hx ⊢;obtain ⟨x1,x2,x3,x4,x5,x6⟩:=hx;refine .gdD ⟨by omega,by omega⟩<|.gdY (by simp only [];omega) ?_;refine G7.bind (P:=(· = wE u t x)) ?_ λv4 hv4=>?_
 ·unfold cm wE;refine .bif (λho => .gdD ⟨by omega,by omega⟩<|.gdD ⟨x3,by simp only [];omega⟩<|.pure ?_) λho => .gdY (by simp only [];omega) (.pure ?_)
  ·rw [if_pos (by simpa using ho)]
  rw [if_neg (by simpa using ho)]
 subst hv4;refine G7.bind (P:=λw=>(⟨⟨w.1,w.2.1,w.2.2.1⟩,⟨w.2.2.2.1,w.2.2.2.2.1,w.2.2.2.2.2.1⟩,⟨w.2.2.2.2.2.2.1,w.2.2.2.2.2.2.2.1,w.2.2.2.2.2.2.2.2⟩⟩:Z33)=if rdX x=true then Z33.set u.reg t (Z3b.set (Z33.get u.reg t) x.Reg<|Z3b.get u.mem x.Loc) else u.reg) ?_ λw5 hw5=>?_
 ·refine (DC _).bind λb hb=>?_;have hb':b=rdX x:=hb;refine .bif (λhc => .gdD ⟨x1,by omega⟩<|.gdD ⟨x3,by omega⟩<|.pure ?_) λhc => .pure ?_
  ·rw [if_pos (by rw [<- hb'];exact hc)]
  rw [if_neg (by rw [<- hb',hc];decide)]
 refine G7.bind (P:=λw=>(⟨w.1,w.2.1,w.2.2⟩:Z3b)=if wrX x=true then Z3b.set u.mem x.Loc (wE u t x) else u.mem) ?_ λw10 hw10 => .pure ?_
 ·refine (Eb _).bind λb hb=>?_;have hb':b=wrX x:=hb;refine .bif (λhc => .gdD ⟨x1,by omega⟩<|.pure ?_) λhc => .pure ?_
  ·rw [if_pos (by rw [<- hb'];exact hc)]
  rw [if_neg (by rw [<- hb',hc];decide)]
 unfold Bc;rw [hw5,hw10]
theorem Iv.after (h:Iv p u) {t:Nat} (ht:t<3) (hc:xg u t=true) {x:GY} (hx:InR x):Iv p (Bc u t x):=by
 obtain ⟨x1,x2,x3,x4,x5,x6⟩:=hx;obtain ⟨l,hlx⟩:∃ l:Nat,x.Loc=l:=⟨x.Loc.toNat,by omega⟩;obtain ⟨g,hgx⟩:∃ g:Nat,x.Reg=g:=⟨x.Reg.toNat,by omega⟩;unfold xg at hc;rw [h.up] at hc;have hc:=of_decide_eq_true hc;have hvv:0<=wE u t x/\wE u t x<=3:=by
  unfold wE
  split
  ·rw [hgx];exact h.rv t g ht (by omega)
  omega
 unfold Bc;refine ⟨h.up,λi hi=>?_,λt' g' ht' hg' => ?_,λl' hl' => ?_⟩
 ·simp only [];rw [kT _ _ _ _ (by omega) (by omega)]
  by_cases e:i=t
  ·subst e;have := h.pc i hi;rw [if_pos rfl];omega
  rw [if_neg (by omega)];exact h.pc i hi
 ·simp only []
  split
  ·rw [rP _ _ _ _ (by omega) (by omega)]
   by_cases e:t'=t
   ·subst e;rw [if_pos rfl,hgx,kT _ _ _ _ (by omega) (by omega)]
    by_cases e2:g'=g
    ·subst e2;rw [if_pos rfl,hlx];exact h.mv l (by omega)
    rw [if_neg (by omega)];exact h.rv t' g' ht' hg'
   rw [if_neg (by omega)];exact h.rv t' g' ht' hg'
  exact h.rv t' g' ht' hg'
 simp only []
 split
 ·rw [hlx,kT _ _ _ _ (by omega) (by omega)]
  split
  ·exact hvv
  exact h.mv l' hl'
 exact h.mv l' hl'
def v0 (p:List<|List GY):GZ:=⟨p,⟨0,0,0⟩,⟨⟨0,0,0⟩,⟨0,0,0⟩,⟨0,0,0⟩⟩,⟨0,0,0⟩⟩
theorem z3 (i:Int):Z3b.get ⟨0,0,0⟩ i=0:=by
 simp only [Z3b.get]
 split <;> (try split) <;> rfl
theorem z33 (i:Int):Z33.get ⟨⟨0,0,0⟩,⟨0,0,0⟩,⟨0,0,0⟩⟩ i=⟨0,0,0⟩:=by
 simp only [Z33.get]
 split <;> (try split) <;> rfl
theorem Iv.start (p:List<|List GY):Iv p (v0 p):=by
 refine ⟨rfl,λt _=>?_,λt g _ _=>?_,λl _=>?_⟩
 ·unfold v0;simp only [z3];omega
 ·unfold v0;simp only [z33,z3];decide
 unfold v0;simp only [z3];decide
theorem oK (hp:PV p) {s0 s:G3} (h0:Iv p s0.values) (h:Rea Fe s0 s):Iv p s.values:=by
 induction h with
 | base=>exact h0
 | step _ hm ih=>
  obtain ⟨t,h1,rfl,h2⟩:=iW.1 hm;rw [ih.up] at h1;have hl:=hp.vs.1;exact ih.after (by omega) h2<|ih.ins hp h1 h2
def bas:List Nat:=[8,8,8,4,4,4,4,4,4,4,4,4,4,4,4]
def dig (u:GZ):List (Nat×Nat):=((keyL u).map Int.toNat).zip bas
theorem xj (u:GZ):(dig u).map (·.2)=bas:=rfl
theorem Bi (u:GZ):(dig u).map (·.1)=(keyL u).map Int.toNat:=rfl
theorem yt:∀ l:List (Nat×Nat),zm l=(l.map (·.2)).foldr (· * ·) 1
 | []=>rfl
 | (_,b)::l=>congrArg (b * ·) (yt l)
theorem CF (u:GZ):zm (dig u)=8589934592:=by
 rw [yt,xj]
 decide
theorem digits (hp:PV p) (h:Iv p u):∀ x∈dig u,x.1<x.2:=by
 obtain ⟨d,h1,_,h2⟩:=h.keyL hp;unfold dig;rw [h1,K6];have : d.map (Int.toNat ∘ Int.ofNat)=d:=by
  conv=>rhs;rw [<- K7 d]
  exact KX λ_ _=>rfl
 rw [this];exact h2
theorem Ee (hp:PV p) {u v:GZ} (hu:Iv p u) (hv:Iv p v) (h:nB (dig u)=nB (dig v)):(keyL u).map Int.toNat=(keyL v).map Int.toNat:=by
 rw [<- Bi,<- Bi,vX (dig u) (dig v) ((xj u).trans (xj v).symm) (digits hp hu) (digits hp hv) h]
theorem uh (hp:PV p) (h:Iv p u):∀ x∈keyL u,0<=x/\x<=255:=by
 obtain ⟨d,h1,h3,h2⟩:=h.keyL hp;rw [h1];intro x hx;obtain ⟨n,hn,rfl⟩:=KM.1 hx;obtain ⟨j,hj,rfl⟩:=KS hn;have hz:j<(d.zip [8,8,8,4,4,4,4,4,4,4,4,4,4,4,4]).length:=by simp;omega
 have h4:=h2 _<|KJ hz;rw [List.getElem_zip] at h4;have h5:∀ b∈[8,8,8,4,4,4,4,4,4,4,4,4,4,4,4],b<=8:=by decide
 have h6:=h5 _<|KJ (l:=[8,8,8,4,4,4,4,4,4,4,4,4,4,4,4]) (n:=j) (by simp;omega);simp only at h4
 constructor
 ·exact Int.natCast_nonneg _
 show ((d[j]:Nat):Int)<=255;omega
theorem CG (hp:PV p) {u v:GZ} (hu:Iv p u) (hv:Iv p v) (h:(keyL u).map Int.toNat=(keyL v).map Int.toNat):keyL u=keyL v:=by
 have back:∀ l:LI,(∀ x∈l,0<=x/\x<=255)->(l.map Int.toNat).map Int.ofNat=l:=λl hl=>by
  rw [K6]
  conv=>rhs;rw [<- K7 l]
  refine KX λx hx=>?_;exact Lg (hl x hx).1
 rw [<- back _ (uh hp hu),<- back _ (uh hp hv),h]
theorem Ef (hp:PV p) {s0:G3} (h0:Iv p s0.values):Mok Fe s0 8589934592 where
 key:=λs t hs ht h=>by
  have h1:=oK hp h0 hs;have h2:=oK hp h0 ht;have := uS (h1.up.trans h2.up.symm)<|oJ (uh hp h1) (uh hp h2) h
  cases s;cases t
  simp only at this;rw [this]
 cnt:=λV hn hV=>by
  have hI:∀ v∈V,Iv p v.values:=λv hv=>oK hp h0<|hV v hv;refine CE (λv=>nB<|dig v.values) _ V hn (λv hv=>?_) λs hs t ht h=>?_
  ·have := yh _<|digits hp<|hI v hv
   rwa [CF] at this
  have h3:=Ee hp (hI s hs) (hI t ht) h;have := uS ((hI s hs).up.trans (hI t ht).up.symm)<|CG hp (hI s hs) (hI t ht) h3
  cases s;cases t
  simp only at this;rw [this]
theorem Eg (hp:PV p) {s0:G3} (h0:Iv p s0.values):Mrt cZ da bT bV (λs=>aK s.values) Fe s0 where
 mv:=λs hs=>Ff hp<|oK hp h0 hs
 af:=λs m hs hm=>by
  have h1:=oK hp h0 hs;obtain ⟨t,h2,rfl,h3⟩:=iW.1 hm;rw [h1.up] at h2;exact Fh hp h1 h2 h3
 ky:=λs hs=>yp s.values
 dn:=λs hs=>Fg hp<|oK hp h0 hs
 oc:=λs hs _=>yn hp<|oK hp h0 hs
 len:=λs hs=>by
  have h1:=ym (u:=s.values) s.values.p.length;have h2:=(oK hp h0 hs).up;have h3:=hp.vs.1;rw [h2] at h1;show (rQ s.values).length<=_;unfold rQ;rw [h2];omega
theorem yu (u:GZ):(Bg u).length=3*u.p.length+3:=by
 unfold Bg FW;rw [lla,rU]
 rfl
def DD (p:List<|List GY):LI->Prop:=EN Fe ⟨v0 p⟩
end
def ud {κ α:Type} [DecidableEq κ] (f:κ->α) (k:κ) (v:α):κ->α:=λj=>if j=k then v else f j
section
variable {κ α:Type} [DecidableEq κ]
theorem vY (f:κ->α) (k j:κ) (v:α):ud f k v j=if j=k then v else f j:=rfl
theorem cH (f:κ->α) (k:κ) (v:α):ud f k v k=v:=if_pos rfl
theorem gz {f:κ->α} {k j:κ} {v:α} (h:j≠k):ud f k v j=f j:=if_neg h
theorem ui (f:κ->α) (k:κ) (v w:α):ud (ud f k v) k w=ud f k w:=by
 funext j;unfold ud;split <;> rfl
theorem nC (f:κ->α) {k j:κ} (v w:α) (h:k≠j):ud (ud f k v) j w=ud (ud f j w) k v:=by
 funext i;unfold ud;split <;> split <;> first | rfl | (exfalso;rename_i h1 h2;exact h<|h2 ▸ h1)
end
inductive Rch {α:Type} (S:α->α->Prop) (a0:α):α->Prop
 | base:Rch S a0 a0
 | step {a b:α} (h:Rch S a0 a) (s:S a b):Rch S a0 b
theorem Rch.inv {α:Type} {S:α->α->Prop} {a0:α} (I:α->Prop) (h0:I a0) (hs:∀ a b,I a->S a b->I b) {a:α} (h:Rch S a0 a):I a:=by
 induction h with
 | base=>exact h0
 | step _ s ih=>exact hs _ _ ih s
theorem Rch.trans {α:Type} {S:α->α->Prop} {a0 a b:α} (h:Rch S a0 a) (k:Rch S a b):Rch S a0 b:=by
 induction k with
 | base=>exact h
 | step _ s ih=>exact ih.step s
theorem Rch.sim {α β:Type} {S:α->α->Prop} {S':β->β->Prop} {a0:α} {b0:β} (R:α->β->Prop) (h0:R a0 b0) (hs:∀ a a' b,Rch S a0 a->Rch S' b0 b->R a b->S a a'->∃ b',Rch S' b b'/\R a' b') {a:α} (h:Rch S a0 a):∃ b,Rch S' b0 b/\R a b:=by
 induction h with
 | base=>exact ⟨b0,.base,h0⟩
 | step h s ih=>
  obtain ⟨b,h1,h2⟩:=ih;obtain ⟨b',h3,h4⟩:=hs _ _ b h h1 h2 s;exact ⟨b',h1.trans h3,h4⟩
structure Bis {σ α:Type} (M:Mac σ) (s0:σ) (S:α->α->Prop) (a0:α) (D:α->Prop) (O:α->List Int) (I:σ->Prop) (A:σ->α):Prop where
 i0:I s0
 h0:A s0=a0
 fw:∀ s m,I s->Rch S a0 (A s)->m∈M.mv s->I (M.af s m)/\S (A s) (A<|M.af s m)
 bw:∀ s b,I s->Rch S a0 (A s)->S (A s) b->∃ m,m∈M.mv s/\A (M.af s m)=b
 dn:∀ s,I s->Rch S a0 (A s)->(M.dn s=true↔D (A s))
 oc:∀ s,I s->Rch S a0 (A s)->M.dn s=true->M.oc s=O (A s)
section
variable {σ α:Type} {M:Mac σ} {s0:σ} {S:α->α->Prop} {a0:α} {D:α->Prop} {O:α->LI} {I:σ->Prop} {A:σ->α}
theorem Bis.rea (B:Bis M s0 S a0 D O I A) {s:σ} (h:Rea M s0 s):I s/\Rch S a0 (A s):=by
 induction h with
 | base=>exact ⟨B.i0,by rw [B.h0];exact .base⟩
 | step _ hm ih=>
  have := B.fw _ _ ih.1 ih.2 hm;exact ⟨this.1,ih.2.step this.2⟩
theorem Bis.back (B:Bis M s0 S a0 D O I A) {a:α} (h:Rch S a0 a):∃ s,Rea M s0 s/\A s=a:=by
 induction h with
 | base=>exact ⟨s0,.base,B.h0⟩
 | step h k ih=>
  obtain ⟨s,h1,rfl⟩:=ih;have h2:=B.rea h1;obtain ⟨m,h3,h4⟩:=B.bw s _ h2.1 h2.2 k;exact ⟨_,.step h1 h3,h4⟩
def Gv (S:α->α->Prop) (a0:α) (D:α->Prop) (O:α->LI) (o:LI):Prop:=∃ a,Rch S a0 a/\D a/\O a=o
theorem Bis.outs (B:Bis M s0 S a0 D O I A) (o:LI):EN M s0 o↔Gv S a0 D O o:=by
 refine ⟨λ⟨s,h1,h2,h3⟩ => ?_,λ⟨a,h1,h2,h3⟩ => ?_⟩
 ·have h4:=B.rea h1;exact ⟨A s,h4.2,(B.dn s h4.1 h4.2).1 h2,by rw [<- B.oc s h4.1 h4.2 h2,h3]⟩
 obtain ⟨s,h4,rfl⟩:=B.back h1;have h5:=B.rea h4;have h6:=(B.dn s h5.1 h5.2).2 h2;exact ⟨s,h4,h6,by rw [B.oc s h5.1 h5.2 h6,h3]⟩
theorem Bis.mok (B:Bis M s0 S a0 D O I A) {N:Nat} (hk:∀ s t,I s->I t->Rch S a0 (A s)->Rch S a0 (A t)->M.ky s=M.ky t->s=t) (ha:∀ s t,I s->I t->A s=A t->s=t) (hc:∀ V:List α,V.Nodup->(∀ v∈V,Rch S a0 v)->V.length<=N):Mok M s0 N where
 key:=λs t hs ht h=>hk s t (B.rea hs).1 (B.rea ht).1 (B.rea hs).2 (B.rea ht).2 h
 cnt:=λV hn hV=>by
  have := hc (V.map A) ?_ λv hv=>?_
  ·simpa using this
  ·rw [List.nodup_iff_pairwise_ne] at hn ⊢;rw [List.pairwise_map];exact hn.imp_of_mem λ{a b} h1 h2 hne e=>hne<|ha a b (B.rea<|hV a h1).1 (B.rea<|hV b h2).1 e
  obtain ⟨s,hs,rfl⟩:=KM.1 hv;exact (B.rea<|hV s hs).2
end
structure TS where
 pc:Nat->Nat
 rg:Nat->Int->Int
 mm:Int->Int
 bf:Nat->Int->List (Int×Int)
def pQ (x:GY):Bool:=x.Op==2||x.Op==3
section
variable (P:Nat->List GY) (d:Bool) (cl:Int->Int)
def oL (l:Int) (b:List<|Int×Int) (z:Int):Int:=match b.reverse.find? (λe=>decide<|e.1=l) with
 | some e=>e.2
 | none=>z
def jv (a:TS) (t:Nat) (l:Int):Int:=oL l (a.bf t<|cl l)<|a.mm l
def mU (a:TS) (t:Nat) (x:GY):Int:=if x.Op=3 then a.rg t x.Reg else x.Val
def G8 (a:TS) (t:Nat) (x:GY):TS where
 pc:=ud a.pc t<|a.pc t+1
 rg:=if rdX x then ud a.rg t (ud (a.rg t) x.Reg<|jv cl a t x.Loc) else a.rg
 mm:=if wrX x&&(d||x.Op==5) then ud a.mm x.Loc (mU a t x) else a.mm
 bf:=if pQ x && !d then ud a.bf t (ud (a.bf t) (cl x.Loc)<|a.bf t (cl x.Loc)++[(x.Loc,mU a t x)]) else a.bf
theorem yw (a:TS) (t:Nat) (x:GY):(G8 d cl a t x).rg=if rdX x then ud a.rg t (ud (a.rg t) x.Reg<|jv cl a t x.Loc) else a.rg:=rfl
theorem Bj (a:TS) (t:Nat) (x:GY):(G8 d cl a t x).mm=if wrX x&&(d||x.Op==5) then ud a.mm x.Loc (mU a t x) else a.mm:=rfl
theorem m7 (a:TS) (t:Nat) (x:GY):(G8 d cl a t x).bf=if pQ x && !d then ud a.bf t (ud (a.bf t) (cl x.Loc)<|a.bf t (cl x.Loc)++[(x.Loc,mU a t x)]) else a.bf:=rfl
def flT (a:TS) (t:Nat) (c:Int) (e:Int×Int) (r:List<|Int×Int):TS:={ a with mm:=ud a.mm e.1 e.2,bf:=ud a.bf t (ud (a.bf t) c r) }
def F7 (a:TS) (t:Nat) (x:GY):Prop:=(P t)[a.pc t]? = some x/\(x.Op=4\/x.Op=5->∀ c,a.bf t c=[])
inductive StT:TS->TS->Prop
 | ex {a:TS} {t:Nat} {x:GY} (h:F7 P a t x):StT a (G8 d cl a t x)
 | fl {a:TS} {t:Nat} {c:Int} {e:Int×Int} {r:List (Int×Int)} (h:a.bf t c=e::r):StT a (flT a t c e r)
def a0T:TS:=⟨λ_=>0,λ_ _=>0,λ_=>0,λ_ _=>[]⟩
def DnT (a:TS):Prop:=(∀ t,(P t).length<=a.pc t)/\∀ t c,a.bf t c=[]
def outT (n:Nat) (a:TS):LI:=((Ky n).flatMap λt=>(Ky 3).map λg:Nat=>a.rg t g)++(Ky 3).map λl:Nat=>a.mm l
def EO (n:Nat):LI->Prop:=Gv (StT P d cl) a0T (DnT P)<|outT n
end
section
variable {P:Nat->List GY} {d:Bool} {cl:Int->Int}
theorem xk (l z:Int) (b:List<|Int×Int) (e:Int×Int):oL l (b++[e]) z=if e.1=l then e.2 else oL l b z:=by
 unfold oL;rw [List.reverse_append];simp only [List.reverse_cons,List.reverse_nil,List.nil_append,List.singleton_append,List.find?_cons]
 by_cases h:e.1=l
 ·simp [h]
 simp [h]
theorem TS.ext {a b:TS} (h1:a.pc=b.pc) (h2:a.rg=b.rg) (h3:a.mm=b.mm) (h4:a.bf=b.bf):a=b:=by
 cases a;cases b;simp only at h1 h2 h3 h4;subst h1 h2 h3 h4;rfl
theorem uT {x:GY} (h:pQ x=true):rdX x=false/\wrX x=true/\x.Op≠4/\x.Op≠5:=by
 unfold pQ at h;unfold rdX wrX;rcases Bool.or_eq_true _ _ ▸ h with h | h <;> (have:=eq_of_beq h;rw [this];decide)
theorem Eh {a:TS} (h:Rch (StT P true cl) a0T a):∀ t c,a.bf t c=[]:=
 h.inv (λa=>∀ t c,a.bf t c=[]) (λ_ _=>rfl) λa b ha hs=>by
  cases hs with
  | ex h=>simpa [G8] using ha
  | fl h=>rw [ha] at h;cases h
theorem Ei {cl':Int->Int} {a:TS} (h:Rch (StT P true cl) a0T a):Rch (StT P false cl') a0T a:=by
 have hh:=h
 induction h with
 | base=>exact .base
 | @step a b h s ih=>
  have hn:=Eh h;have ih:=ih h
  cases s with
  | fl h=>rw [hn] at h;cases h
  | @ex t x hc=>
   have hs:∀ l,jv cl a t l=jv cl' a t l:=λl=>by unfold jv;rw [hn,hn]
   cases hx:pQ x with
   | false=>
    have : G8 true cl a t x=G8 false cl' a t x:=by
     unfold G8;rw [hx,hs];refine TS.ext rfl rfl ?_ rfl;have : (wrX x&&(true||x.Op==5))=(wrX x&&(false||x.Op==5)):=by
      unfold pQ at hx;unfold wrX
      cases h1:x.Op==2 <;> cases h2:x.Op==3 <;> simp_all
     simp only [this]
    rw [this];exact ih.step<|.ex hc
   | true=>
    obtain ⟨h1,h2,h3,h4⟩:=uT hx;have h5:(x.Op==5)=false:=by simpa using h4
    have h6:=ih.step<|.ex (d:=false) (cl:=cl') hc;have h7:(G8 false cl' a t x).bf t (cl' x.Loc)=(x.Loc,mU a t x)::[]:=by
     simp [G8,hx,cH,hn]
    have h8:=h6.step<|.fl h7;have : G8 true cl a t x=flT (G8 false cl' a t x) t (cl' x.Loc) (x.Loc,mU a t x) []:=by
     refine TS.ext rfl ?_ ?_ ?_
     ·simp [G8,flT,h1]
     ·simp [G8,flT,h2,h5]
     funext t' c'
     have e1:(G8 true cl a t x).bf=a.bf:=by simp [G8]
     rw [e1,hn];simp only [G8,flT,hx,Bool.not_false,Bool.and_true,if_true,ui,cH];unfold ud
     split
     ·show []=if c'=cl' x.Loc then [] else a.bf t c'
      split
      ·rfl
      rw [hn]
     rw [hn]
    rw [this];exact h8
theorem CH {cl':Int->Int} {n:Nat} {o:LI} (h:EO P true cl n o):EO P false cl' n o:=by
 obtain ⟨a,h1,h2,h3⟩:=h;exact ⟨a,Ei h1,h2,h3⟩
end
theorem zn {α β:Type} {f:α->List β} {m:Nat}:∀ {l:List α},(∀ x∈l,(f x).length<=m)->(l.flatMap f).length<=l.length*m
 | [],_=>by simp
 | x::l,h=>by
  have h1:=h x Kz;have h2:=zn (l:=l) λy hy=>h y<|K8 _ hy;rw [KR,lla,llc,Nat.add_mul,Nat.one_mul];omega
theorem Bl {α:Type} {V l:List α} (hn:V.Nodup) (h:∀ v∈V,v∈l):V.length<=l.length:=List.Nodup.length_le_of_subset hn h
abbrev LSt:=(Int->Int)×(Int->List (Int×Int))
def l0:LSt:=(λ_=>0,λ_=>[])
def GD (s:LSt) (x:GY):Int:=if x.Op=3 then s.1 x.Reg else x.Val
section
variable (cl:Int->Int)
def lsx (x:GY) (s:LSt):List LSt:=
 if rdX x then [(ud s.1 x.Reg 0,s.2),(ud s.1 x.Reg 1,s.2),(ud s.1 x.Reg 2,s.2),(ud s.1 x.Reg 3,s.2)]
 else if pQ x then [(s.1,ud s.2 (cl x.Loc)<|s.2 (cl x.Loc)++[(x.Loc,GD s x)]),(s.1,ud s.2 (cl x.Loc) [])]
 else [s]
def LSn (l:List GY):Nat->List LSt
 | 0=>[l0]
 | k+1=>(LSn l k).flatMap (lsx cl<|l.getD k default)
def evN (l:List GY):Nat:=l.countP λx=>x.Op != 4
variable {cl}
theorem Ej (x:GY) (s:LSt):(lsx cl x s).length<=4 ^ evN [x]:=by
 unfold lsx evN rdX pQ
 by_cases h:x.Op=4
 ·simp [h]
 have : (x.Op != 4)=true:=by simpa using h
 rw [List.countP_cons_of_pos (p:=λx:GY=>x.Op != 4) this]
 split
 ·simp
 split <;> simp
theorem Bm {l:List GY}:∀ {k:Nat},k<=l.length->(LSn cl l k).length<=4 ^ evN (l.take k)
 | 0,_=>by simp [LSn,evN]
 | k+1,h=>by
  have h1:=Bm (l:=l) (k:=k) (by omega);have h2:=zn (f:=lsx cl<|l.getD k default) (l:=LSn cl l k) λs _=>Ej _ s;have h3:evN (l.take<|k+1)=evN (l.take k)+evN [l.getD k default]:=by
   unfold evN;rw [KO,List.countP_append,geq (by omega)];simp [List.getD,show k<l.length by omega]
  rw [h3,Nat.pow_add];exact KC h2<|KZ _ h1
theorem CI (l:List GY) (k:Nat):evN (l.take k)<=evN l:=(List.take_sublist k l).countP_le
theorem uj {l:List GY} {c:Int} {e:Int×Int}:∀ {k:Nat} {s:LSt} {r:List (Int×Int)},s∈LSn cl l k->s.2 c=e::r->(s.1,ud s.2 c r)∈LSn cl l k
 | 0,s,r,h,hc=>by
  obtain rfl:=KI.1 h
  cases hc
 | k+1,s,r,h,hc=>by
  obtain ⟨u,hu,hs⟩:=KA.1 h;refine KA.2 ?_;unfold lsx at hs ⊢
  split at hs
  ·have h2:s.2=u.2:=by
    simp only [KD,KG,or_false] at hs;rcases hs with rfl | rfl | rfl | rfl <;> rfl
   rename_i hr;have := uj (s:=u) hu<|h2 ▸ hc;refine ⟨_,this,?_⟩;rw [if_pos hr];simp only [KD,KG,or_false] at hs ⊢;rcases hs with rfl | rfl | rfl | rfl <;> simp
  rename_i hr
  split at hs
  ·rename_i ht;simp only [KD,KG,or_false] at hs;rcases hs with rfl | rfl
   ·by_cases g:c=cl (l.getD k default).Loc
    ·subst g;simp only [cH] at hc
     cases hb:u.2 (cl (l.getD k default).Loc) with
     | nil=>
      rw [hb] at hc;injection hc with _ hc;refine ⟨u,hu,?_⟩;rw [if_neg hr,if_pos ht,<- hc,ui];simp
     | cons e0 r0=>
      rw [hb] at hc;injection hc with h1 hc;refine ⟨_,uj hu hb,?_⟩;rw [if_neg hr,if_pos ht];simp only [cH,ui];rw [<- hc];exact Kz
    simp only [gz g] at hc;refine ⟨_,uj hu hc,?_⟩;rw [if_neg hr,if_pos ht];simp only [];rw [gz λe=>g e.symm,nC _ _ _ g];exact Kz
   by_cases g:c=cl (l.getD k default).Loc
   ·subst g;simp only [cH] at hc
    cases hc
   simp only [gz g] at hc;refine ⟨_,uj hu hc,?_⟩;rw [if_neg hr,if_pos ht];simp only [];rw [show ud (ud u.2 (cl (l.getD k default).Loc) []) c r=ud (ud u.2 c r) (cl (l.getD k default).Loc) [] from nC _ _ _ λe=>g e.symm];exact K8 _ Kz
  rename_i ht;obtain rfl:=KI.1 hs;refine ⟨_,uj hu hc,?_⟩;rw [if_neg hr,if_neg ht];exact Kz
end
def VlL (s:LSt):Prop:=(∀ g,0<=s.1 g/\s.1 g<=3)/\∀ c e,e∈s.2 c->(0<=e.1/\e.1<=2)/\0<=e.2/\e.2<=3
section
variable {P:Nat->List GY} {cl:Int->Int}
structure InT (P:Nat->List GY) (cl:Int->Int) (a:TS):Prop where
 ls:∀ t,(a.rg t,a.bf t)∈LSn cl (P t) (a.pc t)
 vl:∀ t,VlL (a.rg t,a.bf t)
 pc:∀ t,a.pc t<=(P t).length
 mm:∀ l,0<=a.mm l/\a.mm l<=3
 m0:∀ l,¬ (0<=l/\l<=2)->a.mm l=0
theorem Bn {l z:Int} {b:List (Int×Int)}:oL l b z=z\/∃ e∈b,oL l b z=e.2:=by
 unfold oL
 cases h:b.reverse.find? λe=>decide (e.1=l) with
 | none=>exact .inl rfl
 | some e=>exact .inr ⟨e,List.mem_reverse.1<|List.mem_of_find?_eq_some h,rfl⟩
theorem InT.start:InT P cl a0T:=⟨λ_=>Kz,λ_=>⟨λ_=>⟨Kw _,by show (0:Int)<=3;decide⟩,λ_ _ h=>by cases h⟩,λ_=>KP _,λ_=>⟨Kw _,by show (0:Int)<=3;decide⟩,λ_ _=>rfl⟩
theorem InT.seen {a:TS} (h:InT P cl a) (t:Nat) (l:Int):0<=jv cl a t l/\jv cl a t l<=3:=by
 unfold jv;rcases Bn (l:=l) (z:=a.mm l) (b:=a.bf t<|cl l) with e | ⟨x,hx,e⟩
 ·rw [e];exact h.mm l
 rw [e];exact ((h.vl t).2 _ _ hx).2
theorem InT.val {a:TS} (h:InT P cl a) (t:Nat) {x:GY} (hx:InR x):0<=mU a t x/\mU a t x<=3:=by
 unfold mU
 split
 ·exact (h.vl t).1 _
 exact ⟨hx.2.2.2.2.1,hx.2.2.2.2.2⟩
theorem InT.step (hP:∀ (t k:Nat) (x:GY),(P t)[k]? = some x->InR x) {a b:TS} (h:InT P cl a) (s:StT P false cl a b):InT P cl b:=by
 cases s with
 | @ex t x hc=>
  have hx:=hP _ _ _ hc.1;have hs:=h.seen t x.Loc;have hv:=h.val t hx;obtain ⟨hk,he⟩:=ges hc.1;have hg:(P t).getD (a.pc t) default=x:=by simp [List.getD,hc.1]
  refine ⟨λu=>?_,λu=>?_,λu=>?_,λl=>?_,λl hl=>?_⟩
  ·by_cases hu:u=t
   ·subst hu;have hl:=h.ls u;simp only [G8,cH];refine KA.2 ⟨_,hl,?_⟩;rw [hg];unfold lsx
    cases hr:rdX x with
    | true=>
     have hn:pQ x=false:=by
      cases e:pQ x with
      | false=>rfl
      | true=>rw [(uT e).1] at hr;cases hr
     rw [hn];simp only [if_true,Bool.false_and,Bool.false_eq_true,if_false,cH,KD,KG,or_false];have : jv cl a u x.Loc=0\/jv cl a u x.Loc=1\/jv cl a u x.Loc=2\/jv cl a u x.Loc=3:=by omega
     rcases this with e | e | e | e <;> rw [e] <;> simp
    | false=>
     simp only [Bool.false_eq_true,if_false]
     cases ht:pQ x with
     | false=>simp
     | true=>
      simp only [if_true,Bool.true_and,Bool.not_false,cH];exact Kz
   simp only [G8,gz hu];have hl:=h.ls u;have e1:(if rdX x=true then ud a.rg t (ud (a.rg t) x.Reg<|jv cl a t x.Loc) else a.rg) u=a.rg u:=by split <;> simp [gz hu]
   have e2:(if (pQ x && !false)=true then ud a.bf t (ud (a.bf t) (cl x.Loc)<|a.bf t (cl x.Loc)++[(x.Loc,mU a t x)]) else a.bf) u=a.bf u:=by split <;> simp [gz hu]
   rw [e1,e2];exact hl
  ·have hl:=h.vl u
   by_cases hu:u=t
   ·subst hu;refine ⟨λg=>?_,λc e he=>?_⟩
    ·simp only [G8]
     split
     ·rw [cH];unfold ud
      split
      ·exact hs
      exact hl.1 g
     exact hl.1 g
    simp only [G8] at he
    split at he
    ·rw [cH] at he;unfold ud at he
     split at he
     ·rcases KL.1 he with he | he
      ·exact hl.2 _ _ he
      rw [KI.1 he];exact ⟨⟨hx.1,hx.2.1⟩,hv⟩
     exact hl.2 _ _ he
    exact hl.2 _ _ he
   have e1:(G8 false cl a t x).rg u=a.rg u:=by simp only [G8];split <;> simp [gz hu]
   have e2:(G8 false cl a t x).bf u=a.bf u:=by simp only [G8];split <;> simp [gz hu]
   rw [e1,e2];exact hl
  ·simp only [G8,ud]
   split
   ·rename_i e;subst e;omega
   exact h.pc u
  ·simp only [G8]
   split
   ·unfold ud
    split
    ·exact hv
    exact h.mm l
   exact h.mm l
  simp only [G8]
  split
  ·rw [gz λe=>hl (by rw [e];exact ⟨hx.1,hx.2.1⟩)];exact h.m0 l hl
  exact h.m0 l hl
 | @fl t c e r hb=>
  have he:=(h.vl t).2 c e (by show e∈a.bf t c;rw [hb];exact Kz);refine ⟨λu=>?_,λu=>?_,h.pc,λl=>?_,λl hl=>?_⟩
  ·by_cases hu:u=t
   ·subst hu;simp only [flT,cH];exact uj (h.ls u) hb
   simp only [flT,gz hu];exact h.ls u
  ·have hl:=h.vl u
   by_cases hu:u=t
   ·subst hu;refine ⟨hl.1,λc' e' he' => ?_⟩;simp only [flT,cH] at he';unfold ud at he'
    split at he'
    ·exact hl.2 c e' (by show e'∈a.bf u c;rw [hb];exact K8 _ he')
    exact hl.2 _ _ he'
   simp only [flT,gz hu];exact hl
  ·simp only [flT,ud]
   split
   ·exact he.2
   exact h.mm l
  simp only [flT];rw [gz λe=>hl (by rw [e];exact he.1)];exact h.m0 l hl
theorem InT.of (hP:∀ (t k:Nat) (x:GY),(P t)[k]? = some x->InR x) {a:TS} (h:Rch (StT P false cl) a0T a):InT P cl a:=
 h.inv _ .start λ_ _ h s=>h.step hP s
def Lt (P:Nat->List GY) (cl:Int->Int) (t:Nat):List (Nat×LSt):=(Ky<|(P t).length+1).flatMap λk=>(LSn cl (P t) k).map λs=>(k,s)
theorem Bp (h7:∀ t,(P t).length<=7) (t:Nat):(Lt P cl t).length<=8*4 ^ evN (P t):=by
 have := zn (f:=λk=>(LSn cl (P t) k).map λs=>(k,s)) (l:=Ky<|(P t).length+1) (m:=4 ^ evN (P t)) λk hk=>by
  have hk:=KN.1 hk;rw [llm];exact KC (Bm<|by omega)<|Lu (by decide)<|CI _ _
 rw [List.length_range] at this;exact KC this<|KZ _ (by have := h7 t;omega)
def m3:List (Int×Int×Int):=[0,1,2,3].flatMap λa=>[0,1,2,3].flatMap λb=>[0,1,2,3].map λc=>(a,b,c)
theorem Fj {a b c:Int} (ha:0<=a/\a<=3) (hb:0<=b/\b<=3) (hc:0<=c/\c<=3):(a,b,c)∈m3:=by
 have h:∀ x:Int,0<=x/\x<=3->x∈([0,1,2,3]:LI):=λx hx=>by
  have : x=0\/x=1\/x=2\/x=3:=by omega
  rcases this with rfl | rfl | rfl | rfl <;> decide
 exact KA.2 ⟨a,h a ha,KA.2 ⟨b,h b hb,KM.2 ⟨c,h c hc,rfl⟩⟩⟩
def Fq {α:Type} (a b c z:α) (t:Nat):α:=if t=0 then a else if t=1 then b else if t=2 then c else z
def mkT (a b c:Nat×LSt) (m:Int×Int×Int):TS where
 pc t:=(Fq a b c (0,l0) t).1
 rg t:=(Fq a b c (0,l0) t).2.1
 mm l:=if l=0 then m.1 else if l=1 then m.2.1 else if l=2 then m.2.2 else 0
 bf t:=(Fq a b c (0,l0) t).2.2
theorem GF (hP:∀ (t k:Nat) (x:GY),(P t)[k]? = some x->InR x) (h3:∀ t,3<=t->P t=[]) (h7:∀ t,(P t).length<=7) (he:evN (P 0)+evN (P 1)+evN (P 2)<=12) (V:List TS) (hn:V.Nodup) (hV:∀ v∈V,Rch (StT P false cl) a0T v):V.length<=549755813888:=by
 have hs:=Bl hn (l:=(Lt P cl 0).flatMap λa=>(Lt P cl 1).flatMap λb=>(Lt P cl 2).flatMap λc=>m3.map<|mkT a b c) λv hv=>?_
 ·have l2:=Bp (cl:=cl) h7 2;have l1:=Bp (cl:=cl) h7 1;have l0:=Bp (cl:=cl) h7 0;have k2:∀ a b,((Lt P cl 2).flatMap λc=>m3.map<|mkT a b c).length<=8*4 ^ evN (P 2)*64:=λa b=>KC (zn (m:=64) λ_ _=>by rw [llm];decide) (KZ _ l2);have k1:∀ a,((Lt P cl 1).flatMap λb=>(Lt P cl 2).flatMap λc=>m3.map<|mkT a b c).length<=8*4 ^ evN (P 1)*(8*4 ^ evN (P 2)*64):=λa=>KC (zn λb _=>k2 a b)<|KZ _ l1;have k0:=KC (zn (l:=Lt P cl 0) λa _=>k1 a)<|KZ _ l0;have e:8*4 ^ evN (P 0)*(8*4 ^ evN (P 1)*(8*4 ^ evN (P 2)*64))=32768*4 ^ (evN (P 0)+evN (P 1)+evN (P 2)):=by
   rw [Nat.pow_add,Nat.pow_add];generalize 4 ^ evN (P 0)=x;generalize 4 ^ evN (P 1)=y;generalize 4 ^ evN (P 2)=z;have : 8*x*(8*y*(8*z*64))=32768*(x*y*z):=by
    simp only [Nat.mul_assoc,Nat.mul_left_comm,Nat.mul_comm]
   exact this
  rw [e] at k0;have h4:4 ^ (evN (P 0)+evN (P 1)+evN (P 2))<=4 ^ 12:=Lu (by decide) he;have h5:(4:Nat) ^ 12=16777216:=by decide
  omega
 have hi:=InT.of hP<|hV v hv;have hm:∀ t,(v.pc t,v.rg t,v.bf t)∈Lt P cl t:=λt=>KA.2 ⟨v.pc t,KN.2 (by have := hi.pc t;omega),KM.2 ⟨_,hi.ls t,rfl⟩⟩;refine KA.2 ⟨_,hm 0,KA.2 ⟨_,hm 1,KA.2 ⟨_,hm 2,KM.2 ⟨(v.mm 0,v.mm 1,v.mm 2),Fj (hi.mm 0) (hi.mm 1)<|hi.mm 2,?_⟩⟩⟩⟩;have hsel:∀ t,Fq (v.pc 0,v.rg 0,v.bf 0) (v.pc 1,v.rg 1,v.bf 1) (v.pc 2,v.rg 2,v.bf 2) (0,l0) t=(v.pc t,v.rg t,v.bf t):=λt=>by
  unfold Fq
  split
  ·rename_i h;rw [h]
  split
  ·rename_i h;rw [h]
  split
  ·rename_i h;rw [h]
  have h0:=h3 t (by omega);have h1:=hi.pc t;have h2:=hi.ls t;rw [h0] at h1 h2;have h1:v.pc t=0:=by simpa using h1
  rw [h1] at h2 ⊢;rw [KI.1 h2]
 unfold mkT;refine TS.ext ?_ ?_ ?_ ?_
 ·funext t;simp only [hsel]
 ·funext t;simp only [hsel]
 ·funext l
  simp only []
  split
  ·rename_i h;rw [h]
  split
  ·rename_i h;rw [h]
  split
  ·rename_i h;rw [h]
  exact (hi.m0 l<|by omega).symm
 funext t;simp only [hsel]
end
def prg (p:List<|List GY):Nat->List GY:=λt=>p.getD t default
def clB (sp:Bool):Int->Int:=λl=>bif sp then l else 0
def vo (sp:Bool) (c:Int):Prop:=(sp=true/\0<=c/\c<=2)\/(sp=false/\c=0)
instance (sp:Bool) (c:Int):Decidable (vo sp c):=by unfold vo;infer_instance
def ixB (sp:Bool) (t:Nat) (c:Int):Nat:=bif sp then 3*t+c.toNat else t
def wF (b:Int):Int×Int:=(b.tdiv 16,b.tmod 16)
def pcF (a:Z3b):Nat->Nat:=λt=>if t<3 then (Z3b.get a t).toNat else 0
def rgF (a:Z33):Nat->Int->Int:=λt g=>if t<3/\0<=g/\g<=2 then Z3b.get (Z33.get a t) g else 0
def mmF (a:Z3b):Int->Int:=λl=>if 0<=l/\l<=2 then Z3b.get a l else 0
def bfF (n:Nat) (sp:Bool) (w:LL):Nat->Int->List (Int×Int):=λt c=>if t<n/\vo sp c then (w.getD (ixB sp t c) default).map wF else []
def AB (s:ae):TS:=⟨pcF s.values.pc,rgF s.values.reg,mmF s.values.mem,bfF s.values.p.length s.split s.waits⟩
def AS (s:G3):TS:=⟨pcF s.values.pc,rgF s.values.reg,mmF s.values.mem,λ_ _=>[]⟩
theorem Bq (a:Z3b) {t:Nat} (ht:t<3) (v:Int):pcF (Z3b.set a t v)=ud (pcF a) t v.toNat:=by
 funext i
 simp only [pcF,vY]
 by_cases h:i<3
 ·rw [if_pos h,if_pos h,kT _ _ _ _ (by omega) (by omega)]
  by_cases e:i=t
  ·rw [if_pos (by omega),if_pos e]
  rw [if_neg (by omega),if_neg e]
 rw [if_neg h,if_neg h,if_neg (by omega)]
theorem Fs (a:Z33) (t:Nat) (g:Int):rgF a t g=if t<3/\0<=g/\g<=2 then Z3b.get (Z33.get a t) g else 0:=rfl
theorem Ft (n:Nat) (sp:Bool) (w:LL) (t:Nat) (c:Int):bfF n sp w t c=if t<n/\vo sp c then (w.getD (ixB sp t c) default).map wF else []:=rfl
theorem Bt (a:Z33) {t:Nat} (ht:t<3) {g:Int} (hg:0<=g/\g<=2) (v:Int):rgF (Z33.set a t<|Z3b.set (Z33.get a t) g v)=ud (rgF a) t (ud (rgF a t) g v):=by
 funext i j
 rw [Fs];simp only [vY]
 by_cases e:i=t
 ·subst e;rw [if_pos rfl];simp only [vY,rgF]
  by_cases h:0<=j/\j<=2
  ·rw [if_pos ⟨ht,h⟩,rP _ _ _ _ (by omega) (by omega),if_pos rfl,kT _ _ _ _ hg h]
   by_cases k:j=g
   ·rw [if_pos k,if_pos k]
   rw [if_neg k,if_neg k,if_pos ⟨ht,h⟩]
  rw [if_neg λk=>h k.2,if_neg λk=>h (by rw [k];exact hg),if_neg λk=>h k.2]
 rw [if_neg e];simp only [rgF]
 by_cases h:i<3/\0<=j/\j<=2
 ·rw [if_pos h,if_pos h,rP _ _ _ _ (by omega) (by omega),if_neg (by omega)]
 rw [if_neg h,if_neg h]
theorem xm (a:Z3b) {l:Int} (hl:0<=l/\l<=2) (v:Int):mmF (Z3b.set a l v)=ud (mmF a) l v:=by
 funext i
 simp only [mmF,vY]
 by_cases h:0<=i/\i<=2
 ·rw [if_pos h,if_pos h,kT _ _ _ _ hl h]
 rw [if_neg h,if_neg h,if_neg λe=>h (by rw [e];exact hl)]
theorem Bu {sp:Bool} {t t':Nat} {c c':Int} (h:vo sp c) (h':vo sp c') (e:ixB sp t c=ixB sp t' c'):t=t'/\c=c':=by
 unfold ixB at e;rcases h with ⟨rfl,h⟩ | ⟨rfl,rfl⟩
 ·rcases h' with ⟨_,h'⟩ | ⟨h',_⟩
  ·simp only [cond_true] at e;omega
  cases h'
 rcases h' with ⟨h',_⟩ | ⟨_,rfl⟩
 ·cases h'
 exact ⟨e,rfl⟩
theorem Bv {sp:Bool} {t n:Nat} {c:Int} (h:vo sp c) (ht:t<n):ixB sp t c<bif sp then 3*n else n:=by
 unfold ixB;rcases h with ⟨rfl,h⟩ | ⟨rfl,rfl⟩
 ·simp only [cond_true];omega
 exact ht
theorem vZ {sp:Bool} {n b:Nat} (hb:b<bif sp then 3*n else n):∃ t c,t<n/\vo sp c/\ixB sp t c=b:=by
 cases sp with
 | true=>
  simp only [cond_true] at hb;exact ⟨b / 3,((b % 3:Nat):Int),by omega,.inl ⟨rfl,by omega,by omega⟩,by simp only [ixB,cond_true];omega⟩
 | false=>exact ⟨b,0,hb,.inr ⟨rfl,rfl⟩,rfl⟩
theorem Bw (sp:Bool) {l:Int} (hl:0<=l/\l<=2):vo sp (clB sp l):=by
 cases sp with
 | true=>exact .inl ⟨rfl,hl⟩
 | false=>exact .inr ⟨rfl,rfl⟩
theorem qJ (sp:Bool) (t:Nat) {l:Int} (hl:0<=l/\l<=2):(eC sp t l).toNat=ixB sp t (clB sp l)/\0<=eC sp t l:=by
 unfold eC ixB clB
 cases sp with
 | true=>simp only [cond_true];omega
 | false=>simp only [cond_false];omega
theorem Bx {n:Nat} {sp:Bool} {w:LL} {t:Nat} {c:Int} (ht:t<n) (hc:vo sp c) (hw:w.length=bif sp then 3*n else n) (v:LI):bfF n sp (w.set (ixB sp t c) v)=ud (bfF n sp w) t (ud (bfF n sp w t) c<|v.map wF):=by
 have hlt:=Bv hc ht;rw [<- hw] at hlt
 funext i j
 rw [Ft];simp only [vY]
 by_cases e:i=t
 ·subst e;rw [if_pos rfl];simp only [vY,bfF]
  by_cases g:j=c
  ·subst g;rw [if_pos ⟨ht,hc⟩,if_pos rfl];simp [List.getD,hlt]
  rw [if_neg g]
  by_cases h:vo sp j
  ·rw [if_pos ⟨ht,h⟩,if_pos ⟨ht,h⟩];have : ixB sp i c≠ixB sp i j:=λk=>g (Bu hc h k).2.symm;simp [List.getD,Lc this]
  rw [if_neg λk=>h k.2,if_neg λk=>h k.2]
 rw [if_neg e];simp only [bfF]
 by_cases h:i<n/\vo sp j
 ·rw [if_pos h,if_pos h];have : ixB sp t c≠ixB sp i j:=λk=>e (Bu hc h.2 k).1.symm;simp [List.getD,Lc this]
 rw [if_neg h,if_neg h]
theorem zo (w:LI) (l z:Int):pI w l z=oL l (w.map wF) z:=by
 unfold pI oL;rw [<- List.map_reverse];generalize w.reverse=r
 induction r with
 | nil=>rfl
 | cons b r ih=>
  simp only [KY,List.find?_cons]
  by_cases h:b.tdiv 16=l
  ·have : (b.tdiv 16==l)=true:=by simpa using h
   rw [this];simp [wF,h]
  have : (b.tdiv 16==l)=false:=by simpa using h
  rw [this];simp only [wF,h,decide_false];exact ih
theorem CJ {a b:Int} (h:wF a=wF b):a=b:=by
 unfold wF at h;injection h with h1 h2;have ha:=Lh a 16;have hb:=Lh b 16;omega
theorem qi:∀ {v w:LI},v.map wF=w.map wF->v=w
 | [],[],_=>rfl
 | [],_::_,h=>by cases h
 | _::_,[],h=>by cases h
 | a::v,b::w,h=>by
  injection h with h1 h2;rw [CJ h1,qi h2]
structure PW (p:List (List GY)):Prop where
 pv:PV p
 ev:evN (prg p 0)+evN (prg p 1)+evN (prg p 2)<=12
 op:∀ (t k:Nat) (x:GY),(prg p t)[k]? = some x->1<=x.Op/\x.Op<=5
section
variable {p:List (List GY)}
theorem yx {t k:Nat} {x:GY} (h:(prg p t)[k]? = some x):t<p.length:=by
 rcases KT t p.length with g | g
 ·exact g
 unfold prg at h;rw [gdq,gen g] at h
 cases h
theorem PV.prg (hp:PV p) (t k:Nat) (x:GY) (h:(prg p t)[k]? = some x):InR x:=by
 have ht:=yx h;obtain ⟨hk,e⟩:=ges h;have := hp.ins t k ht hk;have e2:(p.getD t default).getD k default=x:=by
  rw [gdq];unfold Go.Proofs.YtjcmfddobaplbaaGreat.prg at h;rw [h];rfl
 rw [e2] at this;exact this
theorem PV.prg0 (hp:PV p) (t:Nat) (h:3<=t):Go.Proofs.YtjcmfddobaplbaaGreat.prg p t=[]:=by
 have := hp.vs.1;unfold Go.Proofs.YtjcmfddobaplbaaGreat.prg;rw [gdq,gen (by omega)]
 rfl
theorem PW.cnl (hp:PW p) {cl:Int->Int} (V:List TS) (hn:V.Nodup) (hV:∀ v∈V,Rch (StT (prg p) false cl) a0T v):V.length<=549755813888:=
 GF hp.pv.prg hp.pv.prg0 hp.pv.vs.2 hp.ev V hn hV
structure IB (p:List (List GY)) (sp:Bool) (s:ae):Prop where
 up:s.values.p=p
 sq:s.split=sp
 wl:s.waits.length=bif sp then 3*p.length else p.length
 by_:∀ w∈s.waits,∀ b∈w,0<=b/\b<=255
 pc:∀ t:Nat,t<3->0<=Z3b.get s.values.pc t
variable {sp:Bool} {s:ae}
theorem IB.iv (h:IB p sp s) {cl:Int->Int} (hi:InT (prg p) cl<|AB s):Iv p s.values where
 up:=h.up
 pc:=λt ht=>by
  have h1:=hi.pc t;have h2:=h.pc t ht;simp only [AB,pcF,if_pos ht] at h1;unfold prg at h1;omega
 rv:=λt g ht hg=>by
  have := (hi.vl t).1 g;simp only [AB,rgF] at this
  rwa [if_pos ⟨ht,by omega,by omega⟩] at this
 mv:=λl hl=>by
  have := hi.mm l;simp only [AB,mmF] at this
  rwa [if_pos ⟨by omega,by omega⟩] at this
theorem IB.bf (h:IB p sp s) {t:Nat} {c:Int} (ht:t<p.length) (hc:vo sp c):(AB s).bf t c=(s.waits.getD (ixB sp t c) default).map wF:=by
 simp only [AB,bfF,h.up,h.sq];rw [if_pos ⟨ht,hc⟩]
theorem IB.bf0 (h:IB p sp s) {t:Nat} {c:Int} (hc : ¬ (t<p.length/\vo sp c)):(AB s).bf t c=[]:=by
 simp only [AB,bfF,h.up,h.sq];rw [if_neg hc]
theorem l8 {u:GZ} (hu:u.p=p) {t:Nat} (ht:t<3) (h0:0<=Z3b.get u.pc t):(xg u t=true->(prg p t)[pcF u.pc t]? = some (rR u t))/\(∀ x,(prg p t)[pcF u.pc t]? = some x->xg u t=true/\x=rR u t):=by
 have hpc:pcF u.pc t=(Z3b.get u.pc t).toNat:=if_pos ht;rw [hpc];unfold xg rR prg;rw [hu,tnn];refine ⟨λh=>?_,λx h=>?_⟩
 ·have h:=of_decide_eq_true h;have : (Z3b.get u.pc t).toNat<(p.getD t default).length:=by omega
  rw [gdq (l:=p.getD t default),geq this]
  rfl
 obtain ⟨h1,h2⟩:=ges h;refine ⟨decide_eq_true (by omega),?_⟩;rw [gdq (l:=p.getD t default),h]
 rfl
def qj (s:ae) (t:Nat):Bool:=([0,1,2]:LI).all λl=>(s.waits.getD (eC s.split t l).toNat default).isEmpty
theorem IB.empty (h:IB p sp s) {t:Nat} (ht:t<p.length):qj s t=true↔∀ c,(AB s).bf t c=[]:=by
 unfold qj;rw [K3,h.sq];refine ⟨λg c=>?_,λg l hl=>?_⟩
 ·by_cases hc:vo sp c
  ·rw [h.bf ht hc];have : ∃ l:Int,l∈([0,1,2]:LI)/\(0<=l/\l<=2)/\clB sp l=c:=by
    rcases hc with ⟨rfl,h1⟩ | ⟨rfl,rfl⟩
    ·have : c=0\/c=1\/c=2:=by omega
     exact ⟨c,by rcases this with rfl | rfl | rfl <;> decide,h1,rfl⟩
    exact ⟨0,by decide,by decide,rfl⟩
   obtain ⟨l,h1,h2,h3⟩:=this;have := g l h1;rw [(qJ sp t h2).1,h3] at this;rw [KE.1 this];rfl
  exact h.bf0 λk=>hc k.2
 have hl':0<=l/\l<=2:=by
  simp only [KD,KG,or_false] at hl;omega
 have := g<|clB sp l;rw [h.bf ht (Bw sp hl')] at this;rw [(qJ sp t hl').1,KE];exact Lv.1 this
def cnB (s:ae) (t:Nat):Bool:=xg s.values t&&(((rR s.values t).Op != 4&&(rR s.values t).Op != 5)||qj s t)
theorem IB.can (hp:PV p) (h:IB p sp s) {t:Nat} (ht:t<p.length):cnB s t=true↔F7 (prg p) (AB s) t (rR s.values t):=by
 have hl:=hp.vs.1;obtain ⟨h1,h2⟩:=l8 h.up (by omega:t<3)<|h.pc t (by omega);unfold cnB F7;rw [bae,Bool.or_eq_true,bae,h.empty ht];refine ⟨λ⟨g1,g2⟩=>⟨h1 g1,λg3=>g2.elim (λg2=>?_) id⟩,λ⟨g1,g2⟩=>⟨(h2 _ g1).1,?_⟩⟩
 ·simp only [bne_iff_ne] at g2;exact absurd g3 (by omega)
 by_cases g3:(rR s.values t).Op=4\/(rR s.values t).Op=5
 ·exact .inr<|g2 g3
 refine .inl ⟨?_,?_⟩ <;> simp only [bne_iff_ne] <;> omega
def exB (s:ae) (t:Int) (x:GY):ae:=
 ⟨⟨s.values.p,Z3b.set s.values.pc t (Z3b.get s.values.pc t+1),
  if rdX x=true then Z33.set s.values.reg t (Z3b.set (Z33.get s.values.reg t) x.Reg<|pI (s.waits.getD (eC s.split t x.Loc).toNat default) x.Loc<|Z3b.get s.values.mem x.Loc) else s.values.reg,
  if x.Op=5 then Z3b.set s.values.mem x.Loc x.Val else s.values.mem⟩,s.split,
  if pQ x=true then s.waits.set (eC s.split t x.Loc).toNat (s.waits.getD (eC s.split t x.Loc).toNat default++[x.Loc*16+wE s.values t x]) else s.waits⟩
def flB (s:ae) (b:Nat):ae:=
 ⟨⟨s.values.p,s.values.pc,s.values.reg,Z3b.set s.values.mem (((s.waits.getD b default).getD 0 default).tdiv 16)<|((s.waits.getD b default).getD 0 default).tmod 16⟩,s.split,s.waits.set b<|(s.waits.getD b default).drop 1⟩
theorem Ek {l v:Int} (hl:0<=l/\l<=2) (hv:0<=v/\v<=3):wF (l*16+v)=(l,v):=by
 unfold wF;have h1:=Lh (l*16+v) 16;have h2:0<=(l*16+v).tmod 16:=Int.tmod_nonneg _ (by omega);have h3:(l*16+v).tmod 16<16:=Int.tmod_lt_of_pos _ (by decide);refine Prod.ext ?_ ?_ <;> simp only [] <;> omega
theorem IB.val (h:IB p sp s) (iv:Iv p s.values) {t:Nat} (ht:t<3) {x:GY} (hx:InR x):wE s.values t x=mU (AB s) t x/\0<=wE s.values t x/\wE s.values t x<=3:=by
 obtain ⟨x1,x2,x3,x4,x5,x6⟩:=hx;unfold wE mU
 split
 ·simp only [AB,rgF];rw [if_pos ⟨ht,x3,x4⟩];have := iv.rv t x.Reg.toNat ht (by omega);rw [Lg x3] at this;exact ⟨rfl,this⟩
 exact ⟨rfl,x5,x6⟩
theorem IB.exA (hp:PV p) (h:IB p sp s) (iv:Iv p s.values) {t:Nat} (ht:t<p.length) {x:GY} (hx:InR x):AB (exB s t x)=G8 false (clB sp) (AB s) t x:=by
 have hl:=hp.vs.1;have ht3:t<3:=by omega
 have hloc:0<=x.Loc/\x.Loc<=2:=⟨hx.1,hx.2.1⟩;have hreg:0<=x.Reg/\x.Reg<=2:=⟨hx.2.2.1,hx.2.2.2.1⟩;have hv:=h.val iv ht3 hx;have hix:=qJ sp t hloc;have hc:=Bw sp hloc;have hbf:=h.bf ht hc;refine TS.ext ?_ ?_ ?_ ?_
 ·have := iv.pc t ht3;simp only [AB,exB,G8];rw [Bq _ ht3]
  congr 1
  simp only [pcF,if_pos ht3];omega
 ·have hse:pI (s.waits.getD (eC s.split t x.Loc).toNat default) x.Loc (Z3b.get s.values.mem x.Loc)=jv (clB sp) (AB s) t x.Loc:=by
   have hm:(AB s).mm x.Loc=Z3b.get s.values.mem x.Loc:=if_pos hloc;unfold jv;rw [zo,h.sq,hix.1,<- hbf,hm]
  rw [yw,<- hse];simp only [AB,exB]
  split
  ·rw [Bt _ ht3 hreg]
  rfl
 ·rw [Bj];simp only [AB,exB]
  by_cases h5:x.Op=5
  ·have : (wrX x&&(false||x.Op==5))=true:=by unfold wrX;rw [h5];rfl
   rw [if_pos h5,if_pos this,xm _ hloc]
   congr 1
   unfold mU;rw [if_neg (by omega)]
  have : (wrX x&&(false||x.Op==5))=false:=by simp [h5]
  rw [if_neg h5,if_neg (by rw [this];decide)]
 rw [m7];simp only [AB,exB]
 by_cases hs:pQ x=true
 ·rw [if_pos hs,if_pos (by rw [hs];rfl),h.sq,h.up,hix.1,Bx ht hc h.wl,KW,List.map_singleton,Ek hloc hv.2,hv.1];simp only [AB,h.sq,h.up] at hbf;rw [<- hbf]
  rfl
 rw [if_neg hs,if_neg (by simpa using hs)]
theorem IB.flA (hp:PV p) (h:IB p sp s) {t:Nat} {c:Int} (ht:t<p.length) (hc:vo sp c) {e:Int×Int} {r:List (Int×Int)} (hb:(AB s).bf t c=e::r) (he:0<=e.1/\e.1<=2):AB (flB s<|ixB sp t c)=flT (AB s) t c e r:=by
 rw [h.bf ht hc] at hb;obtain ⟨b,w,hw,rfl,rfl⟩:=List.map_eq_cons_iff.1 hb;refine TS.ext rfl rfl ?_ ?_
 ·simp only [AB,flB,flT];rw [hw];exact xm _ he _
 simp only [AB,flB,flT];rw [h.sq,h.up,Bx ht hc h.wl,hw]
 rfl
theorem IB.ex (hp:PV p) (h:IB p sp s) (iv:Iv p s.values) {t:Nat} (ht:t<p.length) {x:GY} (hx:InR x):IB p sp (exB s t x):=by
 have hl:=hp.vs.1;have hv:=h.val iv (by omega:t<3) hx;refine ⟨h.up,h.sq,?_,λw hw b hb=>?_,λi hi=>?_⟩
 ·simp only [exB]
  split
  ·rw [List.length_set];exact h.wl
  exact h.wl
 ·simp only [exB] at hw
  split at hw
  ·rcases Lx hw with hw | rfl
   ·exact h.by_ w hw b hb
   rcases KL.1 hb with hb | hb
   ·have : s.waits.getD (eC s.split t x.Loc).toNat default∈s.waits\/s.waits.getD (eC s.split t x.Loc).toNat default=[]:=by
     rw [gdq]
     cases e:s.waits[(eC s.split t x.Loc).toNat]? with
     | none=>exact .inr rfl
     | some w=>exact .inl (Li e)
    rcases this with g | g
    ·exact h.by_ _ g b hb
    rw [g] at hb;cases hb
   rw [KI.1 hb];obtain ⟨x1,x2,_⟩:=hx;omega
  exact h.by_ w hw b hb
 simp only [exB];rw [kT _ _ _ _ (by omega) (by omega)];have h1:=h.pc t (by omega);have h2:=h.pc i hi
 split <;> omega
theorem IB.fl (h:IB p sp s) (b:Nat):IB p sp (flB s b):=by
 refine ⟨h.up,h.sq,?_,λw hw b' hb=>?_,h.pc⟩
 ·simp only [flB];rw [List.length_set];exact h.wl
 simp only [flB] at hw;rcases Lx hw with hw | rfl
 ·exact h.by_ w hw b' hb
 have hb:=Ly hb;have : s.waits.getD b default∈s.waits\/s.waits.getD b default=[]:=by
  rw [gdq]
  cases e:s.waits[b]? with
  | none=>exact .inr rfl
  | some w=>exact .inl (Li e)
 rcases this with g | g
 ·exact h.by_ _ g b' hb
 rw [g] at hb;cases hb
def Fu (s:ae):LI:=keyL s.values++s.waits.flatMap λw=>(w.length:Int)::w
def pR:Mac ae where
 mv s:=((Ky s.values.p.length).filter<|cnB s).map Int.ofNat++((Ky s.waits.length).filter λb => !(s.waits.getD b default).isEmpty).map λb:Nat=>(s.values.p.length:Int)+(b:Int)
 af s m:=if (s.values.p.length:Int)<=m then flB s (m-(s.values.p.length:Int)).toNat else exB s m (rR s.values m)
 ky s:=strOfNums<|Fu s
 dn s:=(rQ s.values).isEmpty&&s.waits.all (·.isEmpty)
 oc s:=Bg s.values
theorem uU {m:Int}:m∈pR.mv s↔(∃ t:Nat,t<s.values.p.length/\m=t/\cnB s t=true)\/∃ b:Nat,b<s.waits.length/\m=(s.values.p.length:Int)+(b:Int)/\s.waits.getD b default≠[]:=by
 simp only [pR,KL,KM,Ld,KN];refine or_congr ⟨λ⟨t,⟨h1,h2⟩,h3⟩=>⟨t,h1,h3.symm,h2⟩,λ⟨t,h1,h2,h3⟩=>⟨t,⟨h1,h3⟩,h2.symm⟩⟩ ⟨λ⟨t,⟨h1,h2⟩,h3⟩=>⟨t,h1,h3.symm,by simpa using h2⟩,λ⟨t,h1,h2,h3⟩=>⟨t,⟨h1,by simpa using h3⟩,h2.symm⟩⟩
def kC (p:List<|List GY) (sp:Bool):ae:=⟨v0 p,sp,Lb (bif sp then 3*p.length else p.length) []⟩
theorem IB.start (p:List<|List GY) (sp:Bool):IB p sp (kC p sp):=by
 refine ⟨rfl,rfl,?_,λw hw b hb=>?_,λt _=>?_⟩
 ·simp [kC]
 ·rw [List.eq_of_mem_replicate hw] at hb;cases hb
 simp only [kC,v0,z3];exact Kw _
theorem yz (p:List<|List GY):pcF (v0 p).pc=a0T.pc/\rgF (v0 p).reg=a0T.rg/\mmF (v0 p).mem=a0T.mm:=by
 refine ⟨?_,?_,?_⟩
 ·funext t;simp only [pcF,v0,z3,a0T];split <;> rfl
 ·funext t g;simp only [rgF,v0,z33,z3,a0T];split <;> rfl
 funext t;simp only [mmF,v0,z3,a0T];split <;> rfl
theorem CK (p:List<|List GY) (sp:Bool):AB (kC p sp)=a0T:=by
 obtain ⟨h1,h2,h3⟩:=yz p;refine TS.ext h1 h2 h3 ?_
 funext t c
 simp only [AB,bfF,kC,a0T]
 split
 ·rw [gdq,List.getElem?_replicate]
  split <;> rfl
 rfl
theorem Fv {α β:Type} {f g:α->List β}:∀ {l:List α},(∀ x∈l,f x=g x)->l.flatMap f=l.flatMap g
 | [],_=>rfl
 | x::l,h=>by rw [KR,KR,h x Kz,Fv λy hy=>h y (K8 _ hy)]
theorem DF {u:GZ} {a:TS} (h1:a.rg=rgF u.reg) (h2:a.mm=mmF u.mem) (hl:u.p.length<=3):outT u.p.length a=Bg u:=by
 unfold outT Bg rS FW;rw [h1,h2]
 congr 1
 refine Fv λt ht=>KX λg hg=>?_;have ht:=KN.1 ht;have hg:=KN.1 hg;simp only [rgF];rw [if_pos ⟨by omega,by omega,by omega⟩]
theorem Bz (hp:PW p) (sp:Bool):Bis pR (kC p sp) (StT (prg p) false<|clB sp) a0T (DnT<|prg p) (outT p.length) (IB p sp) AB where
 i0:=IB.start p sp
 h0:=CK p sp
 fw:=λs m h hr hm=>by
  have hi:=InT.of hp.pv.prg hr;have iv:=h.iv hi;have hl:=hp.pv.vs.1;rcases uU.1 hm with ⟨t,h1,rfl,h2⟩ | ⟨b,h1,rfl,h2⟩
  ·rw [h.up] at h1;have hc:=(h.can hp.pv h1).1 h2;have hx:=hp.pv.prg _ _ _ hc.1;have e:pR.af s t=exB s t (rR s.values t):=by
    simp only [pR,h.up];rw [if_neg (by omega)]
   rw [e,h.exA hp.pv iv h1 hx];exact ⟨h.ex hp.pv iv h1 hx,.ex hc⟩
  rw [h.wl] at h1;obtain ⟨t,c,ht,hc,rfl⟩:=vZ h1;have e:pR.af s ((s.values.p.length:Int)+(ixB sp t c:Nat))=flB s (ixB sp t c):=by
   simp only [pR];rw [if_pos (by omega)]
   congr 1
   omega
  rw [e];have hb:=h.bf ht hc;obtain ⟨b,w,hw⟩:=LA h2;rw [hw,KY] at hb;have he:=((hi.vl t).2 c (wF b)<|by show _∈(AB s).bf t c;rw [hb];exact Kz).1;rw [h.flA hp.pv ht hc hb he];exact ⟨h.fl _,.fl hb⟩
 bw:=λs a h hr hs=>by
  have hi:=InT.of hp.pv.prg hr;have iv:=h.iv hi;have hl:=hp.pv.vs.1
  cases hs with
  | @ex t x hc=>
   have ht:=yx hc.1;obtain ⟨h1,h2⟩:=l8 h.up (by omega:t<3)<|h.pc t (by omega);obtain ⟨h3,rfl⟩:=h2 x hc.1;refine ⟨t,uU.2<|.inl ⟨t,by rw [h.up];exact ht,rfl,(h.can hp.pv ht).2 hc⟩,?_⟩;have e:pR.af s t=exB s t (rR s.values t):=by
    simp only [pR,h.up];rw [if_neg (by omega)]
   rw [e];exact h.exA hp.pv iv ht<|hp.pv.prg _ _ _ hc.1
  | @fl t c e r hb=>
   have hq:t<p.length/\vo sp c:=Decidable.byContradiction λk=>by rw [h.bf0 k] at hb;cases hb
   have hb':=hb;rw [h.bf hq.1 hq.2] at hb';have he:=((hi.vl t).2 c e<|by show _∈(AB s).bf t c;rw [hb];exact Kz).1;refine ⟨_,uU.2<|.inr ⟨ixB sp t c,by rw [h.wl];exact Bv hq.2 hq.1,rfl,λk=>by rw [k] at hb';cases hb'⟩,?_⟩;have e2:pR.af s ((s.values.p.length:Int)+(ixB sp t c:Nat))=flB s (ixB sp t c):=by
    simp only [pR];rw [if_pos (by omega)]
    congr 1
    omega
   rw [e2];exact h.flA hp.pv hq.1 hq.2 hb he
 dn:=λs h hr=>by
  have hl:=hp.pv.vs.1;have hpc:(rQ s.values).isEmpty=true↔∀ t,(prg p t).length<=(AB s).pc t:=by
   rw [KE];refine ⟨λg t=>?_,λg=>?_⟩
   ·rcases KT t p.length with ht | ht
    ·refine Decidable.byContradiction λk=>?_;obtain ⟨h1,h2⟩:=l8 h.up (by omega:t<3)<|h.pc t (by omega);have := (h2 _<|geq<|Nat.lt_of_not_le k).1;have : (t:Int)∈rQ s.values:=iW.2 ⟨t,by rw [h.up];exact ht,rfl,this⟩;rw [g] at this;cases this
    unfold prg;rw [gdq,gen ht];exact KP _
   refine LC.2 λm hm=>?_;obtain ⟨t,ht,rfl,hc⟩:=iW.1 hm;rw [h.up] at ht;obtain ⟨h1,h2⟩:=l8 h.up (by omega:t<3)<|h.pc t (by omega);have := (ges<|h1 hc).1;have := g t;simp only [AB] at this;omega
  have hw:s.waits.all (·.isEmpty)=true↔∀ t c,(AB s).bf t c=[]:=by
   rw [K3];refine ⟨λg t c=>?_,λg w hw=>?_⟩
   ·by_cases hq:t<p.length/\vo sp c
    ·rw [h.bf hq.1 hq.2,gdq]
     cases e:s.waits[ixB sp t c]? with
     | none=>rfl
     | some w=>rw [K4,KE.1 (g w<|Li e)];rfl
    exact h.bf0 hq
   obtain ⟨b,hb,rfl⟩:=KS hw;obtain ⟨t,c,ht,hc,e⟩:=vZ (by rw [<- h.wl];exact hb:b<bif sp then 3*p.length else p.length);have := g t c;rw [h.bf ht hc,e] at this;have := Lv.1 this;rw [KE,<- this];simp [List.getD,hb]
  show ((rQ s.values).isEmpty&&s.waits.all (·.isEmpty))=true↔_;rw [bae,hpc,hw]
  rfl
 oc:=λs h hr _=>by
  have := hp.pv.vs.1;have := DF (u:=s.values) (a:=AB s) rfl rfl (by rw [h.up];exact this);rw [h.up] at this;exact this.symm
end
section
variable {p:List (List GY)} {sp:Bool} {s:ae}
theorem xn (hp:PV p) {u:GZ} (h:Iv p u):G7 (aW u) (· = (rQ u).isEmpty):=by
 have e:bV ⟨u⟩=aW u:=by
  unfold bV
  cases aW u <;> rfl
 rw [<- e];exact Fg hp h
theorem CL (u:GZ):G7 (bA u) (· = strOfNums (keyL u)):=by
 have e:bT ⟨u⟩=bA u:=by
  unfold bT
  cases bA u <;> rfl
 rw [<- e];exact yp u
theorem zq {l:LI} (h:∀ x∈l,0<=x/\x<=255):kv (strOfNums l)=l:=by
 unfold kv;rw [strOfNums_data,K6]
 conv=>rhs;rw [<- K7 l]
 refine KX λx hx=>?_;have := h x hx;simp only [Function.comp,UInt8.toNat_ofNat',id];omega
def fil (f:Nat->Bool) (g:Nat->Int) (n:Nat):LI:=((Ky n).filter f).map g
theorem qK (f:Nat->Bool) (g:Nat->Int) (n:Nat):fil f g (n+1)=if f n=true then fil f g n++[g n] else fil f g n:=by
 unfold fil;rw [KQ,List.filter_append,KW]
 split
 ·rename_i h;rw [Lp h];rfl
 rename_i h;rw [Lr h];simp
theorem rV (f:Nat->Bool) (g:Nat->Int) (n:Nat):(fil f g n).length<=n:=by
 unfold fil;rw [llm];exact KC (Ls _ _) (by simp)
theorem uk (s:ae) {t l:Int} (ht:0<=t/\t<=3) (hl:0<=l/\l<=2):G7 (bW s t l) (· = eC s.split t l):=by
 unfold bW eC;refine .bif (λhb => .gdI (by omega)<|.gdI (by omega)<|.pure<|by rw [hb];rfl) λhb => .pure (by rw [hb];rfl)
theorem IB.ixl (h:IB p sp s) {t:Nat} (ht:t<p.length) {l:Int} (hl:0<=l/\l<=2):0<=eC s.split t l/\(eC s.split t l)<(s.waits.length:Int):=by
 have h1:=qJ sp t hl;have h2:=Bv (Bw sp hl) ht;rw [h.sq];rw [h.wl];omega
theorem BA (hp:PV p) (h:IB p sp s) {t:Nat} (ht:t<p.length):G7 (cQ s t) (· = qj s t):=by
 have hl:=hp.vs.1;unfold cQ;refine G7.sum (PS:=λ_=>qj s t=true) (PW:=(· = qj s t)) ?_ λ_ he => .pure he.symm;refine G7.loop (λi=>(0<=i/\i<=3)/\∀ l:Int,0<=l->l<i->(s.waits.getD (eC s.split t l).toNat default).isEmpty=true) (λi=>(3-i).toNat) ⟨⟨Kw _,by decide⟩,λl h1 h2=>by omega⟩ λi ⟨⟨h1,h2⟩,h3⟩ => ?_;unfold fM;refine .bifD (λhlt=>(uk s (by omega)<|by omega).bind λv hv=>?_) λhge => .pure ?_
 ·subst hv;have := h.ixl ht (l:=i) (by omega);refine .gdD this<|.bifD (λhn => .pure ?_) λhn => .gdI (by omega)<|.pure ⟨⟨⟨by omega,by omega⟩,λl g1 g2=>?_⟩,by omega⟩
  ·simp only [];unfold qj;refine (List.all_eq_false.2 ⟨i,?_,?_⟩).symm
   ·have : i=0\/i=1\/i=2:=by omega
    rcases this with rfl | rfl | rfl <;> decide
   rw [Bool.not_eq_true,K9];intro e;rw [e] at hn;simp at hn
  by_cases e:l=i
  ·subst e;rw [KE];exact Lj (by omega)
  exact h3 l g1 (by omega)
 simp only [];unfold qj;refine K3.2 λl hl=>h3 l ?_ ?_ <;> (simp only [KD,KG,or_false] at hl;omega)
theorem zt (hp:PV p) (h:IB p sp s) (iv:Iv p s.values):G7 (bG s) (· = pR.mv s):=by
 have hl:=hp.vs.1;have hw:=h.wl;have hwl:s.waits.length<=9:=by rw [hw];cases sp <;> simp only [cond_true,cond_false] <;> omega
 unfold bG;refine G7.bind (P:=(· = fil (cnB s) Int.ofNat p.length)) ?_ λv hv=>G7.bind (P:=(· = fil (cnB s) Int.ofNat p.length++fil (λb => !(s.waits.getD b default).isEmpty) (λb:Nat=>(s.values.p.length:Int)+(b:Int)) s.waits.length)) ?_ λv hv => .pure ?_
 ·refine G7.loop (λz=>(0<=z.2/\z.2<=(p.length:Int))/\z.1=fil (cnB s) Int.ofNat z.2.toNat) (λz=>((p.length:Int)-z.2).toNat) ⟨⟨Kw _,by simp only [];omega⟩,rfl⟩ λz ⟨⟨h1,h2⟩,h3⟩ => ?_;unfold dS;simp only [h.up];refine .bifD (λhlt=>?_) λhge => .pure (by rw [h3,show z.2.toNat=p.length by omega]);obtain ⟨l,i⟩:=z;simp only at h1 h2 h3 hlt;obtain ⟨n,rfl⟩:∃ n:Nat,i=n:=⟨i.toNat,by omega⟩;simp only [tnn] at h3;subst h3;have hfl:=rV (cnB s) Int.ofNat n;have hpn:n<p.length:=by omega
  refine G7.bind (P:=(· = fil (cnB s) Int.ofNat (n+1))) ?_ λv hv => .gdI (by omega)<|.pure ⟨⟨⟨by simp only [];omega,by simp only [];omega⟩,hv⟩,by simp only [];omega⟩;refine (Bh hp iv hpn).bind λv ⟨e1,e2⟩ => ?_;refine G7.bind (P:=(· = cnB s n)) ?_ λb hb => .bif (λhc => .gd (il (by simp only [];omega) rfl)<|.pure ?_) λhc => .pure ?_
  ·refine .bif (λhc=>?_) λhc => .pure ?_
   ·have e3:=e2 hc;refine G7.bind (P:=(· = ((rR s.values n).Op != 4&&(rR s.values n).Op != 5))) ?_ λw hw=>G7.bind (P:=(· = cnB s n)) (.bif (λk => .pure ?_) λk=>(BA hp h hpn).bind λw hw => .pure ?_) λw hw => .pure hw
    ·rw [e3];exact .bif (λk => .pure<|by rw [k];rfl) λk => .pure (by rw [k];rfl)
    ·unfold cnB;rw [<- e1,hc,<- hw,k];rfl
    unfold cnB;rw [<- e1,hc,hw,<- ‹_=((rR s.values n).Op != 4&&_)›,k];rfl
   unfold cnB;rw [<- e1,hc];rfl
  ·rw [qK,if_pos (by rw [<- hb,hc])];rfl
  rw [qK,if_neg (by rw [<- hb,hc];decide)]
 ·subst hv;refine G7.loop (λz=>(0<=z.2/\z.2<=(s.waits.length:Int))/\z.1=fil (cnB s) Int.ofNat p.length++fil (λb => !(s.waits.getD b default).isEmpty) (λb:Nat=>(s.values.p.length:Int)+(b:Int)) z.2.toNat) (λz=>((s.waits.length:Int)-z.2).toNat) ⟨⟨Kw _,by simp only [];omega⟩,by simp [fil]⟩ λz ⟨⟨h1,h2⟩,h3⟩ => ?_;unfold dH;refine .bifD (λhlt=>?_) λhge => .pure (by rw [h3,show z.2.toNat=s.waits.length by omega]);obtain ⟨l,i⟩:=z;simp only at h1 h2 h3 hlt;obtain ⟨n,rfl⟩:∃ n:Nat,i=n:=⟨i.toNat,by omega⟩;simp only [tnn] at h3 ⊢;subst h3;have hf1:=rV (cnB s) Int.ofNat p.length;have hf2:=rV (λb => !(s.waits.getD b default).isEmpty) (λb:Nat=>(s.values.p.length:Int)+(b:Int)) n;have hup:s.values.p.length<=3:=by rw [h.up];exact hl
  refine G7.bind (P:=(· = fil (cnB s) Int.ofNat p.length++fil (λb => !(s.waits.getD b default).isEmpty) (λb:Nat=>(s.values.p.length:Int)+(b:Int)) (n+1))) ?_ λv hv => .gdI (by omega)<|.pure ⟨⟨⟨by omega,by omega⟩,hv⟩,by omega⟩;refine .gdD ⟨h1,hlt⟩<|.bifD (λhc => .gdI (by omega)<|.gd (il (by rw [lla];omega) rfl)<|.pure ?_) λhc => .pure ?_
  ·rw [qK,if_pos,KV];rw [Bool.not_eq_true',K9];intro e;rw [e] at hc;simp at hc
  rw [qK,if_neg];rw [Bool.not_eq_true',K9,ne_eq,Decidable.not_not];exact Lj (by omega)
 rw [hv];simp only [pR,fil,h.up]
theorem BB (hp:PV p) (h:IB p sp s) (iv:Iv p s.values):G7 (bP s) (· = pR.dn s):=by
 have hl:=hp.vs.1;have hwl:s.waits.length<=9:=by rw [h.wl];cases sp <;> simp only [cond_true,cond_false] <;> omega
 unfold bP;refine (xn hp iv).bind λv hv=>G7.bind (P:=(· = pR.dn s)) (.bif (λhb=>?_) λhb => .pure ?_) λw hw => .pure hw
 ·unfold aG;refine G7.bind (P:=(· = !s.waits.all (·.isEmpty))) ?_ λw hw => .pure ?_
  ·refine G7.bind (P:=λv:Int=>decide (0<=v) = !s.waits.all (·.isEmpty)) ?_ λv hv => .pure hv;unfold aI;refine G7.sum (PS:=λ_=>s.waits.all (·.isEmpty)=true) (PW:=λv:Int=>decide (0<=v) = !s.waits.all (·.isEmpty)) ?_ λ_ he => .pure (by rw [he];rfl);refine G7.loop (λi=>(0<=i/\i<=(s.waits.length:Int))/\∀ j:Nat,(j:Int)<i->(s.waits.getD j default).isEmpty=true) (λi=>((s.waits.length:Int)-i).toNat) ⟨⟨Kw _,by omega⟩,λj hj=>by omega⟩ λi ⟨⟨h1,h2⟩,h3⟩ => ?_;unfold aT;refine .bifD (λhlt => .gdD ⟨h1,hlt⟩ ?_) λhge => .pure ?_
   ·refine G7.bind (P:=λb=>b=decide ((0:Int)<((s.waits.getD i.toNat default).length:Int))) (.pure rfl) λb hb=>?_;rw [hb];refine .bifD (λhn => .pure ?_) λhn => .gdI (by omega)<|.pure ⟨⟨⟨by omega,by omega⟩,λj hj=>?_⟩,by omega⟩
    ·simp only [];rw [decide_eq_true h1];have hi:i.toNat<s.waits.length:=by omega
     have : s.waits.all (·.isEmpty)=false:=List.all_eq_false.2 ⟨s.waits[i.toNat],KJ hi,by
      rw [Bool.not_eq_true,K9];intro e;rw [gdq,geq hi,K4,e] at hn;simp at hn⟩
     rw [this];rfl
    by_cases e:j=i.toNat
    ·subst e;rw [KE];exact Lj (by omega)
    exact h3 j (by omega)
   simp only [];refine K3.2 λw hw=>?_;obtain ⟨j,hj,rfl⟩:=KS hw;have := h3 j (by omega)
   rwa [gdq,geq hj,K4] at this
  show _=((rQ s.values).isEmpty&&s.waits.all (·.isEmpty));rw [hw,<- hv,hb,Bool.not_not];rfl
 show _=((rQ s.values).isEmpty&&s.waits.all (·.isEmpty));rw [<- hv,hb];rfl
theorem yA {cl:Int->Int} {l:List GY}:∀ {k:Nat} {u:LSt},u∈LSn cl l k->∀ c,(u.2 c).length<=k
 | 0,u,h,c=>by rw [KI.1 h];exact KU _
 | k+1,u,h,c=>by
  obtain ⟨v,hv,hu⟩:=KA.1 h;have ih:=yA hv;have := ih c;unfold lsx at hu
  split at hu
  ·simp only [KD,KG,or_false] at hu;rcases hu with rfl | rfl | rfl | rfl <;> (simp only [];omega)
  split at hu
  ·simp only [KD,KG,or_false] at hu;rcases hu with rfl | rfl
   ·simp only [vY]
    split
    ·rename_i e;have := ih<|cl (l.getD k default).Loc;rw [lla,Ll];omega
    omega
   simp only [vY]
   split
   ·exact KP _
   omega
  rw [KI.1 hu];omega
theorem IB.wlen (hp:PV p) (h:IB p sp s) {cl:Int->Int} (hi:InT (prg p) cl<|AB s) (b:Nat):(s.waits.getD b default).length<=7:=by
 rcases KT b s.waits.length with hb | hb
 ·obtain ⟨t,c,ht,hc,rfl⟩:=vZ (by rw [<- h.wl];exact hb:b<bif sp then 3*p.length else p.length);have h1:=yA (hi.ls t) c;have h2:=hi.pc t;have h3:=hp.vs.2 t;simp only at h1;rw [h.bf ht hc,llm] at h1;unfold prg at h2;omega
 rw [gdq,gen hb];exact KP _
theorem CM (hp:PV p) (h:IB p sp s) {cl:Int->Int} (hi:InT (prg p) cl<|AB s):G7 (bD s) (· = pR.ky s):=by
 have iv:=h.iv hi;have hwl:s.waits.length<=9:=by have := hp.vs.1;rw [h.wl];cases sp <;> simp only [cond_true,cond_false] <;> omega
 unfold bD;refine (CL s.values).bind λv hv=>?_;subst hv;have hk:(keyL s.values).length=15:=rfl;have hsz:(strOfNums<|keyL s.values).size=15:=by
  have := congrArg List.length<|strOfNums_data<|keyL s.values;simpa [hk] using this
 refine .gdD (by rw [hsz];decide) ?_;rw [zq (uh hp iv)];refine G7.bind (P:=(· = Fu s)) ?_ λv hv => .pure (by rw [hv];rfl);refine G7.loop (λz=>(0<=z.2/\z.2<=(s.waits.length:Int))/\z.1=keyL s.values++((s.waits.take z.2.toNat).flatMap λw=>(w.length:Int)::w)/\z.1.length<=15+8*z.2.toNat) (λz=>((s.waits.length:Int)-z.2).toNat) ⟨⟨Kw _,by simp only [];omega⟩,by simp,by simp only [hk];omega⟩ λz ⟨⟨h1,h2⟩,h3,h4⟩ => ?_;unfold eH;refine .bifD (λhlt=>?_) λhge => .pure ?_
 ·have hw:=h.wlen hp hi z.2.toNat;have hn:z.2.toNat<s.waits.length:=by omega
  refine .gdD ⟨h1,hlt⟩<|.gdY (by omega)<|.gd (il (by omega) rfl)<|.gd (il (by rw [lla,Ll];omega) rfl)<|.gdI (by omega)<|.pure ⟨⟨⟨by simp only [];omega,by simp only [];omega⟩,?_,?_⟩,by simp only [];omega⟩
  ·simp only [];rw [show (z.2+1).toNat=z.2.toNat+1 by omega,KO,geq hn,h3,Lf,show s.waits.getD z.2.toNat default=s.waits[z.2.toNat] by simp [List.getD,hn]];simp only [Option.toList,KR,List.flatMap_nil,List.append_nil,KV,Lm,List.nil_append]
  simp only [lla,Ll];omega
 rw [h3,show z.2.toNat=s.waits.length by omega,La]
 rfl
theorem yB {α:Type} {e:Bool} {A B:Option α} {v:α} (ha:e=true->A=some v) (hb:B=some v):G7 (nilK e A B) (· = v):=by
 unfold nilK
 cases e with
 | true=>
  rw [cond_true,if_pos ((ha rfl).trans hb.symm)];exact ⟨v,ha rfl,rfl⟩
 | false=>exact ⟨v,hb,rfl⟩
theorem BC (w:LL) (h:w.length<=9):G7 (dw w) (· = w):=
 yB (λe=>by rw [KE.1 e]) (iL<|il (by simp;omega) rfl)
theorem zu (w:LI) (h:w.length<=9):G7 (dI w) (· = w):=
 yB (λe=>by rw [KE.1 e]) (iL<|il (by simp;omega) rfl)
theorem BD (hp:PV p) (h:IB p sp s) {t:Nat} (ht:t<p.length) {l:Int} (hl:0<=l/\l<=2):G7 (cG s t l) (· = pI (s.waits.getD (eC s.split t l).toNat default) l (Z3b.get s.values.mem l)):=by
 have := hp.vs.1;have hx:=h.ixl ht hl;unfold cG;refine .gdD ⟨by omega,by omega⟩<|.gdD hx.2<|.gd ?_<|.pure rfl;refine K3.2 λb hb=>decide_eq_true ?_;have hi:(eC s.split t l).toNat<s.waits.length:=by omega
 rw [gdq,geq hi,K4] at hb;exact h.by_ _ (KJ hi) b hb
theorem zw (hp:PV p) (h:IB p sp s) {cl:Int->Int} (hi:InT (prg p) cl<|AB s) {m:Int} (hm:m∈pR.mv s):G7 (bH s m) (· = pR.af s m):=by
 have iv:=h.iv hi;have hl:=hp.vs.1;have hup:s.values.p.length=p.length:=by rw [h.up]
 have hwl:s.waits.length<=9:=by rw [h.wl];cases sp <;> simp only [cond_true,cond_false] <;> omega
 unfold bH;refine (BC s.waits hwl).bind λv1 e1=>?_;subst e1;rcases uU.1 hm with ⟨t,h1,rfl,h2⟩ | ⟨b,h1,rfl,h2⟩
 ·rw [hup] at h1;refine .bifD (λk=>absurd k<|by omega) λ_=>?_;have hc:xg s.values t=true:=by
   unfold cnB at h2;exact (bae _ _ ▸ h2).1
  have hx:=iv.ins hp h1 hc;have e:pR.af s t=exB s t (rR s.values t):=by
   simp only [pR,h.up];rw [if_neg (by omega)]
  rw [e];refine (Bh hp iv h1).bind λv ⟨g1,g2⟩ => ?_;have g3:=g2<|g1.trans hc;have hpc:=iv.pc t (by omega);have hr7:=hp.vs.2 t;have hval:=(h.val iv (by omega:t<3) hx).2;rw [<- g3] at hx hval ⊢;generalize v.1=x at hx hval ⊢;have hX:=hx;obtain ⟨x1,x2,x3,x4,x5,x6⟩:=hX;refine .gdD ⟨by omega,by omega⟩<|.gdY (by omega) ?_;refine G7.bind (P:=λw=>(⟨⟨w.1,w.2.1,w.2.2.1⟩,⟨w.2.2.2.1,w.2.2.2.2.1,w.2.2.2.2.2.1⟩,⟨w.2.2.2.2.2.2.1,w.2.2.2.2.2.2.2.1,w.2.2.2.2.2.2.2.2.1⟩⟩:Z33)=(exB s t x).values.reg/\w.2.2.2.2.2.2.2.2.2=s.waits) ?_ λw5 ⟨hw5,hw6⟩ => ?_
  ·refine (DC _).bind λb hb=>?_;have hb':b=rdX x:=hb;refine .bif (λhc=>(BD hp h h1 ⟨x1,x2⟩).bind λv20 hv20 => .gdD ⟨x3,by omega⟩<|.pure ⟨?_,rfl⟩) λhc => .pure ⟨?_,rfl⟩
   ·simp only [exB];rw [if_pos (by rw [<- hb'];exact hc),hv20]
   simp only [exB];rw [if_neg (by rw [<- hb',hc];decide)]
  refine G7.bind (P:=λw=>(⟨w.1,w.2.1,w.2.2.1⟩:Z3b)=(exB s t x).values.mem/\w.2.2.2=(exB s t x).waits) ?_ λw10 ⟨hw10,hw11⟩ => .pure ?_
  ·rw [hw6];refine G7.bind (P:=(· = pQ x)) (.bif (λhc => .pure<|by unfold pQ;rw [hc];rfl) λhc => .pure<|by unfold pQ;rw [hc];rfl) λb hb=>?_;subst hb;refine .bif (λhs=>?_) λhs=>?_
   ·obtain ⟨o1,o2,o3,o4⟩:=uT hs;refine (uk s (by omega) ⟨x1,x2⟩).bind λv29 hv29=>?_;subst hv29;have hix:=h.ixl h1 (l:=x.Loc) ⟨x1,x2⟩;have hwb:=h.wlen hp hi (eC s.split t x.Loc).toNat;refine .gdD hix<|.gdY (by omega)<|.gdY (by omega)<|(zu _<|by omega).bind λv33 hv33=>?_;subst hv33;refine G7.bind (P:=(· = wE s.values t x)) ?_ λv37 hv37=>?_
    ·unfold cm wE;refine .bif (λho => .gdD ⟨by omega,by omega⟩<|.gdD ⟨x3,by simp only [];omega⟩<|.pure ?_) λho => .gdY (by simp only [];omega) (.pure ?_)
     ·rw [if_pos (by simpa using ho)]
     rw [if_neg (by simpa using ho)]
    subst hv37;refine .gdY (by omega)<|.gd (il (by omega) rfl)<|.gdD hix<|.pure ⟨?_,?_⟩
    ·simp only [exB];rw [if_neg o4]
    simp only [exB];rw [if_pos hs]
   refine .bif (λh5 => .gdY (by omega)<|.gdD ⟨x1,by omega⟩<|.pure ⟨?_,?_⟩) λh5 => .pure ⟨?_,?_⟩
   ·simp only [exB];rw [if_pos (by simpa using h5)]
   ·simp only [exB];rw [if_neg (by rw [hs];decide)]
   ·simp only [exB];rw [if_neg (by simpa using h5)]
   simp only [exB];rw [if_neg (by rw [hs];decide)]
  rw [hw5,hw10,hw11]
  rfl
 have hb:(s.waits.getD b default).length<=7:=h.wlen hp hi b;have hne:0<(s.waits.getD b default).length:=LD.2 h2;have eb:((s.values.p.length:Int)+(b:Int)-(s.values.p.length:Int)).toNat=b:=by omega
 have e:pR.af s ((s.values.p.length:Int)+(b:Int))=flB s b:=by
  simp only [pR];rw [if_pos (by omega),eb]
 rw [e];have hloc:0<=((s.waits.getD b default).getD 0 default).tdiv 16/\((s.waits.getD b default).getD 0 default).tdiv 16<=2:=by
  rw [h.wl] at h1;obtain ⟨t,c,ht,hc,rfl⟩:=vZ h1;have hb:=h.bf ht hc;obtain ⟨b,w,hw⟩:=LA h2;rw [hw,KY] at hb;have he:=((hi.vl t).2 c (wF b)<|by show _∈(AB s).bf t c;rw [hb];exact Kz).1;rw [hw];exact he
 refine .bifD (λ_=>?_) λk=>absurd (by omega) k;rw [eb];refine .gdI (by omega)<|.gdD ⟨by omega,by omega⟩<|.gdD ⟨Kw _,by omega⟩<|.gdD ⟨by omega,by omega,Kw _⟩<|.gdD ⟨by omega,by omega⟩<|.gdD (by decide)<|.gdY ?_<|.gdD ⟨hloc.1,?_⟩<|.pure ?_
 ·exact ⟨hloc.1,Int.le_trans hloc.2<|by decide⟩
 ·exact Int.lt_of_le_of_lt hloc.2 (by decide)
 unfold flB;have : ((s.waits.getD b default).drop (1:Int).toNat).take (((s.waits.getD b default).length:Int).toNat-(1:Int).toNat)=(s.waits.getD b default).drop 1:=by
  rw [List.take_of_length_le]
  ·rfl
  rw [List.length_drop];exact KU _
 rw [this]
 rfl
end
theorem BF {a b:Z3b} (h:∀ t:Nat,t<3->Z3b.get a t=Z3b.get b t):a=b:=by
 have h0:=h 0 (by decide);have h1:=h 1 (by decide);have h2:=h 2 (by decide);rw [Gs,Gs] at h0;rw [Gt,Gt] at h1;rw [Gu,Gu] at h2
 cases a;cases b
 simp only at h0 h1 h2;rw [h0,h1,h2]
theorem El {a b:Z33} (h:∀ t:Nat,t<3->Z33.get a t=Z33.get b t):a=b:=by
 have h0:a.x0=b.x0:=h 0 (by decide);have h1:a.x1=b.x1:=h 1 (by decide);have h2:a.x2=b.x2:=h 2 (by decide)
 cases a;cases b
 simp only at h0 h1 h2;rw [h0,h1,h2]
theorem wh:∀ {v w:LL},v.length=w.length->(v.flatMap λw=>(w.length:Int)::w)=(w.flatMap λw=>(w.length:Int)::w)->v=w
 | [],[],_,_=>rfl
 | [],_::_,h,_=>by cases h
 | _::_,[],h,_=>by cases h
 | a::v,b::w,h,e=>by
  rw [KR,KR,Lm,Lm] at e;injection e with e1 e2;obtain ⟨e3,e4⟩:=List.append_inj e2 (by omega);rw [e3,wh (by simpa using h) e4]
section
variable {p:List (List GY)} {sp:Bool}
theorem Em {u v:GZ} (hp:u.p=v.p) (h1:pcF u.pc=pcF v.pc) (hu:∀ t:Nat,t<3->0<=Z3b.get u.pc t) (hv:∀ t:Nat,t<3->0<=Z3b.get v.pc t) (h2:rgF u.reg=rgF v.reg) (h3:mmF u.mem=mmF v.mem):u=v:=by
 have e1:u.pc=v.pc:=BF λt ht=>by
  have := congrFun h1 t;simp only [pcF,if_pos ht] at this;have := hu t ht;have := hv t ht;omega
 have e2:u.reg=v.reg:=El λt ht=>BF λg hg=>by
  have := congrFun (congrFun h2 t) g;simp only [rgF] at this
  rwa [if_pos ⟨ht,by omega,by omega⟩,if_pos ⟨ht,by omega,by omega⟩] at this
 have e3:u.mem=v.mem:=BF λl hl=>by
  have := congrFun h3 l;simp only [mmF] at this
  rwa [if_pos ⟨by omega,by omega⟩,if_pos ⟨by omega,by omega⟩] at this
 cases u;cases v
 simp only at hp e1 e2 e3;subst hp e1 e2 e3
 rfl
theorem Fw {s t:ae} (hs:IB p sp s) (ht:IB p sp t) (h:AB s=AB t):s=t:=by
 have e1:s.values=t.values:=Em (hs.up.trans ht.up.symm) (congrArg TS.pc h) hs.pc ht.pc (congrArg TS.rg h)<|congrArg TS.mm h;have e2:s.waits=t.waits:=by
  refine List.ext_getElem (hs.wl.trans ht.wl.symm) λb h1 h2=>?_;rw [hs.wl] at h1;obtain ⟨i,c,hi,hc,rfl⟩:=vZ h1;have := congrFun (congrFun (congrArg TS.bf h) i) c;rw [hs.bf hi hc,ht.bf hi hc] at this;have := qi this;rw [<- hs.wl] at h1;simpa [List.getD,h1,h2] using this
 have e3:=hs.sq.trans ht.sq.symm
 cases s;cases t
 simp only at e1 e2 e3;subst e1 e2 e3
 rfl
theorem BG (hp:PV p) {s:ae} (h:IB p sp s) {cl:Int->Int} (hi:InT (prg p) cl<|AB s):∀ x∈Fu s,0<=x/\x<=255:=λx hx=>by
 unfold Fu at hx;rcases KL.1 hx with hx | hx
 ·exact uh hp (h.iv hi) x hx
 obtain ⟨w,hw,hx⟩:=KA.1 hx;rcases KD.1 hx with rfl | hx
 ·obtain ⟨b,hb,rfl⟩:=KS hw;have := h.wlen hp hi b;rw [gdq,geq hb,K4] at this;omega
 exact h.by_ w hw x hx
theorem En (hp:PW p):Mok pR (kC p sp) 549755813888:=
 (Bz hp sp).mok (λs t hs ht rs rt h=>by
  have is:=InT.of hp.pv.prg rs;have it:=InT.of hp.pv.prg rt;have e:=oJ (BG hp.pv hs is) (BG hp.pv ht it) h;unfold Fu at e;obtain ⟨e1,e2⟩:=List.append_inj e rfl;have e3:=uS (hs.up.trans ht.up.symm) e1;have e4:=wh (hs.wl.trans ht.wl.symm) e2;have e5:=hs.sq.trans ht.sq.symm
  cases s;cases t
  simp only at e3 e4 e5;subst e3 e4 e5
  rfl) (λs t hs ht h=>Fw hs ht h) hp.cnl
theorem Eo (hp:PW p):Mrt bG bH bD bP (λs=>aK s.values) pR (kC p sp):=by
 have B:=Bz hp sp;have hi:∀ {s},Rea pR (kC p sp) s->InT (prg p) (clB sp) (AB s):=λh=>InT.of hp.pv.prg (B.rea h).2;refine ⟨λs hs=>zt hp.pv (B.rea hs).1<|(B.rea hs).1.iv<|hi hs,λs m hs hm=>zw hp.pv (B.rea hs).1 (hi hs) hm,λs hs=>CM hp.pv (B.rea hs).1<|hi hs,λs hs=>BB hp.pv (B.rea hs).1<|(B.rea hs).1.iv<|hi hs,λs hs _=>yn hp.pv<|(B.rea hs).1.iv<|hi hs,λs hs=>?_⟩;have h1:=rV (cnB s) Int.ofNat s.values.p.length;have h2:=rV (λb => !(s.waits.getD b default).isEmpty) (λb:Nat=>(s.values.p.length:Int)+(b:Int)) s.waits.length;have h3:=hp.pv.vs.1;have h4:=(B.rea hs).1.wl;have h5:=(B.rea hs).1.up;have h6:s.waits.length<=9:=by rw [h4];cases sp <;> simp only [cond_true,cond_false] <;> omega
 have e:pR.mv s=fil (cnB s) Int.ofNat s.values.p.length++fil (λb => !(s.waits.getD b default).isEmpty) (λb:Nat=>(s.values.p.length:Int)+(b:Int)) s.waits.length:=rfl;rw [e,lla];have : s.values.p.length<=3:=by rw [h5];exact h3
 omega
theorem CN (hp:PV p) (sp:Bool):G7 (fe p sp) (· = kC p sp):=by
 have := hp.vs.1;unfold fe;refine .gdD ⟨by omega,Kw _,by omega,by omega⟩ ?_;refine G7.bind (P:=(· = Lb (bif sp then 3*p.length else p.length) [])) (.bif (λh => .gdI (by omega)<|.gdD ⟨by omega,Kw _,by omega,by omega⟩<|.pure ?_) λh => .pure ?_) λv hv => .pure ?_
 ·rw [h,cond_true];congr 1
 ·rw [h,cond_false];congr 1
 rw [hv];rfl
structure Run (O:List Int->Prop) (q:List (List Int)):Prop where
 lt:q.Pairwise ltL
 mem:∀ o,o∈q↔O o
 len:q.length<=549755813888
def yC (p:List<|List GY) (sp:Bool):LI->Prop:=EO (prg p) false (clB sp) p.length
theorem yD (hp:PW p) (hv:av p=some true) (sp:Bool):G7 (bQ p sp) λq=>Run (yC p sp) q.1:=by
 unfold bQ;rw [hv];refine G7.bind (P:=(· = true)) (.pure rfl) λb hb => .bif (λh=>absurd h (by rw [hb];decide)) λ_=>?_;refine (CN hp.pv sp).bind λv ev=>?_;subst ev;refine G7.bind (P:=λq:LL×Int=>Run (yC p sp) q.1) ?_ λq hq => .pure hq;have e:cV (kC p sp)=FV bG bH bD bP (λs=>aK s.values) aL (kC p sp):=rfl;rw [e];have B:=Bz hp sp;have hQ:∀ l:LL,l.length<=549755813888->(∀ o∈l,EN pR (kC p sp) o)->G7 (aL l) λq=>Sor l q/\l.length<=549755813888:=λl hl ho=>(uf (by omega) λr hr=>by
  obtain ⟨s,h1,_,rfl⟩:=ho r hr;have h2:=(B.rea h1).1.up;have h3:=hp.pv.vs.1;show (Bg s.values).length<=_;rw [yu,h2];omega).mono λq h=>⟨h,hl⟩
 exact (Bd (Q:=λl q=>Sor l q/\l.length<=549755813888) (En hp) (Eo hp) (by decide) hQ).mono λq ⟨l,⟨h1,h3⟩,h2,_⟩=>⟨h1.lt,λo=>(h1.mem o).trans<|(h2 o).trans<|B.outs o,KC h1.len h3⟩
theorem yE (hv:av p=some false) (sp:Bool):bQ p sp=some ([],0):=by
 unfold bQ;rw [hv]
 rfl
theorem Fx (hp:PV p) (cl:Int->Int):Bis Fe ⟨v0 p⟩ (StT (prg p) true cl) a0T (DnT<|prg p) (outT p.length) (λs=>Iv p s.values) AS:=by
 have hl:=hp.vs.1;have hex:∀ (s:G3) (t:Nat) (x:GY),Iv p s.values->t<p.length->InR x->AS ⟨Bc s.values t x⟩=G8 true cl (AS s) t x:=λs t x h ht hx=>by
  have ht3:t<3:=by omega
  have hloc:0<=x.Loc/\x.Loc<=2:=⟨hx.1,hx.2.1⟩;have hreg:0<=x.Reg/\x.Reg<=2:=⟨hx.2.2.1,hx.2.2.2.1⟩;have hv:wE s.values t x=mU (AS s) t x:=by
   unfold wE mU
   split
   ·simp only [AS,rgF];rw [if_pos ⟨ht3,hreg⟩]
   rfl
  have hm:(AS s).mm x.Loc=Z3b.get s.values.mem x.Loc:=if_pos hloc;have hse:jv cl (AS s) t x.Loc=Z3b.get s.values.mem x.Loc:=hm;refine TS.ext ?_ ?_ ?_ ?_
  ·have := h.pc t ht3;simp only [AS,Bc,G8];rw [Bq _ ht3]
   congr 1
   simp only [pcF,if_pos ht3];omega
  ·rw [yw,hse];simp only [AS,Bc]
   split
   ·rw [Bt _ ht3 hreg]
   rfl
  ·rw [Bj,<- hv];simp only [AS,Bc,Bool.true_or,Bool.and_true]
   split
   ·rw [xm _ hloc]
   rfl
  rw [m7];simp [AS]
 refine ⟨Iv.start p,?_,λs m h hr hm=>?_,λs a h hr hs=>?_,λs h hr=>?_,λs h hr _=>?_⟩
 ·obtain ⟨h1,h2,h3⟩:=yz p;exact TS.ext h1 h2 h3 rfl
 ·obtain ⟨t,h1,rfl,h2⟩:=iW.1 hm;rw [h.up] at h1;have hx:=h.ins hp h1 h2;show Iv p (Bc _ t<|rR _ t)/\_;refine ⟨h.after (by omega) h2 hx,?_⟩;show StT _ _ _ _ (AS ⟨Bc s.values t<|rR s.values t⟩);rw [hex s t _ h h1 hx];exact .ex ⟨(l8 h.up (by omega:t<3) (h.pc t<|by omega).1).1 h2,λ_ _=>rfl⟩
 ·cases hs with
  | @ex t x hc=>
   have ht:=yx hc.1;obtain ⟨h3,rfl⟩:=(l8 h.up (by omega:t<3) (h.pc t<|by omega).1).2 x hc.1;exact ⟨t,iW.2 ⟨t,by rw [h.up];exact ht,rfl,h3⟩,hex s t _ h ht<|hp.prg _ _ _ hc.1⟩
  | fl hb=>cases hb
 ·show (rQ s.values).isEmpty=true↔_;rw [KE];refine ⟨λg=>⟨λt=>?_,λ_ _=>rfl⟩,λg=>?_⟩
  ·rcases KT t p.length with ht | ht
   ·refine Decidable.byContradiction λk=>?_;have := ((l8 h.up (by omega:t<3) (h.pc t<|by omega).1).2 _<|geq<|Nat.lt_of_not_le k).1;have : (t:Int)∈rQ s.values:=iW.2 ⟨t,by rw [h.up];exact ht,rfl,this⟩;rw [g] at this;cases this
   unfold prg;rw [gdq,gen ht];exact KP _
  refine LC.2 λm hm=>?_;obtain ⟨t,ht,rfl,hc⟩:=iW.1 hm;rw [h.up] at ht;have := (ges<|(l8 h.up (by omega:t<3) (h.pc t<|by omega).1).1 hc).1;have := g.1 t;simp only [AS] at this;omega
 have := DF (u:=s.values) (a:=AS s) rfl rfl (by rw [h.up];exact hl);rw [h.up] at this;exact this.symm
theorem yF (hp:PV p) (cl:Int->Int) (o:LI):DD p o↔EO (prg p) true cl p.length o:=(Fx hp cl).outs o
theorem CO (hp:PV p) (hv:av p=some true):G7 (eZ p) (Run<|DD p):=by
 have h0:Iv p (⟨v0 p⟩:G3).values:=Iv.start p;have e:eD ⟨v0 p⟩=FV cZ da bT bV (λs=>aK s.values) aL ⟨v0 p⟩:=rfl;have hQ:∀ l:LL,l.length<=8589934592->(∀ o∈l,DD p o)->G7 (aL l) λq=>Sor l q/\l.length<=8589934592:=λl hl ho=>(uf (by omega) λr hr=>by
  obtain ⟨s,h1,_,rfl⟩:=ho r hr;have h2:=(oK hp h0 h1).up;have h3:=hp.vs.1;show (Bg s.values).length<=_;rw [yu,h2];omega).mono λq h=>⟨h,hl⟩
 have hr:=(Bd (Q:=λl q=>Sor l q/\l.length<=8589934592) (Ef hp h0) (Eg hp h0) (by decide) hQ).mono (P':=λq=>Run (DD p) q.1) λq ⟨l,⟨h1,h3⟩,h2,_⟩=>⟨h1.lt,λo=>(h1.mem o).trans<|h2 o,KC h1.len<|by omega⟩;unfold eZ;rw [hv];refine G7.bind (P:=(· = true)) (.pure rfl) λb hb => .bif (λh=>absurd h<|by rw [hb];decide) λ_=>?_;exact G7.bind (P:=λs:G3=>s=⟨v0 p⟩) (.pure rfl) λv hv=>G7.bind (P:=λq:LL×Int=>Run (DD p) q.1) (hv ▸ (e ▸ hr)) λq hq => .pure hq
theorem yG (n:Nat) (a:TS):(outT n a).length=3*n+3:=by
 unfold outT;rw [lla];have : ∀ n,((Ky n).flatMap λt=>(Ky 3).map λg:Nat=>a.rg t g).length=3*n:=λn=>by
  induction n with
  | zero=>rfl
  | succ n ih=>
   rw [show Ky (n+1)=Ky n++[n] from KQ,Lf,lla,ih];simp;omega
 rw [this];simp
theorem yH {o:LI} (h:yC p sp o):o.length=3*p.length+3:=by
 obtain ⟨a,_,_,rfl⟩:=h;exact yG _ _
theorem CP (hp:PV p) {o:LI} (h:DD p o):o.length=3*p.length+3:=by
 obtain ⟨a,_,_,rfl⟩:=(yF hp id o).1 h;exact yG _ _
theorem Ep (hp:PV p) {o:LI} (h:DD p o) (sp:Bool):yC p sp o:=CH<|(yF hp (clB sp) o).1 h
theorem PW.of (h:aY (p.map λr=>r.map f8)=true):PW p:=by
 have hp:=PV.of h;refine ⟨hp,?_,λt k x hx=>?_⟩
 ·have hc:kz mS (p.map λr=>r.map f8)<=12:=by
   simp only [aY,jV,bae,dte] at h;exact h.1.1.2
  have he:∀ l:List GY,evN l=(l.map f8).countP mS:=λl=>by
   unfold evN;rw [List.countP_map]
   rfl
  have hl:=hp.vs.1;unfold kz at hc;have hd:(default:List GY)=[]:=rfl;unfold prg
  match p,hl with
  | [],_=>simp [he,hd]
  | [a],_=>simp [he,hd] at hc ⊢;omega
  | [a,b],_=>simp [he,hd] at hc ⊢;omega
  | [a,b,c],_=>simp [he,hd] at hc ⊢;omega
  | _::_::_::_::_,hl=>simp at hl
 have ht:=yx hx;obtain ⟨hk,e⟩:=ges hx;have h1:=(Vs.of h).2 t k ht hk;have e2:(p.getD t default).getD k default=x:=by
  rw [gdq];unfold Go.Proofs.YtjcmfddobaplbaaGreat.prg at hx;rw [hx];rfl
 rw [e2] at h1;unfold gy f8 at h1;simp only at h1
 split at h1
 ·omega
 split at h1
 ·omega
 split at h1
 ·omega
 split at h1
 ·omega
 cases h1
end
def bX (s1_:List GY) (s2_:List GY):LS Int (Unit ⊕ Bool):=λs5=>bif decide (s5<(s1_.length:Int)) then gd (decide<|0<=s5/\s5<(s1_.length:Int)) <|gd (decide<|0<=s5/\s5<(s2_.length:Int)) <|bif (!(((s1_.getD s5.toNat default).Op)==((s2_.getD s5.toNat default).Op)&&(((s1_.getD s5.toNat default).Loc)==((s2_.getD s5.toNat default).Loc)&&(((s1_.getD s5.toNat default).Reg)==((s2_.getD s5.toNat default).Reg)&&(((s1_.getD s5.toNat default).Val)==((s2_.getD s5.toNat default).Val)&&true))))) then some (.inr<|.inr false) else gd (GV .i64<|s5+(1:Int)) <|some (.inl<|s5+(1:Int)) else some (.inr<|.inl ())
def aO (s1_:List GY) (s2_:List GY):Option Bool:= bif ((s1_.length:Int) != (s2_.length:Int)) then some false else sumK (bY (bX s1_ s2_) (0:Int)) λs2=>some true
def fD (x:List GY) (y:List GY):Option Bool:= KH (aO x y) λv1=>some v1
def ay (s1_:List<|List GY) (s2_:List<|List GY):LS Int (Unit ⊕ Bool):=λs5=>bif decide (s5<(s1_.length:Int)) then gd (decide<|0<=s5/\s5<(s1_.length:Int)) <|gd (decide<|0<=s5/\s5<(s2_.length:Int)) <|KH (fD (s1_.getD s5.toNat default)<|s2_.getD s5.toNat default) λv10=>bif !v10 then some (.inr<|.inr false) else gd (GV .i64<|s5+(1:Int)) <|some (.inl<|s5+(1:Int)) else some (.inr<|.inl ())
def ak (s1_:List<|List GY) (s2_:List<|List GY):Option Bool:= bif ((s1_.length:Int) != (s2_.length:Int)) then some false else sumK (bY (ay s1_ s2_) (0:Int)) λs2=>some true
def db (a:List<|List GY) (b:List<|List GY):Option Bool:= KH (ak a b) λv1=>some v1
def ek (code:LI):Option aa:= KH (bif decide ((2000:Int)<(code.length:Int)) then gd (decide<|0<=(0:Int)/\(0:Int)<=(2000:Int)/\(2000:Int)<=(code.length:Int)) <|some ((code.drop (0:Int).toNat).take<|(2000:Int).toNat-(0:Int).toNat) else some code) λs1=>some (⟨s1,(0:Int)⟩:aa)
def ax (r_:aa) (n:Int):Option (aa×Int):= gd (GV .i64<|r_.p+(1:Int)) <|KH (bif decide (n<(1:Int)) then some true else some ((r_.b.length:Int)==(0:Int))) λs2=>bif s2 then some ((⟨r_.b,(r_.p+(1:Int))⟩:aa),(0:Int)) else gd (GV .i64<|(r_.p+(1:Int))-(1:Int)) <|bif decide (((r_.p+(1:Int))-(1:Int))<(r_.b.length:Int)) then gd (decide<|0<=((r_.p+(1:Int))-(1:Int))/\((r_.p+(1:Int))-(1:Int))<(r_.b.length:Int)) <|gd (GV .i64<|r_.b.getD ((r_.p+(1:Int))-(1:Int)).toNat default) <|gd (decide<|n≠0) <|some ((⟨r_.b,(r_.p+(1:Int))⟩:aa),((r_.b.getD ((r_.p+(1:Int))-(1:Int)).toNat default).tmod n)) else gd (decide<|(r_.b.length:Int)≠0) <|gd (decide<|0<=(((r_.p+(1:Int))-(1:Int)).tmod (r_.b.length:Int))/\(((r_.p+(1:Int))-(1:Int)).tmod (r_.b.length:Int))<(r_.b.length:Int)) <|gd (GV .i64<|r_.b.getD (((r_.p+(1:Int))-(1:Int)).tmod (r_.b.length:Int)).toNat default) <|gd (GV .i64<|(r_.b.getD (((r_.p+(1:Int))-(1:Int)).tmod (r_.b.length:Int)).toNat default)*(131:Int)) <|gd (GV .i64<|((r_.p+(1:Int))-(1:Int))*(7:Int)) <|gd (GV .i64<|(((r_.p+(1:Int))-(1:Int))*(7:Int))+(3:Int)) <|gd (decide<|0<=(((((r_.p+(1:Int))-(1:Int))*(7:Int))+(3:Int)).tmod (r_.b.length:Int))/\(((((r_.p+(1:Int))-(1:Int))*(7:Int))+(3:Int)).tmod (r_.b.length:Int))<(r_.b.length:Int)) <|gd (GV .i64<|r_.b.getD (((((r_.p+(1:Int))-(1:Int))*(7:Int))+(3:Int)).tmod (r_.b.length:Int)).toNat default) <|gd (GV .i64<|(r_.b.getD (((((r_.p+(1:Int))-(1:Int))*(7:Int))+(3:Int)).tmod (r_.b.length:Int)).toNat default)*(1117:Int)) <|gd (GV .i64<|((r_.b.getD (((r_.p+(1:Int))-(1:Int)).tmod (r_.b.length:Int)).toNat default)*(131:Int))+((r_.b.getD (((((r_.p+(1:Int))-(1:Int))*(7:Int))+(3:Int)).tmod (r_.b.length:Int)).toNat default)*(1117:Int))) <|gd (GV .i64<|((r_.p+(1:Int))-(1:Int))*(29:Int)) <|gd (GV .i64<|(((r_.b.getD (((r_.p+(1:Int))-(1:Int)).tmod (r_.b.length:Int)).toNat default)*(131:Int))+((r_.b.getD (((((r_.p+(1:Int))-(1:Int))*(7:Int))+(3:Int)).tmod (r_.b.length:Int)).toNat default)*(1117:Int)))+(((r_.p+(1:Int))-(1:Int))*(29:Int))) <|gd (GV .i64<|((r_.p+(1:Int))-(1:Int)).tdiv (r_.b.length:Int)) <|gd (GV .i64<|(((r_.p+(1:Int))-(1:Int)).tdiv (r_.b.length:Int))*(53:Int)) <|gd (GV .i64<|((((r_.b.getD (((r_.p+(1:Int))-(1:Int)).tmod (r_.b.length:Int)).toNat default)*(131:Int))+((r_.b.getD (((((r_.p+(1:Int))-(1:Int))*(7:Int))+(3:Int)).tmod (r_.b.length:Int)).toNat default)*(1117:Int)))+(((r_.p+(1:Int))-(1:Int))*(29:Int)))+((((r_.p+(1:Int))-(1:Int)).tdiv (r_.b.length:Int))*(53:Int))) <|gd (decide<|(64:Int)≠0) <|gd (GV .i64<|(((((r_.b.getD (((r_.p+(1:Int))-(1:Int)).tmod (r_.b.length:Int)).toNat default)*(131:Int))+((r_.b.getD (((((r_.p+(1:Int))-(1:Int))*(7:Int))+(3:Int)).tmod (r_.b.length:Int)).toNat default)*(1117:Int)))+(((r_.p+(1:Int))-(1:Int))*(29:Int)))+((((r_.p+(1:Int))-(1:Int)).tdiv (r_.b.length:Int))*(53:Int))).tdiv (64:Int)) <|KH (some<|FR .i64 (((((r_.b.getD (((r_.p+(1:Int))-(1:Int)).tmod (r_.b.length:Int)).toNat default)*(131:Int))+((r_.b.getD (((((r_.p+(1:Int))-(1:Int))*(7:Int))+(3:Int)).tmod (r_.b.length:Int)).toNat default)*(1117:Int)))+(((r_.p+(1:Int))-(1:Int))*(29:Int)))+((((r_.p+(1:Int))-(1:Int)).tdiv (r_.b.length:Int))*(53:Int)))<|(((((r_.b.getD (((r_.p+(1:Int))-(1:Int)).tmod (r_.b.length:Int)).toNat default)*(131:Int))+((r_.b.getD (((((r_.p+(1:Int))-(1:Int))*(7:Int))+(3:Int)).tmod (r_.b.length:Int)).toNat default)*(1117:Int)))+(((r_.p+(1:Int))-(1:Int))*(29:Int)))+((((r_.p+(1:Int))-(1:Int)).tdiv (r_.b.length:Int))*(53:Int))).tdiv (64:Int)) λw27=>gd (decide<|n≠0) <|some ((⟨r_.b,(r_.p+(1:Int))⟩:aa),(w27.tmod n))
def aR (r_:aa) (list:LI):Option (aa×Int):= KH (ax (⟨r_.b,r_.p⟩:aa) (list.length:Int)) λv1=>gd (decide<|0<=v1.2/\v1.2<(list.length:Int)) <|some ((⟨v1.1.b,v1.1.p⟩:aa),(list.getD v1.2.toNat default))
def gI (r_:aa) (list:List ByteArray):Option (aa×ByteArray):= KH (ax (⟨r_.b,r_.p⟩:aa) (list.length:Int)) λv1=>gd (decide<|0<=v1.2/\v1.2<(list.length:Int)) <|some ((⟨v1.1.b,v1.1.p⟩:aa),(list.getD v1.2.toNat default))
def gJ (x:Int) (low:Int) (high:Int):Option Bool:= KH (bif decide (low<=x) then some (decide<|x<=high) else some false) λs1=>some s1
section
variable {p:List (List GY)}
structure RunL (p:List (List GY)) (O:List Int->Prop) (q:List (List Int)):Prop where
 run:Run O q
 row:∀ r∈q,r.length=3*p.length+3
theorem RunL.small (hp:PV p) {O:LI->Prop} {q:LL} (h:RunL p O q):(∀ r∈q,r.length<=1048576)/\q.length<=1099511627776:=by
 have := hp.vs.1;have := h.run.len;exact ⟨λr hr=>by rw [h.row r hr];omega,by omega⟩
abbrev Er:ByteArray:=⟨#[116,115,111]⟩
abbrev DG:ByteArray:=⟨#[112,115,111]⟩
theorem F8 (hp:PV p) (hv:av p=some true):G7 (eZ p) (RunL p<|DD p):=(CO hp hv).mono λq h=>⟨h,λr hr=>CP hp<|(h.mem r).1 hr⟩
theorem CQ (hp:PW p) (hv:av p=some true):G7 (aA p Er) (RunL p<|yC p false):=by
 unfold aA;refine .bifD (λh=>absurd h<|by decide) λ_ => .bifD (λ_=>?_) λh=>absurd rfl h;refine G7.bind (P:=RunL p<|yC p false) ?_ λq h => .pure h;unfold iU;exact (yD hp hv false).bind λq h => .pure ⟨h,λr hr=>yH<|(h.mem r).1 hr⟩
theorem CU (hp:PW p) (hv:av p=some true):G7 (aA p DG) (RunL p<|yC p true):=by
 unfold aA;refine .bifD (λh=>absurd h<|by decide) λ_ => .bifD (λh=>absurd h<|by decide) λ_ => .bifD (λ_=>?_) λh=>absurd rfl h;refine G7.bind (P:=RunL p<|yC p true) ?_ λq h => .pure h;unfold iV;exact (yD hp hv true).bind λq h => .pure ⟨h,λr hr=>yH<|(h.mem r).1 hr⟩
end
theorem CV (s:List GY) (h:s.length<=1048576):G7 (aO s s) (· = true):=by
 unfold aO;refine .bif (λh=>by simp at h) λ_=>G7.sum (PS:=λ_=>True) (PW:=(· = true)) ?_ λ_ _ => .pure rfl;refine G7.loop (λi=>0<=i/\i<=(s.length:Int)) (λi=>((s.length:Int)-i).toNat) ⟨Kw _,by omega⟩ λi ⟨h1,h2⟩ => ?_;unfold bX;refine .bifD (λh3 => .gdD ⟨h1,h3⟩<|.gdD ⟨h1,h3⟩<|.bif (λh=>by simp at h) λ_ => .gdI (by omega)<|.pure ⟨⟨by omega,by omega⟩,by omega⟩) λ_ => .pure trivial
theorem CX (p:List<|List GY) (h:p.length<=1048576) (hr:∀ r∈p,r.length<=1048576):G7 (db p p) (· = true):=by
 unfold db;refine G7.bind (P:=(· = true)) ?_ λv hv => .pure hv;unfold ak;refine .bif (λh=>by simp at h) λ_=>G7.sum (PS:=λ_=>True) (PW:=(· = true)) ?_ λ_ _ => .pure rfl;refine G7.loop (λi=>0<=i/\i<=(p.length:Int)) (λi=>((p.length:Int)-i).toNat) ⟨Kw _,by omega⟩ λi ⟨h1,h2⟩ => ?_;unfold ay;refine .bifD (λh3 => .gdD ⟨h1,h3⟩<|.gdD ⟨h1,h3⟩ ?_) λ_ => .pure trivial;have hi:i.toNat<p.length:=by omega
 have hm:p.getD i.toNat default∈p:=by
  rw [gdq,geq hi];exact KJ _
 unfold fD;refine G7.bind (G7.bind (CV _<|hr _ hm) λv hv => .pure (P:=(· = true)) hv) λv hv=>?_;subst hv;exact .bif (λh=>by simp at h) λ_ => .gdI (by omega)<|.pure ⟨⟨by omega,by omega⟩,by omega⟩
section
variable {α:Type} {r:Option α}
theorem gK {n:Int} {x:Option α} (h : -9223372036854775808<=n/\n<=9223372036854775807) (hx:x=r):gd (GV .i64 n) x=r:=by rw [iL (Dw h)];exact hx
theorem oM {A:Prop} [Decidable A] {x:Option α} (h:A) (hx:x=r):gd (decide A) x=r:=by rw [iL (decide_eq_true h)];exact hx
theorem BH {b:Bool} {x y:Option α} (h:b=true) (hx:x=r):(bif b then x else y)=r:=by rw [h];exact hx
theorem xp {b:Bool} {x y:Option α} (h:b=false) (hx:y=r):(bif b then x else y)=r:=by rw [h];exact hx
theorem pU {β:Type} {o:Option β} {k:β->Option α} {v:β} (h:o=some v) (hx:k v=r):o.bind k=r:=by rw [h];exact hx
end
def Bts (b:LI):Prop:=b.length<=1048576/\∀ y∈b,0<=y/\y<=255
theorem Bts.get {b:LI} (h:Bts b) (k:Nat):0<=b.getD k default/\b.getD k default<=255:=by
 rw [gdq]
 by_cases hk:k<b.length
 ·rw [geq hk];exact h.2 _<|KJ _
 rw [gen (by omega)];exact ⟨by decide,by decide⟩
theorem CY {m n:Int} (hm:0<=m/\m<=1000000000000) (hn:0<=n/\n<=1000000000000):0<=FR .i64 m n:=by
 have e1:∀ x:Int,0<=x->x<=1000000000000->(K5 64 x).toNat<2 ^ 62:=by
  intro x h1 h2;rw [BitVec.toNat_ofInt];have : x % ((2:Nat) ^ 64:Nat)=x:=by
   rw [Int.emod_eq_of_lt h1];omega
  omega
 have h3:(K5 64 m ^^^ K5 64 n).toNat<2 ^ 62:=by
  rw [BitVec.toNat_xor];exact Nat.xor_lt_two_pow (e1 m hm.1 hm.2)<|e1 n hn.1 hn.2
 have h4:=IntWalk.i64_in (((K5 64 m ^^^ K5 64 n).toNat:Nat):Int) ⟨by omega,by omega⟩;unfold FR;rw [show IntKind.i64.bits=64 from rfl,h4];omega
theorem CZ {a n:Int} (ha:0<=a) (hn:0<n):0<=a.tmod n/\a.tmod n<n:=by
 rw [Int.tmod_eq_emod_of_nonneg ha];exact ⟨Int.emod_nonneg _ (by omega),Int.emod_lt_of_pos _ hn⟩
theorem Fy {a n:Int} (ha:0<=a) (hn:0<=n):0<=a.tdiv n/\a.tdiv n<=a:=by
 rw [Int.tdiv_eq_ediv_of_nonneg ha];exact ⟨Int.ediv_nonneg ha hn,Int.ediv_le_self _ ha⟩
theorem BI {b:LI} {p:Int} (hb:Bts b) (hp:0<=p/\p<=100000000) (n:Int):∃ v,ax ⟨b,p⟩ n=some (⟨b,p+1⟩,v)/\0<=v/\(v<n\/v=0):=by
 have hl:=hb.1;have e1:p+1-1=p:=by omega
 unfold ax;simp only [e1]
 by_cases h0:n<1\/b.length=0
 ·refine ⟨0,?_,Kw _,.inr rfl⟩;refine gK (by omega) ?_;refine pU (v:=true) ?_<|BH rfl rfl
  by_cases hn:n<1
  ·exact BH (by simp [hn]) rfl
  refine xp (by simp [hn]) ?_;have : b.length=0:=by omega
  simp [this]
 have hn:1<=n:=by omega
 have hl0:0<(b.length:Int):=by omega
 by_cases hlt:p<(b.length:Int)
 ·have hg:=hb.get p.toNat;have hv:=CZ hg.1 (show (0:Int)<n by omega);refine ⟨(b.getD p.toNat default).tmod n,?_,hv.1,.inl hv.2⟩;refine gK (by omega) ?_;refine pU (v:=false) (xp (by simp;omega)<|congrArg some<|beq_eq_false_iff_ne.2<|by omega) (xp rfl ?_);refine gK (by omega)<|BH (by simpa using hlt) ?_;exact oM (by omega)<|gK (by omega)<|oM (by omega) rfl
 have h1:=CZ hp.1 hl0;have h2:=Fy hp.1 (show 0<=(b.length:Int) by omega);have h3:=CZ (a:=p*7+3) (by omega) hl0;have h4:=hb.get (p.tmod (b.length:Int)).toNat;have h5:=hb.get ((p*7+3).tmod (b.length:Int)).toNat;have hx:0<=(b.getD (p.tmod (b.length:Int)).toNat default)*131+(b.getD ((p*7+3).tmod (b.length:Int)).toNat default)*1117+p*29+p.tdiv (b.length:Int)*53 /\
  (b.getD (p.tmod (b.length:Int)).toNat default)*131+(b.getD ((p*7+3).tmod (b.length:Int)).toNat default)*1117+p*29+p.tdiv (b.length:Int)*53<=1000000000000:=by omega
 have h6:=Fy hx.1 (show (0:Int)<=64 by omega);have h7:=CY hx ⟨h6.1,Int.le_trans h6.2 hx.2⟩;have hv:=CZ h7 (show (0:Int)<n by omega);refine ⟨_,?_,hv.1,.inl hv.2⟩;refine gK (by omega) ?_;refine pU (v:=false) (xp (by simp;omega)<|congrArg some<|beq_eq_false_iff_ne.2<|by omega) (xp rfl ?_);refine gK (by omega)<|xp (by simpa using hlt) ?_;refine oM (by omega)<|oM h1<|gK (by omega)<|gK (by omega)<|gK (by omega)<|gK (by omega)<|oM h3<|gK (by omega) ?_;refine gK (by omega)<|gK (by omega)<|gK (by omega)<|gK (by omega)<|gK (by omega)<|gK (by omega)<|gK (by omega) ?_;refine oM (by omega)<|gK (by omega)<|oM (by omega) rfl
theorem FA {b:LI} {p:Int} (hb:Bts b) (hp:0<=p/\p<=100000000) (l:LI) (hl:l≠[]):∃ v,aR ⟨b,p⟩ l=some (⟨b,p+1⟩,v)/\v∈l:=by
 obtain ⟨v,h1,h2,h3⟩:=BI hb hp (l.length:Int);have hpos:0<l.length:=LD.2 hl;have h4:v<(l.length:Int):=by omega
 refine ⟨l.getD v.toNat default,?_,?_⟩
 ·unfold aR;exact pU h1<|oM ⟨h2,h4⟩ rfl
 rw [gdq,geq (by omega)];exact KJ _
theorem Es {b:LI} (hb:Bts b):∃ b',ek b=some ⟨b',0⟩/\Bts b':=by
 unfold ek
 by_cases h:(2000:Int)<(b.length:Int)
 ·refine ⟨_,pU (BH (by simpa using h)<|oM (by omega) rfl) rfl,?_,λy hy=>?_⟩
  ·rw [List.length_take];omega
  exact hb.2 y<|Ly<|List.mem_of_mem_take hy
 exact ⟨b,pU (xp (by simpa using h) rfl) rfl,hb⟩
def Rd (k:Int) (r:aa):Prop:=Bts r.b/\0<=r.p/\r.p<=k
theorem Rd.mono {k k':Int} {r:aa} (h:Rd k r) (hk:k<=k'):Rd k' r:=⟨h.1,h.2.1,by have := h.2.2;omega⟩
theorem Rd.mk' {k:Int} {r:aa} (h:Rd k r):Rd k ⟨r.b,r.p⟩:=h
theorem fS {k:Int} {r:aa} (h:Rd k r) (hk:k<=100000000) (n:Int):G7 (ax r n) λv=>Rd (k+1) v.1/\0<=v.2/\(v.2<n\/v.2=0):=by
 obtain ⟨b,p⟩:=r;obtain ⟨h1,h2,h3⟩:=h;obtain ⟨v,e,h4,h5⟩:=BI h1 (p:=p) ⟨h2,by simp only at h3;omega⟩ n;exact ⟨_,e,⟨h1,by simp only at h2 ⊢;omega,by simp only at h3 ⊢;omega⟩,h4,h5⟩
theorem nD {k:Int} {r:aa} (h:Rd k r) (hk:k<=100000000) (l:LI) (hl:l≠[]):G7 (aR r l) λv=>Rd (k+1) v.1/\v.2∈l:=by
 obtain ⟨b,p⟩:=r;obtain ⟨h1,h2,h3⟩:=h;obtain ⟨v,e,h4⟩:=FA h1 (p:=p) ⟨h2,by simp only at h3;omega⟩ l hl;exact ⟨_,e,⟨h1,by simp only at h2 ⊢;omega,by simp only at h3 ⊢;omega⟩,h4⟩
theorem yI {b:LI} (h:Bts b):G7 (ek b) (Rd 0):=by
 obtain ⟨b',e,h'⟩:=Es h;exact ⟨_,e,h',Kw _,Kw _⟩
end
end Go.Proofs.YtjcmfddobaplbaaGreat
