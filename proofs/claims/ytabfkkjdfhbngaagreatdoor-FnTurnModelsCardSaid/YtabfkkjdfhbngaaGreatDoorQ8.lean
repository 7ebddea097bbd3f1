/- Texts joined. No conditions. -/
import Derived.Test.YtabfkkjdfhbngaaGreatDoorProg
import Derived.Shelf.Strings.OnBuilder
import Derived.ChangeSame
import Derived.ChangeSlices
import Derived.WideKeyArgs
import Derived.Carry
import Derived.Deep.Slices
import Derived.Deep.Fields
import Derived.ProofKit
import Derived.Test.YtabfkkjdfhbngaaGreatDoorQ7
namespace Go.Proofs.YtabfkkjdfhbngaaGreatDoor
noncomputable section
open _root_.Inhabited renaming default -> Nj
open _root_.Bool renaming true -> Nk
open _root_.Bool renaming false -> Nl
open _root_.Option renaming some -> Nn
open _root_.Option renaming none -> Np
open _root_.Decidable renaming decide -> Nq
open _root_.Go.Proofs.Tryz
open _root_.Go.Proofs.Tryz renaming prog -> Nr
open _root_.Option renaming bind -> RJ, getD_some -> Sg
open _root_.List renaming replicate -> RL, mem_map -> RO, length_nil -> RQ, all_eq_true -> RR, mem_append -> RS, getElem_mem -> RU, mem_range -> RX, range -> RY, getElem?_cons_succ -> RZ, mem_singleton -> R3, mem_cons -> R4, not_mem_nil -> R5, append_assoc -> R6, getElem?_map -> R8, getElem_map -> R9, length_range -> Sa, length_take -> Sb, take_length -> Sc, nodup_cons -> Sd, getElem?_set -> Sf, mem_cons_of_mem -> Sj, length_replicate -> Sk, eq_of_mem_replicate -> Sn, filter_eq_self -> Sq, filter_cons_of_neg -> Sr, pairwise_iff_getElem -> Ss, getElem_of_mem -> Su, getElem?_range -> Sv, replicate_succ' -> SA, mem_append_left -> SB, mem_append_right -> SC
open _root_.Int renaming le_refl -> RN
open _root_.Nat renaming zero_le -> RP, le_refl -> R7, lt_of_lt_of_le -> Si, add_lt_add_iff_right -> Sy, ble_eq_true_of_le -> Sz
open _root_.Bool renaming eq_iff_iff -> Se
set_option maxHeartbeats 4000000
open Go.RowKit
set_option maxRecDepth 100000
theorem vz {p:List (List M5)}:smP p=Nk↔p.length<=4/\∀ r∈p,r.length<=8/\∀ x∈r,smI x=Nk:=by
 simp only [smP,bae,dte,RR]
theorem Iv {p:List (List M5)} (h:smP p=Nk):ES p=Nk:=by
 rw [vz] at h;simp only [ES,bae,dte,RR];exact ⟨by omega,λr hr=>by have := (h.2 r hr).1;omega⟩
theorem Bg {α:Type} {m:Nat}:∀ {p:List (List α)},(∀ r∈p,r.length<=m)->total p<=p.length*m
 | [],_=>by simp [total]
 | r::p,h=>by
  have h1:=Bg (p:=p) λx hx=>h x<|Sj _ hx;have h2:=h r<|List.mem_cons_self;simp only [total,List.map_cons,List.sum_cons,llc,Nat.add_mul,Nat.one_mul] at h1 ⊢;omega
theorem K7 {p:List (List M5)} (h:smP p=Nk):p.length<=1048576/\total p<=1048576:=by
 rw [vz] at h;have h1:=Bg (m:=8) λr hr=>(h.2 r hr).1;have h2:p.length*8<=32:=by omega
 exact ⟨by omega,by omega⟩
theorem zw {k:Int} {r:ah} (h:Rd k r) (hk:k<=10000000):M9 (kr r) λv=>Rd (k+4) v.1/\smI v.2=Nk:=by
 unfold kr;refine (mr h.mk' (by omega) 2).bind λv1 ⟨a1,a2,a3⟩=>(mr a1.mk' (by omega) 7).bind λv2 ⟨b1,b2,b3⟩ => ?_;refine .bif (λ_ => .pure ⟨b1.mono (by omega),by simp only [smI];exact decide_eq_true<|by omega⟩) λ_=>?_;refine .bif (λ_=>(mr b1.mk' (by omega) 2).bind λv3 ⟨c1,c2,c3⟩ => .pure ⟨c1.mono (by omega),decide_eq_true<|by simp only [];omega⟩) λ_=>?_;refine .bif (λ_=>(mr b1.mk' (by omega) 2).bind λv3 ⟨c1,c2,c3⟩=>(mr c1.mk' (by omega) 3).bind λv4 ⟨d1,d2,d3⟩ => .gdI (by omega)<|.pure ⟨d1.mono (by omega),decide_eq_true<|by simp only [];omega⟩) λ_=>?_;refine M9.bind (P:=λ_=>True) (.bif (λ_ => .pure trivial) λ_ => .pure trivial) λs _=>?_;refine .bif (λ_=>(mr b1.mk' (by omega) 3).bind λv3 ⟨c1,c2,c3⟩ => .gdI (by omega)<|.pure ⟨c1.mono (by omega),decide_eq_true<|by simp only [];omega⟩) λ_=>?_;exact (mr b1.mk' (by omega) 2).bind λv3 ⟨c1,c2,c3⟩ => .pure ⟨c1.mono (by omega),decide_eq_true<|by simp only [];omega⟩
theorem ET {k:Int} {b:LI} {p n:Int} (h:Rd k ⟨b,p⟩) (hk:k<=1000000) (hn:0<=n/\n<=3):M9 (aV mX (b,p,([]:List M5),n)) λv=>Rd (k+12) ⟨v.1,v.2.1⟩/\v.2.2.length<=3/\∀ x∈v.2.2,smI x=Nk:=by
 refine M9.loop (λs=>Rd (k+4*(3-s.2.2.2)) ⟨s.1,s.2.1⟩/\(0<=s.2.2.2/\s.2.2.2+(s.2.2.1.length:Int)<=3)/\∀ x∈s.2.2.1,smI x=Nk) (λs=>s.2.2.2.toNat) ⟨h.mono (by simp only [];omega),by simp;omega,by simp⟩ λs ⟨h1,h2,h3⟩ => ?_;unfold mX;refine .bifD (λh0=>?_) λh0 => .pure ⟨h1.mono (by omega),by simp only [];omega,h3⟩;refine (zw h1<|by omega).bind λv ⟨a1,a2⟩ => .gdC (by omega) rfl<|.gdI (by omega)<|.pure ⟨⟨a1.mk'.mono (by simp only [];omega),by simp only [lla,llc,RQ];omega,λx hx=>?_⟩,by simp only [];omega⟩;rcases RS.1 hx with hx | hx
 ·exact h3 x hx
 rw [R3.1 hx];exact a2
theorem Di {k:Int} {b:LI} {p n:Int} (h:Rd k ⟨b,p⟩) (hk:k<=100000) (hn:0<=n/\n<=3):M9 (aV mY (b,p,([]:List<|List M5),n)) λv=>Rd (k+39) ⟨v.1,v.2.1⟩/\smP v.2.2=Nk:=by
 refine M9.loop (λs=>Rd (k+13*(3-s.2.2.2)) ⟨s.1,s.2.1⟩/\(0<=s.2.2.2/\s.2.2.2+(s.2.2.1.length:Int)<=3)/\∀ r∈s.2.2.1,r.length<=8/\∀ x∈r,smI x=Nk) (λs=>s.2.2.2.toNat) ⟨h.mono (by simp only [];omega),by simp;omega,by simp⟩ λs ⟨h1,h2,h3⟩ => ?_;unfold mY;refine .bifD (λh0=>?_) λh0 => .pure ⟨h1.mono (by omega),vz.2 ⟨by simp only [];omega,h3⟩⟩;refine M9.bind (P:=λv=>Rd (k+13*(3-s.2.2.2)+13) ⟨v.1,v.2.1⟩/\∃ t:List M5,v.2.2=s.2.2.1++[t]/\t.length<=8/\∀ x∈t,smI x=Nk) ?_ λv ⟨a1,t,a2,a3,a4⟩ => ?_
 ·refine M9.bind (P:=λv=>Rd (k+13*(3-s.2.2.2)+13) ⟨v.1,v.2.1⟩/\v.2.2.length<=3/\∀ x∈v.2.2,smI x=Nk) ?_ λv ⟨a1,a2,a3⟩ => .gdC (by omega) rfl<|.pure ⟨a1,v.2.2,rfl,by omega,a3⟩;refine (vu h1 (by omega) _<|by simp).bind λv ⟨b1,b2⟩=>(ET (n:=v.2) b1.mk' (by omega)<|by simp only [R4,R5,or_false] at b2;omega).mono λu ⟨c1,c2,c3⟩=>⟨c1.mono (by omega),c2,c3⟩
 refine .gdI (by omega)<|.pure ⟨⟨a1.mono (by simp only [];omega),by simp only [a2,lla,llc,RQ];omega,λr hr=>?_⟩,by simp only [];omega⟩;simp only [a2] at hr;rcases RS.1 hr with hr | hr
 ·exact h3 r hr
 rw [R3.1 hr];exact ⟨a3,a4⟩
theorem EU {k:Int} {r:ah} (h:Rd k r) (hk:k<=10000) (hp:∀ l,iD=Nn l->∀ t∈l,M9 (bJ t) λv=>smP v.1=Nk):M9 (oP r) λv=>Rd (k+46) v.1/\smP v.2=Nk:=by
 unfold oP J;have e1:∃ l,iD=Nn l/\0<l.length/\l.length<=100:=⟨_,rfl,by decide,by decide⟩;obtain ⟨l,e1,e2,e3⟩:=e1;have hp':=hp l e1;refine (M9.of (P:=λv=>v=l) e1 rfl).bind λv1 hv=>?_;subst hv;refine M9.sum (PS:=λs=>Rd (k+2) ⟨s.1,s.2⟩) (PW:=λv:ah×List (List M5)=>Rd (k+46) v.1/\smP v.2=Nk) ?_ λs hs=>?_
 ·refine (mr h.mk' (by omega) 3).bind λv3 ⟨a1,a2,a3⟩ => .bif (λ_=>?_) λ_ => .pure<|a1.mk'.mono (by omega);refine (mr a1.mk' (by omega) _).bind λv5 ⟨b1,b2,b3⟩ => .gdD ⟨b2,by omega⟩ ?_;have hlt:v5.2.toNat<v1.length:=by omega
  refine M9.bind (hp' (v1.getD v5.2.toNat Nj)<|by rw [gdq,geq hlt];exact RU _) λv7 h7=>?_;exact .bif (λ_ => .pure ⟨b1.mk'.mono (by omega),h7⟩) λ_ => .pure<|b1.mk'.mono (by omega)
 refine M9.bind (P:=λv=>Rd (k+42) ⟨v.1,v.2.1⟩/\smP v.2.2=Nk) ?_ λv ⟨a1,a2⟩ => ?_
 ·exact (vu hs (by omega) _<|by simp).bind λv ⟨b1,b2⟩=>(Di (n:=v.2) b1.mk' (by omega)<|by simp only [R4,R5,or_false] at b2;omega).mono λu ⟨c1,c2⟩=>⟨c1.mono (by omega),c2⟩
 have hv:M9 (bU v.2.2) λ_=>True := .gdD (K7 a2)<|.pure trivial;refine hv.bind λb _ => .bif (λ_ => .pure ⟨a1.mono (by omega),a2⟩) λ_=>?_;exact (zw a1<|by omega).bind λu ⟨c1,c2⟩ => .pure ⟨c1.mk'.mono (by omega),vz.2 ⟨by simp,by simp [c2]⟩⟩
theorem JY {p:List (List M5)} (h:smP p=Nk) {i:Nat} (hi:i<p.length) {l:List M5} (hl:(p.getD i []).length+l.length<=9) (hx:∀ x∈l,smI x=Nk):(Hn p i l).length<=4/\∀ r∈Hn p i l,r.length<=9/\∀ x∈r,smI x=Nk:=by
 rw [vz] at h;unfold Hn;refine ⟨by rw [List.length_set];exact h.1,λr hr=>?_⟩;rcases List.mem_or_eq_of_mem_set hr with hr | rfl
 ·exact ⟨by have := (h.2 r hr).1;omega,(h.2 r hr).2⟩
 have hg:p.getD i []=p[i]:=by simp [hi]
 refine ⟨by rw [lla];omega,λx hxx=>?_⟩;rcases RS.1 hxx with hxx | hxx
 ·rw [hg] at hxx;exact (h.2 _<|RU hi).2 x hxx
 exact hx x hxx
def Sm (p:List<|List M5):Prop:=p.length<=9/\∀ r∈p,r.length<=9/\∀ x∈r,smI x=Nk
theorem Eg {p:List (List M5)} (h:smP p=Nk):Sm p:=by
 rw [vz] at h;exact ⟨by omega,λr hr=>⟨by have := (h.2 r hr).1;omega,(h.2 r hr).2⟩⟩
theorem Sm.sz {p:List (List M5)} (h:Sm p):p.length<=1048576/\total p<=1048576:=by
 have h1:=Bg (m:=9) λr hr=>(h.2 r hr).1;have h2:p.length*9<=81:=by have := h.1;omega
 exact ⟨by have := h.1;omega,by omega⟩
theorem Ch {k:Int} {r:ah} (h:Rd k r) (hk:k<=100000) {p:List (List M5)} (hp:smP p=Nk):M9 (jh r p) λv=>Rd (k+4) v.1/\Sm v.2:=by
 unfold jh;have hp0:=vz.1 hp;have hg:∀ i,(p.getD i []).length<=8:=λi=>by
  by_cases hi:i<p.length
  ·have : p.getD i []=p[i]:=by simp [hi]
   rw [this];exact (hp0.2 _<|RU hi).1
  simp [List.getD,gen (Nat.le_of_not_lt hi)]
 refine .gd (Iv hp)<|.bif (λ_ => .pure ⟨h.mono (by omega),Eg hp⟩) λh0=>?_;have hpos:0<p.length:=by
  cases hc:p.length with
  | zero=>rw [hc] at h0;cases h0
  | succ n=>omega
 refine (mr h (by omega) _).bind λv1 ⟨a1,a2,a3⟩=>(mr a1 (by omega) _).bind λv2 ⟨b1,b2,b3⟩ => .gdD ⟨a2,by omega⟩ ?_;have hi:v1.2.toNat<p.length:=by omega
 have put:∀ {l:List M5},(p.getD v1.2.toNat []).length+l.length<=9->(∀ x∈l,smI x=Nk)->Sm (Hn p v1.2.toNat l):=λ{l} hl hx=>by
  obtain ⟨g1,g2⟩:=JY hp hi hl hx;exact ⟨by omega,g2⟩
 refine .bif (λ_=>(vu b1 (by omega) _<|by simp).bind λa ⟨c1,c2⟩=>(vu c1 (by omega) _<|by simp).bind λb ⟨d1,d2⟩ => .pure ⟨d1.mono (by omega),put (by have := hg v1.2.toNat;simp only [llc,RQ];omega) λx hx=>?_⟩) λ_=>?_
 ·rw [R3.1 hx];simp only [R4,R5,or_false] at c2 d2;exact decide_eq_true (by simp only [];omega)
 refine .bif (λ_=>(vu b1 (by omega) _<|by simp).bind λa ⟨c1,c2⟩ => .pure ⟨c1.mono (by omega),put (by have := hg v1.2.toNat;simp only [llc,RQ];omega) λx hx=>?_⟩) λ_=>?_
 ·rw [R3.1 hx];simp only [R4,R5,or_false] at c2;exact decide_eq_true (by simp only [];omega)
 refine .bif (λ_ => .pure ⟨b1.mono (by omega),by simp only [lla,Sk];omega,λr hr=>?_⟩) λ_=>?_
 ·rcases RS.1 hr with hr | hr
  ·exact ⟨by have := (hp0.2 r hr).1;omega,(hp0.2 r hr).2⟩
  rw [Sn hr];exact ⟨by simp,by simp⟩
 refine .bif (λ_ => .pure ⟨b1.mono (by omega),put (by have := hg v1.2.toNat;rw [Sk];omega) λx hx=>?_⟩) λ_=>?_
 ·rw [Sn hx]
  rfl
 refine .bif (λ_ => .pure ⟨b1.mono (by omega),?_⟩) λ_ => .pure ⟨b1.mono (by omega),Eg hp⟩;exact ⟨by simp only [Sb,List.length_drop];omega,λr hr=>(Eg hp).2 r<|List.mem_of_mem_drop<|List.mem_of_mem_take hr⟩
def su (code:LI):Option ((List<|List M5)×Int×Int):= RJ (ko code) λv1=>RJ (nz (⟨v1.b,v1.p⟩:ah)) λv2=>RJ (jh (⟨v2.1.b,v2.1.p⟩:ah) v2.2) λv3=>RJ (bC (⟨v3.1.b,v3.1.p⟩:ah) ([(0:Int),(1:Int),(0:Int),(2:Int),(-1:Int)]:LI)) λv4=>RJ (bC (⟨v4.1.b,v4.1.p⟩:ah) ([(1:Int),(0:Int),(2:Int),(3:Int)]:LI)) λv5=>Nn (v3.2,v4.2,v5.2)
def eD (code:LI):Option ((List<|List M5)×Int×Int):= RJ (su code) λv1=>Nn (v1.1,v1.2.1,v1.2.2)
def ji (p:List<|List M5) (t:Int):Option Bool:= RJ (da p) λv1=>RJ (bif v1 then gd (M3 .i64<|(p.length:Int)-(1:Int)) <|RJ (fu t (0:Int)<|(p.length:Int)-(1:Int)) λv5=>Nn v5 else Nn Nl) λs2=>Nn s2
def bq (s:List M5):Option (List M5):= nilK (s.isEmpty) (Nn ([]:List M5)) (gd (dS (([]:List M5).length+s.length) 32) <|Nn<|([]:List M5)++s)
def mM (p:List<|List M5):LS ((List<|List M5)×Int) (List<|List M5):=λs6=>bif Nq (s6.2<(p.length:Int)) then gd (Nq<|0<=s6.2/\s6.2<(p.length:Int)) <|RJ (bq<|J p s6.2) λv11=>gd (Nq<|0<=s6.2/\s6.2<(s6.1.length:Int)) <|gd (M3 .i64<|s6.2+(1:Int)) <|Nn (.inl ((s6.1.set s6.2.toNat v11),(s6.2+(1:Int)))) else Nn (.inr s6.1)
def iw (p:List<|List M5):Option (List<|List M5):= gd (Nq<|0<=(p.length:Int)/\(p.length:Int)<=(p.length:Int)/\(p.length:Int)*((24:Nat):Int)<=140737488355328/\(p.length:Int)<=140737488355328) <|RJ (aV (mM p) ((RL (p.length:Int).toNat ([]:List M5)),(0:Int))) λs2=>Nn s2
def iU (p:List<|List M5) (i:Int) (k_:Int):Option ((List<|List M5)×Bool):= RJ (ji p i) λv1=>RJ (bif !v1 then Nn Nk else RJ (ji p k_) λv4=>Nn<|!v4) λs2=>bif s2 then Nn (([]:List<|List M5),Nl) else RJ (iw p) λv6=>gd (Nq<|0<=k_/\k_<(v6.length:Int)) <|gd (Nq<|0<=i/\i<(v6.length:Int)) <|Nn (((v6.set i.toNat<|J v6 k_).set k_.toNat<|J v6 i),Nk)
def p8 (n:Int) (most:Int):Option Bool:= RJ (bif Nq ((0:Int)<=n) then Nn (Nq<|n<=most) else Nn Nl) λs1=>Nn s1
def qQ (n:Int) (i:Int) (k_:Int):Option Int:= bif (n==i) then Nn k_ else bif (n==k_) then Nn i else Nn n
def mN (p:List<|List M5) (i:Int) (k_:Int):LS ((List<|List M5)×Int) (List<|List M5):=λs15=>bif Nq (s15.2<(p.length:Int)) then RJ (qQ s15.2 i k_) λv19=>gd (Nq<|0<=v19/\v19<(p.length:Int)) <|gd (dS (([]:List M5).length+(J p v19).length) 32) <|gd (dS (s15.1.length+1) 24) <|gd (M3 .i64<|s15.2+(1:Int)) <|Nn (.inl ((s15.1++[(([]:List M5)++(J p v19))]),(s15.2+(1:Int)))) else Nn (.inr s15.1)
def iV (p:List<|List M5) (i:Int) (k_:Int):Option ((List<|List M5)×Bool):= RJ (bU p) λv1=>RJ (bif !v1 then Nn Nk else gd (M3 .i64<|(p.length:Int)-(1:Int)) <|RJ (p8 i<|(p.length:Int)-(1:Int)) λv5=>Nn<|!v5) λs2=>RJ (bif s2 then Nn Nk else gd (M3 .i64<|(p.length:Int)-(1:Int)) <|RJ (p8 k_<|(p.length:Int)-(1:Int)) λv9=>Nn<|!v9) λs6=>bif s6 then Nn (([]:List<|List M5),Nl) else RJ (aV (mN p i k_) (([]:List<|List M5),(0:Int))) λs11=>Nn (s11,Nk)
def dB (s1_:List M5) (s2_:List M5):LS Int (Unit ⊕ Bool):=λs5=>bif Nq (s5<(s1_.length:Int)) then gd (Nq<|0<=s5/\s5<(s1_.length:Int)) <|gd (Nq<|0<=s5/\s5<(s2_.length:Int)) <|bif (!(((J s1_ s5).Op)==((J s2_ s5).Op)&&(((J s1_ s5).Loc)==((J s2_ s5).Loc)&&(((J s1_ s5).Reg)==((J s2_ s5).Reg)&&(((J s1_ s5).Val)==((J s2_ s5).Val)&&Nk))))) then Nn (.inr<|.inr Nl) else gd (M3 .i64<|s5+(1:Int)) <|Nn (.inl<|s5+(1:Int)) else Nn (.inr<|.inl ())
def bu (s1_:List M5) (s2_:List M5):Option Bool:= bif ((s1_.length:Int) != (s2_.length:Int)) then Nn Nl else sumK (aV (dB s1_ s2_) (0:Int)) λs2=>Nn Nk
def jX (x:List M5) (y:List M5):Option Bool:= RJ (bu x y) λv1=>Nn v1
def aG (s1_:List<|List M5) (s2_:List<|List M5):LS Int (Unit ⊕ Bool):=λs5=>bif Nq (s5<(s1_.length:Int)) then gd (Nq<|0<=s5/\s5<(s1_.length:Int)) <|gd (Nq<|0<=s5/\s5<(s2_.length:Int)) <|RJ (jX (J s1_ s5)<|J s2_ s5) λv10=>bif !v10 then Nn (.inr<|.inr Nl) else gd (M3 .i64<|s5+(1:Int)) <|Nn (.inl<|s5+(1:Int)) else Nn (.inr<|.inl ())
def az (s1_:List<|List M5) (s2_:List<|List M5):Option Bool:= bif ((s1_.length:Int) != (s2_.length:Int)) then Nn Nl else sumK (aV (aG s1_ s2_) (0:Int)) λs2=>Nn Nk
def fF (a:List<|List M5) (b:List<|List M5):Option Bool:= RJ (az a b) λv1=>Nn v1
def mD (v2:(List<|List M5)×Int×Int) (v3:(List<|List M5)×Bool):LS Int (Unit ⊕ Bool):=λs17=>bif Nq (s17<(([(⟨#[115,101,113]⟩:BA),(⟨#[116,115,111]⟩:BA),(⟨#[112,115,111]⟩:BA),(⟨#[114,97]⟩:BA),(⟨#[108,111,99]⟩:BA)]:List BA).length:Int)) then gd (Nq<|0<=s17/\s17<(([(⟨#[115,101,113]⟩:BA),(⟨#[116,115,111]⟩:BA),(⟨#[112,115,111]⟩:BA),(⟨#[114,97]⟩:BA),(⟨#[108,111,99]⟩:BA)]:List BA).length:Int)) <|RJ (j5<|J ([(⟨#[115,101,113]⟩:BA),(⟨#[116,115,111]⟩:BA),(⟨#[112,115,111]⟩:BA),(⟨#[114,97]⟩:BA),(⟨#[108,111,99]⟩:BA)]:List BA) s17) λv21=>RJ (bif !v21.2 then Nn Nk else RJ (dZ v2.1 v21.1) λv24=>RJ (dZ v3.1 v21.1) λv25=>Nn<|(v24.length:Int) != (v25.length:Int)) λs22=>bif s22 then Nn (.inr<|.inr Nl) else gd (M3 .i64<|s17+(1:Int)) <|Nn (.inl<|s17+(1:Int)) else Nn (.inr<|.inl ())
def d9 (code:LI):Option Bool:= bif Nq ((1048576:Int)<(code.length:Int)) then Nn Nk else RJ (eD code) λv2=>RJ (iU v2.1 v2.2.1 v2.2.2) λv3=>RJ (iV v2.1 v2.2.1 v2.2.2) λv4=>RJ (bif (!(v3.2==v4.2)) then Nn Nk else RJ (fF v3.1 v4.1) λv7=>Nn<|!v7) λs5=>RJ (bif s5 then Nn Nk else Nn (!v3.2)) λs8=>bif s8 then RJ (bif (v3.2==v4.2) then RJ (fF v3.1 v4.1) λv13=>Nn v13 else Nn Nl) λs11=>Nn s11 else sumK (aV (mD v2 v3) (0:Int)) λs14=>Nn Nk
section
variable {p:List (List M5)} {s:LI} {k:Nat}
variable (hk:k+1<s.length) (hne:s.getD k Nj≠s.getD (k+1) Nj)
include hk
include hne
end


theorem Iw {p:List (List M5)} {m:List ai} {good:M6->Bool} (v:List M6) (hl:v.length<=1000000) (heq:∀ a∈v,M9 (dA a p m) (· = !good a)):M9 (aB v p m) (· = v.filter good):=by
 unfold aB;refine M9.bind (P:=λr:Int=>(r = -1/\∀ n∈v,good n=Nk)\/(0<=r/\r<(v.length:Int)/\good (v.getD r.toNat Nj)=Nl/\∀ n∈v.take r.toNat,good n=Nk)) ?_ λr hr=>?_
 ·unfold aO;refine M9.sum (PS:=λ_=>∀ n∈v,good n=Nk) (PW:=λr:Int=>(r = -1/\∀ n∈v,good n=Nk)\/(0<=r/\r<(v.length:Int)/\good (v.getD r.toNat Nj)=Nl/\∀ n∈v.take r.toNat,good n=Nk)) ?_ λ_ h => .pure<|.inl ⟨rfl,h⟩;refine M9.loop (λz=>∃ k:Nat,k<=v.length/\z=(k:Int)/\∀ n∈v.take k,good n=Nk) (λz=>((v.length:Int)-z).toNat) ⟨0,by omega,rfl,by simp⟩ λz ⟨k,h1,h2,h3⟩ => ?_;subst h2;unfold aY J;simp only [tnn];refine .bifD (λhk => .gdD ⟨by omega,hk⟩<|(heq _<|getD_in<|by omega).bind λb hb=>?_) λhk => .pure ?_
  ·subst hb;refine .bif (λhe => .pure<|.inr ⟨by omega,hk,by rw [tnn];simpa using he,by rw [tnn];exact h3⟩) λhe => .gdI (by omega)<|.pure ⟨⟨k+1,by omega,rfl,λn hn=>?_⟩,by omega⟩;rw [gF (by omega),RS,R3] at hn;rcases hn with hn | rfl
   ·exact h3 n hn
   simpa using he
  rwa [show k=v.length by omega,Sc] at h3
 rcases hr with ⟨rfl,h⟩ | ⟨r0,r1,r2,r3⟩
 ·refine .bif (λ_ => .pure ?_) λh=>by cases h
  rw [Sq.2 λn hn=>h n hn]
 refine .bif (λh=>by have := eq_of_beq h;omega) λ_=>?_;refine M9.bind (P:=λz=>z.1.length=v.length/\(0<=z.2/\z.2<=(v.length:Int))/\z.1.take z.2.toNat=v.filter (good)) (.gdI (by omega) ?_) λz ⟨z1,⟨z2,z3⟩,z4⟩ => ?_
 ·refine M9.loop (λz=>∃ j k:Nat,j<=v.length/\k<=j/\z.2.1=(j:Int)/\z.2.2=(k:Int)/\z.1.length=v.length/\(∀ q:Nat,j<=q->z.1[q]? = v[q]?)/\z.1.take k=(v.take j).filter (good)) (λz=>((v.length:Int)-z.2.1).toNat) ⟨r.toNat+1,r.toNat,by omega,by omega,by simp only [];omega,by simp only [];omega,rfl,λ_ _=>rfl,?_⟩ λz ⟨j,k,h1,h2,h3,h4,h5,h6,h7⟩ => ?_
  ·simp only [];rw [gF (by omega),List.filter_append,Sq.2 λn hn=>r3 n hn,Sr (by rw [r2];decide)];simp
  obtain ⟨s,z1,z2⟩:=z;simp only at h3 h4 h5 h6 h7;subst h3 h4;unfold aX J;simp only [tnn,h5];refine .bifD (λhk=>?_) λhk => .pure ⟨h5,⟨by simp only [];omega,by simp only [];omega⟩,?_⟩
  ·have hj:j<v.length:=by omega
   have e1:s.getD j Nj=v.getD j Nj:=by rw [gdq,gdq,h6 j (R7 _)]
   rw [e1];refine M9.bind (P:=λz:List M6×Int=>∃ k:Nat,k<=j+1/\z.2=(k:Int)/\z.1.length=v.length/\(∀ q:Nat,j+1<=q->z.1[q]? = v[q]?)/\z.1.take k=(v.take<|j+1).filter (good)) (.gdD ⟨by omega,hk⟩<|(heq _<|getD_in hj).bind λb hb=>?_) λz ⟨k',g1,g2,g3,g4,g5⟩ => .gdI (by omega)<|.pure ⟨⟨j+1,k',by omega,g1,rfl,g2,g3,g4,g5⟩,by simp only [];omega⟩;subst hb;rw [gF hj,List.filter_append];refine .bif (λhn=>?_) λhn=>?_
   ·refine .gdD ⟨by omega,by omega⟩<|.gdI (by omega)<|.pure ⟨k+1,by omega,rfl,by simp [h5],λq hq=>?_,?_⟩
    ·simp only [];rw [List.getElem?_set_ne (by omega)];exact h6 q (by omega)
    simp only [];have hks:k<s.length:=by omega
    rw [List.take_add_one,List.getElem?_set_self hks,List.take_set_of_le (R7 _),h7]
    congr 1
    rw [List.filter_cons_of_pos (show good (v.getD j Nj)=Nk by simpa using hn)]
    rfl
   refine .pure ⟨k,by omega,rfl,h5,λq hq=>h6 q (by omega),?_⟩;simp only [];rw [h7,Sr (show ¬ good (v.getD j Nj)=Nk by simpa using hn)];simp
  simp only [];rw [tnn,h7,show j=v.length by omega,Sc]
 refine .gdD ⟨by omega,by omega⟩<|.gdD ⟨z2,by omega,by omega⟩<|.gdD ⟨by omega,z2,by omega⟩<|.pure ?_;rw [<- z4];simp only [cpy,Nat.zero_add,show (0:Int).toNat=0 from rfl,List.drop_zero,Nat.sub_zero]
 split
 ·rw [R6,List.take_append_of_le_length (by rw [Sb];omega),List.take_take,Nat.min_self]
 rfl
section
variable {α β:Type}
theorem Dj {l:List α} {f:α->List β} (h1:∀ a∈l,(f a).Nodup) (hn:l.Nodup) (h2:∀ a∈l,∀ b∈l,∀ y,y∈f a->y∈f b->a=b):(l.flatMap f).Nodup:=by
 induction l with
 | nil=>exact .nil
 | cons a l ih=>
  rw [List.flatMap_cons];obtain ⟨n1,n2⟩:=Sd.1 hn;refine List.nodup_append.2 ⟨h1 a (by simp),ih (λb hb=>h1 b<|by simp [hb]) n2 λb hb c hc=>h2 b (by simp [hb]) c (by simp [hc]),λy hy z hz e=>?_⟩;subst e;obtain ⟨b,hb,hyb⟩:=List.mem_flatMap.1 hz;have := h2 a (by simp) b (by simp [hb]) y hy hyb;subst this;exact n1 hb
theorem Eh {l:List α} {f:α->β} (hn:l.Nodup) (h:∀ a∈l,∀ b∈l,f a=f b->a=b):(l.map f).Nodup:=by
 induction l with
 | nil=>exact .nil
 | cons a l ih=>
  obtain ⟨n1,n2⟩:=Sd.1 hn;rw [List.map_cons];refine Sd.2 ⟨λhm=>?_,ih n2 λb hb c hc=>h b (by simp [hb]) c<|by simp [hc]⟩;obtain ⟨b,hb,e⟩:=RO.1 hm;have := h a (by simp) b (by simp [hb]) e.symm;subst this;exact n1 hb
end
theorem Dk {α:Type}:∀ {cs:List (List α)},(∀ c∈cs,c.Nodup)->(rT cs).Nodup
 | [],_=>by simp [rT]
 | c::cs,h=>by
  have ih:=Dk (cs:=cs) λd hd=>h d (by simp [hd]);unfold rT;refine Dj (λa _=>Eh ih λx _ y _ e=>by simpa using e) (h c<|by simp) λa _ b _ y hy hz=>?_;obtain ⟨u,_,rfl⟩:=RO.1 hy;obtain ⟨v,_,e⟩:=RO.1 hz;simpa using (List.cons.inj e).1.symm
theorem I6:∀ (n:Nat) (l:LI),l.Nodup->(prm n l).Nodup
 | 0,l,_=>by simp [prm]
 | n+1,l,h=>by
  unfold prm;have hsub:∀ i,(l.take i++l.drop (i+1)).Nodup:=λi=>by
   rw [<- List.eraseIdx_eq_take_drop_succ];exact h.sublist<|List.eraseIdx_sublist l i
  refine Dj (λa _=>Eh (I6 n _<|hsub a) λx _ y _ e=>by simpa using e) List.nodup_range λa ha b hb y hy hz=>?_;obtain ⟨u,_,rfl⟩:=RO.1 hy;obtain ⟨v,_,e⟩:=RO.1 hz;have e:=(List.cons.inj e).1;have ha:=RX.1 ha;have hb:=RX.1 hb;rw [gdq,gdq,geq ha,geq hb] at e;have e:l[a]=l[b]:=e.symm;rcases Nat.lt_trichotomy a b with h1 | h1 | h1
  ·exact absurd e<|Ss.1 h a b ha hb h1
  ·exact h1
  exact absurd e.symm<|Ss.1 h b a hb ha h1
section
variable {p:List (List M5)}
theorem Ei:(kY p).Nodup:=by
 unfold kY;have hF:∀ c∈chF p,c.Nodup:=λc hc=>by
  unfold chF at hc;obtain ⟨i,_,rfl⟩:=RO.1 hc;unfold chE
  split
  ·exact (D6 _).filter _
  simp
 have hL:∀ l,(chL p l).Nodup:=λl=>by
  unfold chL;exact Eh (I6 _ _<|(D6 (p:=p) (l:Int)).sublist<|List.tail_sublist _) λx _ y _ e=>by simpa using e
 have hO:∀ c∈chO p,c.Nodup:=λc hc=>by
  unfold chO at hc;simp only [R4,R5,or_false] at hc;rcases hc with rfl | rfl | rfl <;> exact hL _
 refine Dj (λf _=>Eh (Dk hO) λa _ b _ e=>by injection e) (Dk hF) λf _ g _ y hy hz=>?_;obtain ⟨u,_,rfl⟩:=RO.1 hy;obtain ⟨v,_,e⟩:=RO.1 hz;injection e with e1 _;exact e1.symm
end
structure Sw (p q:List (List M5)) (σ:Nat->Nat):Prop where
 inv:∀ t,σ (σ t)=t
 len:q.length=p.length
 rng:∀ t,t<p.length->σ t<p.length
 row:∀ t,t<p.length->q.getD (σ t) Nj=p.getD t Nj
def pF (p q:List<|List M5) (σ:Nat->Nat) (n:Int):Int:=if n<3 then n else (base q (σ (ev p n).Thread.toNat) (ev p n).Index.toNat:Int)
def tF (σ:Nat->Nat) (t:Int):Int:=if t<0 then t else (σ t.toNat:Int)
section
variable {p q:List (List M5)} {σ:Nat->Nat}
theorem Sw.symm (S:Sw p q σ):Sw q p σ:=⟨S.inv,S.len.symm,λt ht=>by rw [S.len] at ht ⊢;exact S.rng t ht,λt ht=>by
 rw [S.len] at ht;have := S.row (σ t) (S.rng t ht);rw [S.inv] at this;exact this.symm⟩
theorem Sw.isn (S:Sw p q σ) {t k:Nat} (h:Isn p t k):Isn q (σ t) k:=⟨by rw [S.len];exact S.rng t h.t,by rw [S.row t h.t];exact h.k,by rw [S.row t h.t];exact h.o⟩
theorem Iy {n:Int} (h:n<3):pF p q σ n=n:=if_pos h
theorem Dl {t k:Nat} (h:Isn p t k):pF p q σ (base p t k:Int)=(base q (σ t) k:Int):=by
 have h3:=JD (p:=p) t k;unfold pF;rw [if_neg (by omega),h.ev.1]
 rfl
theorem Sw.ev (S:Sw p q σ) {n:Int} (h:In (evs p).length n):(n<3/\pF p q σ n=n/\Go.Proofs.YtabfkkjdfhbngaaGreatDoor.ev p n=⟨-1,n,n,Nl,Nk⟩/\Go.Proofs.YtabfkkjdfhbngaaGreatDoor.ev q n=⟨-1,n,n,Nl,Nk⟩)\/∃ t k,Isn p t k/\Isn q (σ t) k/\n=(base p t k:Int)/\pF p q σ n=(base q (σ t) k:Int) /\
  Go.Proofs.YtabfkkjdfhbngaaGreatDoor.ev p n=⟨t,k,(ins p t k).Loc,rdX<|ins p t k,wrX<|ins p t k⟩/\Go.Proofs.YtabfkkjdfhbngaaGreatDoor.ev q (pF p q σ n)=⟨(σ t:Nat),k,(ins p t k).Loc,rdX<|ins p t k,wrX<|ins p t k⟩:=by
 rcases vZ h.1 h.2 with h3 | ⟨t,k,hI,rfl⟩
 ·refine .inl ⟨h3,Iy h3,?_,?_⟩
  ·have := (tH (p:=p) (l:=n.toNat)<|by omega).1;rw [Int.toNat_of_nonneg h.1] at this;exact this
  have := (tH (p:=q) (l:=n.toNat)<|by omega).1;rw [Int.toNat_of_nonneg h.1] at this;exact this
 have hJ:=S.isn hI;refine .inr ⟨t,k,hI,hJ,rfl,Dl hI,hI.ev.1,?_⟩;rw [Dl hI,hJ.ev.1];unfold ins;rw [S.row t hI.t]
theorem Sw.back (S:Sw p q σ) {n:Int} (h:In (evs p).length n):pF q p σ (pF p q σ n)=n:=by
 rcases S.ev h with ⟨h3,h4,_⟩ | ⟨t,k,_,hJ,h1,h2,_⟩
 ·rw [h4,Iy h3]
 rw [h2,Dl hJ,S.inv,h1]
theorem Sw.inq (S:Sw p q σ) {n:Int} (h:In (evs p).length n):In (evs q).length (pF p q σ n):=by
 rcases S.ev h with ⟨h3,h4,_⟩ | ⟨t,k,_,hJ,h1,h2,_⟩
 ·rw [h4];have := (tH (p:=q) (l:=n.toNat)<|by unfold In at h;omega).2;exact ⟨h.1,by unfold In at h;omega⟩
 rw [h2];have := hJ.ev.2;exact ⟨by omega,by omega⟩
theorem Sw.le (S:Sw p q σ):(evs p).length<=(evs q).length:=by
 have key:=List.Nodup.length_le_of_subset (l₁:=(RY (evs p).length).map λ(n:Nat)=>(pF p q σ n).toNat) (l₂:=RY (evs q).length) ?_ ?_
 ·simpa using key
 ·refine List.pairwise_map.2<|List.Pairwise.imp_of_mem (λ{a b} ha hb h e=>h ?_) List.nodup_range;have hA:In (evs p).length (a:Int):=⟨by omega,by have := RX.1 ha;omega⟩;have hB:In (evs p).length (b:Int):=⟨by omega,by have := RX.1 hb;omega⟩;have e':pF p q σ a=pF p q σ b:=by
   rw [<- (S.inq hA).nat.2,<- (S.inq hB).nat.2,e]
  have := S.back hA;rw [e',S.back hB] at this;omega
 intro m hm;obtain ⟨a,ha,rfl⟩:=RO.1 hm;have hA:In (evs p).length (a:Int):=⟨by omega,by have := RX.1 ha;omega⟩;exact RX.2 (S.inq hA).nat.1
theorem Ay {t:Nat} {row:List M5} {k k':Nat} (h:k<k') (ho : ¬ (row.getD k Nj).Op=4):(evR t row k).length<(evR t row k').length:=by
 have h1:=(Gg t row (n:=k+1) (m:=k') h).length_le;have h2:(evR t row<|k+1).length=(evR t row k).length+1:=by
  rw [evR,lla];unfold evX;rw [if_neg ho]
  rfl
 omega
theorem Ci {t k k':Nat} (h:Isn p t k) (h':Isn p t k'):base p t k<base p t k'↔k<k':=by
 unfold base
 constructor
 ·intro e
  by_cases hk:k'<k
  ·have := Ay (t:=t) (row:=p.getD t Nj) hk h'.o;omega
  by_cases he:k=k'
  ·subst he;omega
  omega
 intro e;have := Ay (t:=t) (row:=p.getD t Nj) e h.o;omega
theorem Sw.iso (S:Sw p q σ):Iso p q (pF p q σ) (pF q p σ) (tF σ):=by
 have hl:(evs q).length=(evs p).length:=Nat.le_antisymm S.symm.le S.le;refine ⟨hl,λn h=>by rw [<- hl];exact S.inq h,λn h=>S.symm.inq (by rw [hl];exact h),λn h=>S.back h,λn h=>S.symm.back (by rw [hl];exact h),Iy (by omega),λl h=>Iy h.2,λn h=>?_,λn h=>?_,λn h=>?_,λn h=>?_,λn h=>?_,λt=>?_,λa b e=>?_,λn h ht=>?_,λa b ha hb ht e hab=>?_⟩
 ·rcases S.ev h with ⟨h3,h4,h5,h6⟩ | ⟨t,k,_,hJ,h1,h2,h5,h6⟩
  ·rw [h4,h5,h6];rfl
  rw [h5,h6];rfl
 ·rcases S.ev h with ⟨h3,h4,h5,h6⟩ | ⟨t,k,_,hJ,h1,h2,h5,h6⟩
  ·rw [h4,h5,h6]
  rw [h5,h6]
 ·rcases S.ev h with ⟨h3,h4,h5,h6⟩ | ⟨t,k,_,hJ,h1,h2,h5,h6⟩
  ·rw [h4,h5,h6]
  rw [h5,h6]
 ·rcases S.ev h with ⟨h3,h4,h5,h6⟩ | ⟨t,k,_,hJ,h1,h2,h5,h6⟩
  ·rw [h4,h5,h6]
  rw [h5,h6]
 ·rcases S.ev h with ⟨h3,h4,h5,h6⟩ | ⟨t,k,_,hJ,h1,h2,h5,h6⟩
  ·rw [h4,h5,h6]
  rw [h5,h6]
 ·unfold tF
  split <;> omega
 ·unfold tF at e
  by_cases h1:a<0
  ·rw [if_pos h1] at e
   by_cases h2:b<0
   ·rw [if_pos h2] at e;exact e
   rw [if_neg h2] at e;omega
  rw [if_neg h1] at e
  by_cases h2:b<0
  ·rw [if_pos h2] at e;omega
  rw [if_neg h2] at e;have e':σ a.toNat=σ b.toNat:=by omega
  have := congrArg σ e';rw [S.inv,S.inv] at this;omega
 ·rcases S.ev h with ⟨h3,h4,h5,h6⟩ | ⟨t,k,hI,hJ,h1,h2,h5,h6⟩
  ·rw [h5] at ht;exact absurd (by decide:(-1:Int)<0) ht
  rw [h5];unfold tF;rw [if_neg (by simp only [];omega)];exact S.row t hI.t
 rcases S.ev ha with ⟨h3,h4,h5,h6⟩ | ⟨t,k,hI,hJ,h1,h2,h5,h6⟩
 ·rw [h5] at ht;exact absurd (by decide:(-1:Int)<0) ht
 rcases S.ev hb with ⟨g3,g4,g5,g6⟩ | ⟨t',k',gI,gJ,g1,g2,g5,g6⟩
 ·rw [h5,g5] at e;simp only at e;omega
 rw [h5,g5] at e;simp only at e;obtain rfl:t=t':=by omega
 rw [h2,g2];have := (Ci hI gI).1 (by omega);have := (Ci hJ gJ).2 this;omega
theorem Sw.al (S:Sw p q σ) (hp:PV p) (hq:PV q) (m:List ai):((kY p).filter λc => @decide (alP p m (c.From,c.Order))<|Classical.propDecidable _).length=((kY q).filter λc => @decide (alP q m (c.From,c.Order))<|Classical.propDecidable _).length:=
 Nat.le_antisymm (K4 hp hq S.iso m Ei) (K4 hq hp S.symm.iso m Ei)
end




theorem xm (x lo hi:Int):M9 (fu x lo hi) (· = (Nq (lo<=x)&&Nq (x<=hi))):=by
 unfold fu;refine M9.bind (P:=(· = (Nq (lo<=x)&&Nq (x<=hi)))) ?_ λv hv => .pure hv;refine .bifD (λh => .pure ?_) λh => .pure ?_
 ·simp [h]
 grind
theorem Iz {l:List BA} (hl:l.length<=1000) (s:BA):M9 (aU l s) λr=>0<=r↔s∈l:=by
 unfold aU;refine M9.sum (PS:=λ_=>s∉l) (PW:=λr:Int=>0<=r↔s∈l) ?_ λ_ hn => .pure ⟨λh=>absurd h (by decide),λh=>absurd h hn⟩;refine M9.loop (λz=>∃ i:Nat,i<=l.length/\z=(i:Int)/\∀ j,j<i->l.getD j Nj≠s) (λz=>((l.length:Int)-z).toNat) ⟨0,by omega,rfl,λj hj=>by omega⟩ λz ⟨i,h1,h2,h3⟩ => ?_;subst h2;unfold bL J;simp only [tnn];refine .bifD (λhk => .gdD ⟨by omega,hk⟩<|.bifD (λhe => .pure ⟨λ_=>?_,λ_=>by omega⟩) λhe => .gdI (by omega)<|.pure ⟨⟨i+1,by omega,rfl,λj hj=>?_⟩,by omega⟩) λhk => .pure ?_
 ·simp_all
 ·grind
 intro hm;obtain ⟨j,hj,rfl⟩:=Su hm
 grind
def nmB (s:BA):Bool:=(DR).any λt=>Nq<|t=s
theorem GQ {s:BA}:nmB s=Nk↔s∈DR:=by
 unfold nmB;rw [List.any_eq_true];exact ⟨λ⟨t,h1,h2⟩=>of_decide_eq_true h2 ▸ h1,λh=>⟨s,h,decide_eq_true rfl⟩⟩
theorem K8 (s:BA):M9 (dI s) (· = nmB s):=by
 unfold dI bh;exact M9.bind (P:=(· = nmB s)) ((Iz (by decide) s).bind λv hv => .pure<|by rw [Se,dte,GQ];exact hv) λv hv => .pure hv
def IA (op:Int):Int:=if op=1 then 0 else if op=2\/op=3\/op=4\/op=5 then 2 else if op=6\/op=7 then 1 else -1
theorem JZ (op:Int):M9 (dz op) λv=>v.2.2=IA op:=by
 unfold dz IA;refine .bif (λh => .pure<|by simp_all) λh1=>?_;have h1:op≠1:=by simpa using h1
 rw [if_neg h1];refine .bif (λh => .pure<|by simp_all) λh2=>?_;refine .bif (λh => .pure<|by simp_all) λh3=>?_;refine .bif (λh => .pure<|by simp_all) λh4=>?_;refine .bif (λh => .pure<|by simp_all) λh5=>?_;have h2:op≠2:=by simpa using h2
 have h3:op≠3:=by simpa using h3
 have h4:op≠4:=by simpa using h4
 have h5:op≠5:=by simpa using h5
 rw [if_neg (by omega)];refine .bif (λh => .pure<|by simp_all) λh6=>?_;refine .bif (λh => .pure<|by simp_all) λh7=>?_;have h6:op≠6:=by simpa using h6
 have h7:op≠7:=by simpa using h7
 rw [if_neg (by omega)];exact .pure rfl
theorem J0 (op:Int):IA op<=2:=by
 unfold IA;omega
def okE (e:ae):Bool:=Nq ((e.Kids.length:Int)=IA e.Op)&&(Nq (e.Op=1)==nmB e.Name)&&(Nq (e.Op=1)||Nq (e.Name=⟨#[]⟩))
theorem J1 {e:ae} (h:okE e=Nk):e.Kids.length<=2:=by
 unfold okE at h;simp only [bae,dte] at h;have := J0 e.Op;omega
def szF (f:ZTE->Int) (c:Int) (k:ZTE):Int:=if 40<c then c else c+f k
def szD:Nat->ZTE->Int
 | 0,_=>41
 | d+1,t=>if okE t.out=Nk then t.out.Kids.foldl (szF<|szD d) 1 else 41
def shD:Nat->ZTE->Bool
 | 0,_=>Nl
 | d+1,t=>okE t.out&&t.out.Kids.all (shD d)
def Hp:Nat->ZTE->Int
 | 0,_=>0
 | d+1,t=>t.out.Kids.foldl (λc k=>c+Hp d k) 1
theorem Dm {f:ZTE->Int} (h:∀ k,0<=f k):∀ (l:List ZTE) (c:Int),c<=l.foldl (λc k=>c+f k) c
 | [],_=>RN _
 | k::l,c=>by
  have := Dm h l<|c+f k
  grind
theorem Bh:∀ (d:Nat) (t:ZTE),0<=Hp d t
 | 0,_=>RN _
 | d+1,t=>by
  have := Dm (Bh d) t.out.Kids 1;rw [Hp];omega
theorem Dn {f:ZTE->Int}:∀ (l:List ZTE) (c:Int),40<c->l.foldl (szF f) c=c
 | [],_,_=>rfl
 | k::l,c,h=>by
  rw [List.foldl_cons,szF,if_pos h];exact Dn l c h
theorem GR:∀ (d:Nat) (t:ZTE),0<=szD d t/\szD d t<=41+40*(d:Int)/\(szD d t<=40↔shD d t=Nk/\Hp d t<=40)/\(szD d t<=40->szD d t=Hp d t)
 | 0,t=>by refine ⟨?_,?_,?_,?_⟩ <;> simp [szD,shD]
 | d+1,t=>by
  have key:∀ (l:List ZTE) (c:Int),0<=c->c<=40->(0<=l.foldl (szF<|szD d) c/\l.foldl (szF<|szD d) c<=81+40*(d:Int)/\(l.foldl (szF<|szD d) c<=40↔l.all (shD d)=Nk/\l.foldl (λc k=>c+Hp d k) c<=40)/\(l.foldl (szF<|szD d) c<=40->l.foldl (szF<|szD d) c=l.foldl (λc k=>c+Hp d k) c)):=by
   intro l
   induction l with
   | nil=>intro c h0 h;refine ⟨h0,?_,?_,?_⟩ <;> simp <;> omega
   | cons k l ih=>
    intro c h0 h;obtain ⟨i1,i2,i3,i4⟩:=GR d k;have hp:=Bh d k;simp only [List.foldl_cons,List.all_cons,bae];rw [szF,if_neg (by omega)]
    by_cases hb:40<c+szD d k
    ·rw [Dn l _ hb];refine ⟨by omega,by omega,⟨λh=>absurd h (by omega),λ⟨⟨g1,_⟩,g2⟩ => ?_⟩,λh=>absurd h<|by omega⟩;have hg:=Dm (Bh d) l<|c+Hp d k;have := i4<|i3.2 ⟨g1,by omega⟩;omega
    have e:=i4 (by omega);have s:=(i3.1<|by omega).1;obtain ⟨j1,j2,j3,j4⟩:=ih (c+szD d k) (by omega) (by omega);rw [e] at j1 j2 j3 j4 ⊢;exact ⟨j1,j2,⟨λh=>⟨⟨s,(j3.1 h).1⟩,(j3.1 h).2⟩,λh=>j3.2 ⟨h.1.2,h.2⟩⟩,j4⟩
  rw [szD,shD,Hp]
  grind
def vaE (t:ZTE):Bool:=shD 12 t&&Nq (Hp 12 t<=40)
theorem EW {α:Type} [Inhabited α] {f:Int->α->Int} {l:List α} {i:Nat} (h:i<l.length) (c:Int):(l.take<|i+1).foldl f c=f ((l.take i).foldl f c) (l.getD i default):=by
 rw [List.take_add_one,geq h]
 grind
theorem K9 (t:ZTE):(⟨t.out.Op,t.out.Name,t.out.Kids⟩:ae)=t.out:=rfl
theorem La {e:ae} {d:Nat} {v:Int} (hv:v=IA e.Op):M9 (bif ((d:Int)==(0:Int)) then Nn Nk else bif ((e.Kids.length:Int) != v) then Nn Nk else RJ (dI e.Name) λv6=>bif (!((e.Op==(1:Int))==v6)) then Nn Nk else bif (e.Op != (1:Int)) then Nn (!decide (e.Name=(⟨#[]⟩:BA))) else Nn Nl) (· = !(Nq (d≠0)&&okE e)):=by
 subst hv;refine .bif (λh => .pure ?_) λh0 => .bif (λh => .pure ?_) λh1=>(K8 e.Name).bind λw hw=>?_
 ·simp_all
 ·unfold okE
  simp_all
 subst hw;have hd:d≠0:=λe=>by subst e;simp at h0
 have h1:(e.Kids.length:Int)=IA e.Op:=by simpa using h1
 unfold okE;rw [decide_eq_true hd,decide_eq_true h1,JE];refine .bif (λh => .pure ?_) λh => .bif (λh2 => .pure ?_) λh2 => .pure ?_
 ·rw [show (Nq (e.Op=1)==nmB e.Name)=Nl by simpa using h];rfl
 ·rw [show (Nq (e.Op=1)==nmB e.Name)=Nk by simpa using h,decide_eq_false (show ¬ e.Op=1 by simpa using h2)];simp
 simp_all
theorem I7:∀ (d n:Nat) (t:ZTE),d<n->d<=12->M9 (dJ n t.out (d:Int)) (· = szD d t)
 | d,0,_,h,_=>absurd h (Nat.not_lt_zero _)
 | d,n+1,t,h,h12=>by
  show M9 (fo (dJ n) t.out (d:Int)) _;unfold fo;refine (JZ t.out.Op).bind λv hv=>?_;refine M9.sum (PS:=λ_=>d≠0/\okE t.out=Nk) (PW:=(· = szD d t)) ((La hv).bind λb hb => .bif (λh => .pure ?_) λh => .pure ?_) λ_ ⟨hd,ho⟩ => ?_
  ·rw [hb] at h;show (41:Int)=szD d t
   cases d with
   | zero=>rfl
   | succ d=>
    rw [szD,if_neg]
    simp_all
  ·simp_all
  obtain ⟨d,rfl⟩:∃ c,d=c+1:=⟨d-1,by omega⟩;have hk:=J1 ho;rw [szD,if_pos ho];refine M9.bind (P:=(· = t.out.Kids.foldl (szF<|szD d) 1)) ?_ λv hv => .pure hv;refine M9.loop (λz=>∃ i:Nat,i<=t.out.Kids.length/\z=((i:Int),(t.out.Kids.take i).foldl (szF<|szD d) 1)/\(t.out.Kids.take i).foldl (szF<|szD d) 1<=40/\0<=(t.out.Kids.take i).foldl (szF<|szD d) 1) (λz=>((t.out.Kids.length:Int)-z.1).toNat) ⟨0,by omega,rfl,by simp,by simp⟩ λz ⟨i,i1,i2,i3,i4⟩ => ?_;subst i2;unfold iQ J;simp only [tnn];refine .bifD (λhlt=>?_) λhlt => .pure ?_
  ·have hil:i<t.out.Kids.length:=by omega
   have ht:=EW (f:=szF<|szD d) hil 1;rw [szF,if_neg (by omega)] at ht;obtain ⟨b1,b2,_,_⟩:=GR d<|t.out.Kids.getD i Nj;refine .gdD ⟨by omega,hlt⟩<|.gdI (by omega) ?_;rw [K9,show ((d+1:Nat):Int)-1=(d:Int) by omega];refine (I7 d n _ (by omega)<|by omega).bind λv hv=>?_;subst hv;refine .gdI (by omega)<|.bifD (λhb => .pure ?_) λhb => .gdI (by omega)<|.pure ⟨⟨i+1,by omega,by rw [ht];rfl,by rw [ht];omega,by rw [ht];omega⟩,by simp only [];omega⟩;show _=t.out.Kids.foldl (szF<|szD d) 1;have e:=List.take_append_drop (i+1) t.out.Kids
   conv=>rhs;rw [<- e,List.foldl_append,ht,Dn _ _ hb]
  grind
theorem Lb (t:ZTE):M9 (bV t.out) (· = vaE t):=by
 unfold bV;refine M9.bind (P:=(· = szD 12 t)) (yF 12 λm hm=>I7 12 m t hm<|by omega) λv hv => .pure ?_;subst hv;unfold vaE;rw [Se,bae,dte,dte];exact (GR 12 t).2.2.1
def vaR (r:ai):Bool:=Nq (1<=r.Kind)&&Nq (r.Kind<=3)&&vaE r.Expr.inn
def vaM (m:List ai):Bool:=Nq (1<=m.length)&&Nq (m.length<=5)&&m.all vaR
theorem J2 {m:List ai} (hl:m.length<=4000000):M9 (db m) (· = vaM m):=by
 unfold db vaM;refine (xm _ _ _).bind λv hv=>?_;subst hv;refine M9.bind (P:=(· = (Nq (1<=m.length)&&Nq (m.length<=5)&&m.all vaR))) (.bif (λh=>?_) λh => .pure ?_) λv hv => .pure hv
 ·have hb:(Nq (1<=m.length)&&Nq (m.length<=5))=Nk:=by
   simp only [bae,dte] at h ⊢;omega
  rw [hb,Bool.true_and];unfold ax ay;refine M9.bind (P:=(· = !m.all vaR)) (M9.bind (P:=λv:Int=>(0<=v↔m.all vaR=Nl)) ?_ λv hv => .pure ?_) λv hv => .pure (by rw [hv,Bool.not_not])
  ·refine M9.sum (PS:=λ_=>m.all vaR=Nk) (PW:=λv:Int=>(0<=v↔m.all vaR=Nl)) ?_ λ_ hn => .pure (by rw [hn];simp);refine M9.loop (λz=>∃ i:Nat,i<=m.length/\z=(i:Int)/\∀ j,j<i->vaR (m.getD j Nj)=Nk) (λz=>((m.length:Int)-z).toNat) ⟨0,by omega,rfl,λj hj=>by omega⟩ λz ⟨i,h1,h2,h3⟩ => ?_;subst h2;unfold aA dY J;simp only [tnn];refine .bifD (λhk => .gdD ⟨by omega,hk⟩ (M9.bind (P:=(· = !vaR (m.getD i Nj))) ((xm _ _ _).bind λw hw=>?_) λw hw => .bif (λhb => .pure ⟨λ_=>?_,λ_=>by omega⟩) λhb => .gdI (by omega)<|.pure ⟨⟨i+1,by omega,rfl,λj hj=>?_⟩,by omega⟩)) λhk => .pure ?_
   ·subst hw;refine M9.bind (P:=(· = !vaR (m.getD i Nj))) (.bif (λhn => .pure ?_) λhn=>(Lb (m.getD i Nj).Expr.inn).bind λu hu => .pure ?_) λu hu => .pure hu
    ·unfold vaR;rw [show (Nq (1<=(m.getD i Nj).Kind)&&Nq ((m.getD i Nj).Kind<=3))=Nl from (Bool.not_eq_true' _).mp hn]
     rfl
    unfold vaR;rw [show (Nq (1<=(m.getD i Nj).Kind)&&Nq ((m.getD i Nj).Kind<=3))=Nk from (Bool.not_eq_false' _).mp hn,hu]
    rfl
   ·rw [List.all_eq_false];refine ⟨m.getD i Nj,getD_in (by omega),?_⟩;rw [hw] at hb;simpa using hb
   ·by_cases e:j=i
    ·subst e;rw [hw] at hb;simpa using hb
    exact h3 j (by omega)
   show m.all vaR=Nk;rw [RR];intro r hr;obtain ⟨j,hj,rfl⟩:=Su hr;have := h3 j (by omega)
   rwa [gdq,geq hj] at this
  show Nq ((0:Int)<=v)=_
  cases h:m.all vaR with
  | true=>exact decide_eq_false λe=>by rw [hv.1 e] at h;cases h
  | false=>exact decide_eq_true (hv.2 h)
 grind
theorem Lc:∀ (d:Nat) (t:ZTE),shD d t=Nk->VT t
 | 0,_,h=>by simp [shD] at h
 | d+1,.mk op nm ks,h=>by
  rw [shD,bae] at h;obtain ⟨h1,h2⟩:=h;have hall:∀ l:List ZTE,l.all (shD d)=Nk->VL l:=by
   intro l
   induction l with
   | nil=>intro _;rw [VL];trivial
   | cons a l ih=>
    intro ha;rw [List.all_cons,bae] at ha;rw [VL];exact ⟨Lc d a ha.1,ih ha.2⟩
  have hks:=hall ks h2;unfold okE at h1;rw [bae,bae] at h1;obtain ⟨⟨g1,g2⟩,_⟩:=h1;have g1:(ks.length:Int)=IA op:=of_decide_eq_true g1;have g2:(Nq (op=1)==nmB nm)=Nk:=g2;rw [VT];unfold IA at g1
  by_cases o1:op=1
  ·subst o1;refine .inl ⟨rfl,?_⟩;have : nmB nm=Nk:=by simpa using g2
   exact GQ.1 this
  grind
theorem I8 {m:List ai} (h:vaM m=Nk):(∀ r∈m,VT r.Expr.inn)/\m.length<=5:=by
 unfold vaM at h;simp only [bae,dte] at h;refine ⟨λr hr=>?_,h.1.2⟩;have := RR.1 h.2 r hr;unfold vaR vaE at this;simp only [bae] at this;exact Lc 12 _ this.2.1
theorem IB (s:List M5) (h:s.length<=1048576):M9 (bu s s) (· = Nk):=by
 unfold bu;refine .bif (λh=>by simp at h) λ_=>M9.sum (PS:=λ_=>True) (PW:=(· = Nk)) ?_ λ_ _ => .pure rfl;refine M9.loop (λi=>0<=i/\i<=(s.length:Int)) (λi=>((s.length:Int)-i).toNat) ⟨RN _,by omega⟩ λi ⟨h1,h2⟩ => ?_;unfold dB J;refine .bifD (λh3 => .gdD ⟨h1,h3⟩<|.gdD ⟨h1,h3⟩<|.bif (λh=>by simp at h) λ_ => .gdI (by omega)<|.pure ⟨⟨by omega,by omega⟩,by omega⟩) λ_ => .pure trivial
theorem IC (p:List<|List M5) (h:p.length<=1048576) (hr:∀ r∈p,r.length<=1048576):M9 (fF p p) (· = Nk):=by
 unfold fF;refine M9.bind (P:=(· = Nk)) ?_ λv hv => .pure hv;unfold az;refine .bif (λh=>by simp at h) λ_=>M9.sum (PS:=λ_=>True) (PW:=(· = Nk)) ?_ λ_ _ => .pure rfl;refine M9.loop (λi=>0<=i/\i<=(p.length:Int)) (λi=>((p.length:Int)-i).toNat) ⟨RN _,by omega⟩ λi ⟨h1,h2⟩ => ?_;unfold aG J;refine .bifD (λh3 => .gdD ⟨h1,h3⟩<|.gdD ⟨h1,h3⟩ ?_) λ_ => .pure trivial;have hi:i.toNat<p.length:=by omega
 have hm:p.getD i.toNat Nj∈p:=by
  rw [gdq,geq hi];exact RU _
 unfold jX;refine M9.bind (M9.bind (IB _<|hr _ hm) λv hv => .pure (P:=(· = Nk)) hv) λv hv=>?_;subst hv;exact .bif (λh=>by simp at h) λ_ => .gdI (by omega)<|.pure ⟨⟨by omega,by omega⟩,by omega⟩
theorem Cj (x:M5):M9 (lK x) λ_=>True:=by
 unfold lK;exact M9.bind (P:=λ_=>True) (.bif (λ_ => .pure trivial) λ_ => .pure trivial) λ_ _=>M9.bind (P:=λ_=>True) (.bif (λ_ => .pure trivial) λ_ => .pure trivial) λ_ _ => .pure trivial
theorem Dq (x:M5):M9 (m8 x) λ_=>True:=by
 unfold m8;exact M9.bind (P:=λ_=>True) (.bif (λ_ => .pure trivial) λ_ => .pure trivial) λ_ _ => .pure trivial
theorem Sm.row {p:List (List M5)} (h:Sm p) (i:Nat):(p.getD i Nj).length<=9:=by
 by_cases hi:i<p.length
 ·have : p.getD i Nj=p[i]:=by simp [hi]
  rw [this];exact (h.2 _<|RU hi).1
 rw [gdq,gen (Nat.le_of_not_lt hi)];exact RP _
theorem zx {p:List (List M5)} (hp:Sm p) (loc:Int) (wr:Bool):M9 (ku p loc wr) λv=>0<=v/\v<=81:=by
 unfold ku;have hpl:=hp.1;refine M9.bind (P:=λv:Int=>0<=v/\v<=81) ?_ λv hv => .pure hv;refine M9.loop (λs=>0<=s.1/\s.1<=(p.length:Int)/\0<=s.2/\s.2<=9*s.1) (λs=>((p.length:Int)-s.1).toNat) ⟨RN _,by simp only [];omega,RN _,RN _⟩ λs ⟨h1,h2,h3,h4⟩ => ?_;unfold rz;refine .bifD (λh0=>?_) λh0 => .pure ⟨h3,by omega⟩;have hrow:=hp.row s.1.toNat;refine M9.bind (P:=λv:Int=>0<=v/\v<=9*s.1+9) ?_ λv ⟨g1,g2⟩ => .gdI (by omega)<|.pure ⟨⟨by simp only [];omega,by simp only [];omega,g1,by simp only [];omega⟩,by simp only [];omega⟩;refine M9.loop (λt=>0<=t.1/\t.1<=((p.getD s.1.toNat Nj).length:Int)/\0<=t.2/\t.2<=9*s.1+t.1) (λt=>(((p.getD s.1.toNat Nj).length:Int)-t.1).toNat) ⟨RN _,by simp only [];omega,h3,by simp only [];omega⟩ λt ⟨k1,k2,k3,k4⟩ => ?_;unfold qy J;refine .gdD ⟨h1,h0⟩<|.bifD (λhk=>?_) λhk => .pure ⟨k3,by omega⟩;refine M9.bind (P:=λv:Int=>0<=v/\v<=t.2+1) ?_ λv ⟨g1,g2⟩ => .gdI (by omega)<|.pure ⟨⟨by simp only [];omega,by simp only [];omega,g1,by simp only [];omega⟩,by simp only [];omega⟩;refine .gdD ⟨k1,hk⟩<|M9.bind (P:=λ_=>True) ?_ λb _ => .bif (λ_ => .gdI (by omega)<|.pure ⟨by omega,by omega⟩) λ_ => .pure ⟨k3,by omega⟩;refine .bif (λ_=>?_) λ_ => .pure trivial;refine M9.bind (P:=λ_=>True) (.bif (λ_=>(Cj _).bind λ_ _ => .pure trivial) λ_ => .pure trivial) λ_ _=>?_;refine M9.bind (P:=λ_=>True) (.bif (λ_ => .pure trivial) λ_=>?_) λ_ _ => .pure trivial;exact M9.bind (P:=λ_=>True) (.bif (λ_=>(Dq _).bind λ_ _ => .pure trivial) λ_ => .pure trivial) λ_ _ => .pure trivial
theorem Dr {p:List (List M5)} (hp:Sm p) {most:Int} (hm:0<=most/\most<=10000):M9 (ny p most) λ_=>True:=by
 unfold ny;refine M9.bind (P:=λv:Int=>0<=v/\v<=1000000000) ?_ λv ⟨h1,h2⟩ => .bifD (λ_ => .gdI (by omega)<|.pure trivial) λ_ => .pure trivial;refine M9.loop (λs=>0<=s.1/\s.1<=3/\0<=s.2/\s.2<=1000000000) (λs=>(3-s.1).toNat) ⟨RN _,by decide,by decide,by decide⟩ λs ⟨h1,h2,h3,h4⟩ => ?_;unfold rA;refine .bifD (λh0=>?_) λh0 => .pure ⟨h3,h4⟩;refine M9.bind (P:=λv:Int=>0<=v/\v<=1000000000) ?_ λv ⟨g1,g2⟩ => .gdI (by omega)<|.pure ⟨⟨by simp only [];omega,by simp only [];omega,g1,g2⟩,by simp only [];omega⟩;refine (zx hp _ _).bind λw ⟨w1,w2⟩=>M9.bind (P:=λv:Int=>0<=v/\v<=1000000000) ?_ λv ⟨g1,g2⟩ => ?_
 ·refine M9.loop (λt=>0<=t.1/\t.1<=81/\0<=t.2/\t.2<=1000000000) (λt=>(81-t.1).toNat) ⟨RN _,by simp only [];omega,h3,h4⟩ λt ⟨k1,k2,k3,k4⟩ => ?_;unfold qA;refine (zx hp _ _).bind λc ⟨c1,c2⟩=>M9.bind (P:=λb=>b=(Nq (t.1<c)&&Nq (t.2<=most))) (.bifD (λh => .pure<|by simp [h]) λh => .pure<|by simp [h]) λb hb => .bif (λht=>?_) λ_ => .pure ⟨k3,k4⟩;rw [hb] at ht;simp only [bae,dte] at ht;have e1:0<=t.2*(w+1)/\t.2*(w+1)<=10000*82:=⟨Int.mul_nonneg k3 (by omega),Int.mul_le_mul (by omega) (by omega) (by omega)<|by omega⟩;exact .gdI (by omega)<|.gdI (by omega)<|.gdI (by omega)<|.pure ⟨⟨by simp only [];omega,by simp only [];omega,e1.1,by simp only [];omega⟩,by simp only [];omega⟩
 refine M9.loop (λt=>2<=t.1/\t.1<=82/\0<=t.2/\t.2<=1000000000) (λt=>(82-t.1).toNat) ⟨RN _,by simp only [];omega,g1,g2⟩ λt ⟨k1,k2,k3,k4⟩ => ?_;unfold qB;refine M9.bind (P:=λb=>b=(Nq (t.1<=w)&&Nq (t.2<=most))) (.bifD (λh => .pure<|by simp [h]) λh => .pure<|by simp [h]) λb hb => .bif (λht=>?_) λ_ => .pure ⟨k3,k4⟩;rw [hb] at ht;simp only [bae,dte] at ht;have e1:0<=t.2*t.1/\t.2*t.1<=10000*82:=⟨Int.mul_nonneg k3 (by omega),Int.mul_le_mul (by omega) (by omega) (by omega)<|by omega⟩;exact .gdI (by omega)<|.gdI (by omega)<|.pure ⟨⟨by simp only [];omega,by simp only [];omega,e1.1,by simp only [];omega⟩,by simp only [];omega⟩
theorem L6:yG (⟨#[120,61,49,59,97,61,121,124,121,61,49,59,97,61,120]⟩:BA)=Nk:=by decide +kernel
theorem Dt {k:Int} {r:ah} (h:Rd k r) (hk:k<=10000):M9 (nz r) λv=>Rd (k+46) v.1/\smP v.2=Nk:=by
 unfold nz;refine (EU h.mk' hk Iu).bind λv ⟨a1,a2⟩=>(Dr (Eg a2)<|by decide).bind λn _ => .bifD (λ_ => .pure ⟨a1.mk',a2⟩) λ_=>?_;exact (Aw L6).bind λu hu => .pure ⟨a1.mk',hu⟩
section
variable {p:List (List M5)} {x:XS} {F:LI} {m:List ai}
theorem GU (hp:PV p) (hv:cT (Nb p)=Nk) (C:Cand p x F) (hm:vaM m=Nk):M9 (ng p ⟨x.1,x.2⟩ m) (· = @decide (alP p m x) (Classical.propDecidable _)):=by
 have hN:=KT hv;obtain ⟨m1,m2⟩:=I8 hm;unfold ng;refine (Ik hp C).bind λv ⟨v1,v2⟩ => .bif (λh => .pure ?_) λh=>(LY (N:=(evs p).length) (base:=nmR p x) (by omega) (λnm hn=>LR hp C hn) m1<|by omega).bind λw ⟨w1,_⟩ => .pure ?_
 ·obtain ⟨i,i1,i2,i3⟩:=v2 (by simpa using h);exact (@decide_eq_false _ (Classical.propDecidable _) λ(hal:alP p m x)=>(hal.1 i i1 i2).elim λv hv=>hv.not_cyc i3).symm
 refine @tP _ _ _ (Classical.propDecidable _) ⟨λhw=>⟨λi hi hwr=>⟨_,(v1<|by simpa using h).2 i hi hwr⟩,?_⟩,λhal=>?_⟩
 ·rcases w1 with ⟨_,h2⟩ | ⟨i,h1,_⟩
  ·exact h2
  omega
 rcases w1 with ⟨h1,_⟩ | ⟨i,h1,h2,h3,_⟩
 ·omega
 rw [hal.2 _ (getD_in h2)] at h3;cases h3
theorem xP (hv:cT (Nb p)=Nk) (hsz:p.length<=1048576/\total p<=1048576) (hm:vaM m=Nk):M9 (dZ p m) (· = (kY p).filter λc => @decide (alP p m (c.From,c.Order))<|Classical.propDecidable _):=by
 have hp:=PV.of hv;have hV:da p=Nn Nk:=by rw [show da p=Nn (cT<|Nb p) from qG (decide_eq_true hsz),hv]
 have hm5:=(I8 hm).2;unfold dZ;refine (M9.of (P:=(· = Nk)) hV rfl).bind λv1 h1=>?_;subst h1;refine M9.bind (P:=(· = Nl)) (.bif (λh=>by cases h) λ_=>(J2<|by omega).bind λv hv => .pure<|by rw [hv,hm];rfl) λv hv2=>?_;subst hv2;refine .bif (λh=>by cases h) λ_=>(Gs hv).bind λv6 h6=>?_;subst h6;have hle:(kY p).length<=3000:=by
  have := (few hv).all;unfold kY;rw [iB (m:=(rT<|chO p).length) λa _=>by simp];exact this
 refine M9.bind (P:=(· = (kY p).filter λc => @decide (alP p m (c.From,c.Order))<|Classical.propDecidable _)) (Iw (kY p) (by omega) λc hc=>?_) λv hv => .pure hv;unfold dA;exact (GU hp hv (rV hp hc) hm).bind λb hb => .pure (by rw [hb])
end
def swN (i k t:Nat):Nat:=if t=i then k else if t=k then i else t
def tnP (p:List<|List M5) (i k:Nat):List (List M5):=(RY p.length).map λt=>p.getD (swN i k t) Nj
theorem GV (i k t:Nat):swN i k (swN i k t)=t:=by unfold swN;grind
theorem GX {n i k t:Nat} (ht:t<n) (hi:i<n) (hk:k<n):swN i k t<n:=by unfold swN;grind
section
variable {p:List (List M5)} {i k:Nat}
theorem Bi:(tnP p i k).length=p.length:=by simp [tnP]
theorem J3 {t:Nat} (ht:t<p.length):(tnP p i k).getD t Nj=p.getD (swN i k t) Nj:=by
 unfold tnP;rw [gdq,R8,Sv ht]
 rfl
theorem L8 (hi:i<p.length) (hk:k<p.length):Sw p (tnP p i k) (swN i k):=⟨GV i k,Bi,λt ht=>GX ht hi hk,λt ht=>by rw [J3 (GX ht hi hk),GV]⟩
theorem Du {p q:List (List Ins)} (h:q.Perm p):cT q=cT p:=by
 have hc:∀ f,qV f q=qV f p:=λf=>by
  unfold qV;exact (h.map _).sum_nat
 have ha:q.all rowOk=p.all rowOk:=by
  rw [Se,RR,RR];exact ⟨λg x hx=>g x<|h.mem_iff.2 hx,λg x hx=>g x<|h.mem_iff.1 hx⟩
 have he:qp q=qp p:=by
  unfold qp;simp only [pT,Ki,cw,cr,hc]
 have hn:=hc uw;unfold cT qq;rw [ha,hn,he,h.length_eq]
theorem Mv (a b c:List M5):[c,b,a].Perm [a,b,c]:=List.reverse_perm [a,b,c]
theorem ID (h3:p.length<=3) (hi:i<p.length) (hk:k<p.length):(tnP p i k).Perm p:=by
 match p,h3 with
 | [],_=>exact absurd hi (by simp)
 | [a],_=>
  simp only [llc,RQ] at hi hk;obtain rfl:i=0:=by omega
  obtain rfl:k=0:=by omega
  exact .refl _
 | [a,b],_=>
  simp only [llc,RQ] at hi hk;rcases (show i=0\/i=1 by omega) with rfl | rfl <;> rcases (show k=0\/k=1 by omega) with rfl | rfl
  ·exact .refl _
  ·exact .swap _ _ _
  ·exact .swap _ _ _
  exact .refl _
 | [a,b,c],_=>
  simp only [llc,RQ] at hi hk;rcases (show i=0\/i=1\/i=2 by omega) with rfl | rfl | rfl <;> rcases (show k=0\/k=1\/k=2 by omega) with rfl | rfl | rfl
  ·exact .refl _
  ·exact .swap _ _ _
  ·exact Mv a b c
  ·exact .swap _ _ _
  ·exact .refl _
  ·exact .cons _<|.swap _ _ _
  ·exact Mv a b c
  ·exact .cons _<|.swap _ _ _
  exact .refl _
end
section
variable {p:List (List M5)}
def okT (p:List<|List M5) (t:Int):Bool:=cT (Nb p)&&(Nq (0<=t)&&Nq (t<=(p.length:Int)-1))
theorem GY (hsz:p.length<=1048576/\total p<=1048576) (t:Int):M9 (ji p t) (· = okT p t):=by
 unfold ji okT;refine (M9.of (P:=(· = cT (Nb p))) (qG<|decide_eq_true hsz) rfl).bind λv hv=>?_;subst hv;exact M9.bind (.bif (λh => .gdI (by omega) ((xm _ _ _).bind λv hv => .pure (P:=(· = (cT (Nb p)&&(Nq (0<=t)&&Nq (t<=(p.length:Int)-1)))))<|by rw [hv,h];rfl)) λh => .pure<|by rw [h];rfl) λv hv => .pure hv
theorem EY (w:List M5) (h:w.length<=1048576):M9 (bq w) (· = w):=by
 unfold bq;have e:gd (dS (([]:List M5).length+w.length) 32) (Nn<|([]:List M5)++w)=Nn w:=qG<|eC (by simp;omega) rfl;refine .of (v:=w) ?_ rfl;unfold nilK;rw [e]
 cases hw:w.isEmpty with
 | false=>rfl
 | true=>
  obtain rfl:=List.isEmpty_iff.1 hw;exact if_pos rfl
theorem EZ (hl:p.length<=1048576) (hr:∀ t:Nat,(p.getD t Nj).length<=1048576):M9 (iw p) (· = p):=by
 unfold iw;refine .gdD ⟨by omega,by omega,by omega,by omega⟩ (M9.bind (P:=(· = p)) ?_ λv hv => .pure hv);refine M9.loop (λs=>0<=s.2/\s.2<=(p.length:Int)/\s.1.length=p.length/\∀ j:Nat,(j:Int)<s.2->s.1.getD j Nj=p.getD j Nj) (λs=>((p.length:Int)-s.2).toNat) ⟨RN _,by omega,by simp,λj hj=>absurd hj<|by omega⟩ λs ⟨h1,h2,h3,h4⟩ => ?_;unfold mM J;refine .bifD (λhk => .gdD ⟨h1,hk⟩<|(EY _<|hr _).bind λv hv=>?_) λhk => .pure ?_
 ·subst hv;refine .gdD ⟨h1,by omega⟩<|.gdI (by omega)<|.pure ⟨⟨by simp only [];omega,by simp only [];omega,by simpa using h3,λj hj=>?_⟩,by simp only [];omega⟩;simp only [] at hj ⊢;rw [gdq,Sf]
  by_cases e:s.2.toNat=j
  ·rw [if_pos e,if_pos (by omega),e];rfl
  rw [if_neg e,<- gdq];exact h4 j (by omega)
 refine List.ext_getElem h3 λj j1 j2=>?_;have := h4 j (by omega);rw [gdq,gdq,geq j1,geq j2] at this;exact this
def tnR (p:List<|List M5) (i k:Int):List (List M5)×Bool:=if (okT p i&&okT p k)=Nk then (tnP p i.toNat k.toNat,Nk) else ([],Nl)
theorem Ld (hsz:p.length<=1048576/\total p<=1048576) (hr:∀ t:Nat,(p.getD t Nj).length<=1048576) (i k:Int):M9 (iU p i k) (· = tnR p i k):=by
 unfold iU tnR J;refine (GY hsz i).bind λv hv=>?_;subst hv;refine M9.bind (P:=(· = !(okT p i&&okT p k))) (.bif (λh => .pure<|by revert h;cases okT p i <;> simp) λh=>(GY hsz k).bind λv hv => .pure<|by rw [hv];revert h;cases okT p i <;> simp) λv hv=>?_;subst hv;refine .bif (λh => .pure<|by rw [if_neg (λe=>by rw [e] at h;cases h)]) λh=>?_;have hok:(okT p i&&okT p k)=Nk:=by simpa using h
 rw [if_pos hok];unfold okT at hok;simp only [bae,dte] at hok;obtain ⟨⟨_,i0,i1⟩,_,k0,k1⟩:=hok;refine (EZ hsz.1 hr).bind λv hv=>?_;subst hv;refine .gdD ⟨k0,by omega⟩<|.gdD ⟨i0,by omega⟩<|.pure<|Prod.ext ?_ rfl;refine List.ext_getElem (by rw [Bi];simp) λj j1 j2=>?_;have hj:j<v.length:=by simpa using j1
 have e:(tnP v i.toNat k.toNat)[j]? = Nn (v.getD (swN i.toNat k.toNat j) Nj):=by
  unfold tnP;rw [R8,Sv hj];rfl
 rw [<- sie,<- geq,<- geq,e,Sf,Sf];have hii:i.toNat<v.length:=by omega
 have hkk:k.toNat<v.length:=by omega
 unfold swN;simp only [List.length_set]
 by_cases e1:k.toNat=j
 ·rw [if_pos e1,if_pos hkk]
  by_cases e2:j=i.toNat
  ·rw [if_pos e2,e1.trans e2]
  rw [if_neg e2,if_pos e1.symm]
 rw [if_neg e1]
 by_cases e2:i.toNat=j
 ·rw [if_pos e2,if_pos hii,if_pos e2.symm]
 rw [if_neg e2,if_neg (λh=>e2 h.symm),if_neg (λh=>e1 h.symm),geq hj,gdq,geq hj]
 rfl
theorem Ej (n m:Int):M9 (p8 n m) (· = (Nq (0<=n)&&Nq (n<=m))):=by
 unfold p8;exact M9.bind (P:=(· = (Nq (0<=n)&&Nq (n<=m)))) (.bifD (λh => .pure<|by rw [decide_eq_true h];rfl) λh => .pure<|by rw [decide_eq_false h];rfl) λv hv => .pure hv
theorem Lf (hsz:p.length<=1048576/\total p<=1048576) (hr:∀ t:Nat,(p.getD t Nj).length<=1048576) (i k:Int):M9 (iV p i k) (· = tnR p i k):=by
 unfold iV tnR;refine (M9.of (P:=(· = cT (Nb p))) (qG<|decide_eq_true hsz) rfl).bind λv hv=>?_;subst hv;refine M9.bind (P:=(· = !okT p i)) ?_ λv hv=>?_
 ·unfold okT;exact .bif (λh => .pure<|by revert h;cases cT (Nb p) <;> simp) λh => .gdI (by omega) ((Ej _ _).bind λv hv => .pure<|by rw [hv];revert h;cases cT (Nb p) <;> simp)
 subst hv;refine M9.bind (P:=(· = !(okT p i&&okT p k))) ?_ λv hv=>?_
 ·refine .bif (λh => .pure<|by revert h;cases okT p i <;> simp) λh => .gdI (by omega) ((Ej _ _).bind λv hv => .pure ?_);have h':okT p i=Nk:=by simpa using h
  have hv':cT (Nb p)=Nk:=by unfold okT at h';simp_all
  rw [hv,h',show okT p k=(Nq (0<=k)&&Nq (k<=(p.length:Int)-1)) by unfold okT;rw [hv'];rfl]
  rfl
 subst hv;refine .bif (λh => .pure<|by rw [if_neg (λe=>by rw [e] at h;cases h)]) λh=>?_;have hok:(okT p i&&okT p k)=Nk:=by simpa using h
 rw [if_pos hok];unfold okT at hok;simp only [bae,dte] at hok;obtain ⟨⟨_,i0,i1⟩,_,k0,k1⟩:=hok;refine M9.bind (P:=(· = tnP p i.toNat k.toNat)) ?_ λv hv => .pure (by rw [hv]);refine M9.loop (λs=>∃ n:Nat,n<=p.length/\s=((RY n).map λt=>p.getD (swN i.toNat k.toNat t) Nj,(n:Int))) (λs=>((p.length:Int)-s.2).toNat) ⟨0,by omega,rfl⟩ λs ⟨n,h1,h2⟩ => ?_;subst h2;unfold mN J;refine .bifD (λhk=>?_) λhk => .pure ?_
 ·simp only [] at hk;refine M9.bind (P:=(· = (swN i.toNat k.toNat n:Int))) ?_ λv hv=>?_
  ·unfold qQ swN;refine .bif (λh => .pure ?_) λh => .bif (λh' => .pure ?_) λh' => .pure ?_
   ·have : (n:Int)=i:=by simpa using h
    rw [if_pos (by omega)];omega
   ·have : ¬ (n:Int)=i:=by simpa using h
    have : (n:Int)=k:=by simpa using h'
    rw [if_neg (by omega),if_pos (by omega)];omega
   have : ¬ (n:Int)=i:=by simpa using h
   have : ¬ (n:Int)=k:=by simpa using h'
   rw [if_neg (by omega),if_neg (by omega)]
  subst hv;have hlt:=GX (n:=p.length) (i:=i.toNat) (k:=k.toNat) (t:=n) (by omega) (by omega) (by omega);have := hr<|swN i.toNat k.toNat n;refine .gdD ⟨by omega,by omega⟩<|.gd (eC (by rw [tnn,RQ];omega) rfl)<|.gd (eC (by simp;omega) rfl)<|.gdI (by simp only [];omega)<|.pure ⟨⟨n+1,by omega,?_⟩,by simp only [];omega⟩;rw [List.range_succ,List.map_append,tnn]
  rfl
 simp only [] at hk;have : n=p.length:=by omega
 subst this
 rfl
end
def nmM:List BA:=[⟨#[115,101,113]⟩,⟨#[116,115,111]⟩,⟨#[112,115,111]⟩,⟨#[114,97]⟩,⟨#[108,111,99]⟩]
def mdM (nm:BA):List ai:=match qN nm with | some (m,_)=>m | none=>[]
theorem Lg {j:Nat} (hj:j<5):j5 (nmM.getD j Nj)=Nn (mdM<|nmM.getD j Nj,Nk)/\vaM (mdM<|nmM.getD j Nj)=Nk:=by
 obtain rfl | rfl | rfl | rfl | rfl:j=0\/j=1\/j=2\/j=3\/j=4:=by omega
 ·exact ⟨gQ _ _ (by kernel_rfl),by kernel_rfl⟩
 ·exact ⟨gQ _ _ (by kernel_rfl),by kernel_rfl⟩
 ·exact ⟨gQ _ _ (by kernel_rfl),by kernel_rfl⟩
 ·exact ⟨gQ _ _ (by kernel_rfl),by kernel_rfl⟩
 exact ⟨gQ _ _ (by kernel_rfl),by kernel_rfl⟩
theorem E0 {b:LI} (hb:Bts b):M9 (eD b) λv=>Sm v.1:=by
 unfold eD;refine M9.bind (P:=λv:List (List M5)×Int×Int=>Sm v.1) ?_ λv hv => .pure hv;unfold su;exact (Ir hb).bind λr h=>(Dt h.mk'<|by omega).bind λv ⟨a1,a2⟩=>(Ch a1.mk' (by omega) a2).bind λu ⟨b1,b2⟩=>(vu b1.mk' (by omega) _<|by simp).bind λx ⟨c1,_⟩=>(vu c1.mk' (by omega) _<|by simp).bind λy _ => .pure b2
theorem L9 {b:LI} (hb:Bts b):d9 b=Nn Nk:=by
 refine M9.eq ?_;unfold d9;refine .bifD (λ_ => .pure rfl) λ_=>(E0 hb).bind λv hp=>?_;obtain ⟨p,i,k⟩:=v;simp only at hp ⊢;have hsz:=hp.sz;have hrow:∀ t:Nat,(p.getD t Nj).length<=1048576:=λt=>by have := hp.row t;omega
 have hi:=(Ld hsz hrow i k).eq;have hs:=(Lf hsz hrow i k).eq;have hq:(tnR p i k).1.length<=1048576/\∀ r∈(tnR p i k).1,r.length<=1048576:=by
  unfold tnR
  split
  ·refine ⟨by rw [Bi];exact hsz.1,λr hr=>?_⟩;obtain ⟨t,_,rfl⟩:=RO.1 hr;exact hrow _
  exact ⟨RP _,λr hr=>by cases hr⟩
 refine (M9.of (P:=(· = tnR p i k)) hi rfl).bind λv4 e4=>(M9.of (P:=(· = tnR p i k)) hs rfl).bind λv5 e5=>?_;subst e4 e5;have hsame:=IC (tnR p i k).1 hq.1 hq.2;refine M9.bind (P:=(· = Nl)) (.bif (λh=>by simp at h) λ_=>hsame.bind λv hv => .pure<|by rw [hv];rfl) λs5 h5=>?_;subst h5;refine M9.bind (P:=(· = !(tnR p i k).2)) (.bif (λh=>by cases h) λ_ => .pure rfl) λs8 h8=>?_;subst h8;refine .bif (λ_=>?_) λhok=>?_
 ·exact M9.bind (P:=(· = Nk)) (.bif (λ_=>hsame.bind λv hv => .pure hv) λh=>by simp at h) λs hs => .pure hs
 have hc:(okT p i&&okT p k)=Nk:=by
  unfold tnR at hok
  split at hok
  ·assumption
  cases hok
 have hR:tnR p i k=(tnP p i.toNat k.toNat,Nk):=by unfold tnR;rw [if_pos hc]
 simp only [hR];unfold okT at hc;simp only [bae,dte] at hc;obtain ⟨⟨hvb,i0,i1⟩,_,k0,k1⟩:=hc;have hin:i.toNat<p.length:=by omega
 have hkn:k.toNat<p.length:=by omega
 have hpv:=PV.of hvb;have hperm:=ID hpv.vs.1 hin hkn;have hvq:cT (Nb<|tnP p i.toNat k.toNat)=Nk:=by
  rw [Du (hperm.map _)];exact hvb
 have hszq:(tnP p i.toNat k.toNat).length<=1048576/\total (tnP p i.toNat k.toNat)<=1048576:=⟨by rw [Bi];exact hsz.1,by
  have : total (tnP p i.toNat k.toNat)=total p:=(hperm.map _).sum_nat;rw [this];exact hsz.2⟩
 have S:=L8 (p:=p) hin hkn;generalize tnP p i.toNat k.toNat=q at hvq hszq S ⊢;refine M9.sum (PS:=λ_=>True) (PW:=(· = Nk)) ?_ λ_ _ => .pure rfl;refine M9.loop (λi=>0<=i/\i<=5) (λi=>(5-i).toNat) ⟨RN _,by omega⟩ λj ⟨h1,h2⟩ => ?_;unfold mD J;refine .bifD (λhlt=>?_) λhge => .pure trivial;have hj:j.toNat<5:=by
  have : j<5:=hlt;omega
 obtain ⟨e1,e2⟩:=Lg hj;refine .gdD ⟨h1,hlt⟩ ((M9.of (P:=(· = (mdM<|nmM.getD j.toNat Nj,Nk))) e1 rfl).bind λv hv=>?_);subst hv;refine M9.bind (P:=(· = Nl)) (.bif (λh=>by cases h) λ_=>(xP hvb hsz e2).bind λv24 h24=>(xP hvq hszq e2).bind λv25 h25 => .pure ?_) λs hs=>?_
 ·subst h24 h25;exact bne_eq_false_iff_eq.2<|congrArg (λn:Nat=>(n:Int))<|S.al hpv (PV.of hvq)<|mdM<|nmM.getD j.toNat Nj
 subst hs;exact .bif (λh=>by cases h) λ_ => .gdI (by omega)<|.pure ⟨⟨by omega,by omega⟩,by omega⟩
theorem ty3:TyF Nr 3 Nl 1:=⟨by kernel_rfl,by kernel_rfl,by kernel_rfl,by kernel_rfl⟩
theorem zs3:TyZ Nr 3 [I (0:Int)]:=⟨by kernel_rfl,by kernel_rfl⟩
theorem ty4:TyF Nr 4 Nl 1:=⟨by kernel_rfl,by kernel_rfl,by kernel_rfl,by kernel_rfl⟩
theorem zs4:TyZ Nr 4 [Bo Nl]:=⟨by kernel_rfl,by kernel_rfl⟩
theorem bt4:rK Nr 4=Nk:=by kernel_rfl
theorem ty5:TyF Nr 5 Nl 1:=⟨by kernel_rfl,by kernel_rfl,by kernel_rfl,by kernel_rfl⟩
theorem zs5:TyZ Nr 5 [Y (0:Int)]:=⟨by kernel_rfl,by kernel_rfl⟩
theorem ty9:TyF Nr 9 Nl 1:=⟨by kernel_rfl,by kernel_rfl,by kernel_rfl,by kernel_rfl⟩
theorem zs9:TyZ Nr 9 [St (⟨#[]⟩:BA)]:=⟨by kernel_rfl,by kernel_rfl⟩
theorem I9:TyF Nr 22 Nl 1:=⟨by kernel_rfl,by kernel_rfl,by kernel_rfl,by kernel_rfl⟩
theorem Mw:TyF Nr 23 Nl 1:=⟨by kernel_rfl,by kernel_rfl,by kernel_rfl,by kernel_rfl⟩
theorem Kj:TyF Nr 24 Nl 1:=⟨by kernel_rfl,by kernel_rfl,by kernel_rfl,by kernel_rfl⟩
theorem ML:TyZ Nr 24 [.nil]:=⟨by kernel_rfl,by kernel_rfl⟩
theorem MM:TyF Nr 25 Nl 1:=⟨by kernel_rfl,by kernel_rfl,by kernel_rfl,by kernel_rfl⟩
theorem MN:TyZ Nr 25 [.nil]:=⟨by kernel_rfl,by kernel_rfl⟩
theorem Lh:TyF Nr 27 Nk 2:=⟨by kernel_rfl,by kernel_rfl,by kernel_rfl,by kernel_rfl⟩
theorem Mx:TyZ Nr 27 [.nil,.nil]:=⟨by kernel_rfl,by kernel_rfl⟩
theorem My:TyF Nr 57 Nl 1:=⟨by kernel_rfl,by kernel_rfl,by kernel_rfl,by kernel_rfl⟩
theorem MO:TyZ Nr 57 [.nil]:=⟨by kernel_rfl,by kernel_rfl⟩
theorem Ma:TyF Nr 60 Nk 5:=⟨by kernel_rfl,by kernel_rfl,by kernel_rfl,by kernel_rfl⟩
theorem Mb:TyZ Nr 60 [I (0:Int),I (0:Int),I (0:Int),Bo Nl,Bo Nl]:=⟨by kernel_rfl,by kernel_rfl⟩
theorem Fe:TyF Nr 73 Nl 1:=⟨by kernel_rfl,by kernel_rfl,by kernel_rfl,by kernel_rfl⟩
theorem MP:TyZ Nr 73 [.nil]:=⟨by kernel_rfl,by kernel_rfl⟩
theorem Ja:TyF Nr 79 Nk 4:=⟨by kernel_rfl,by kernel_rfl,by kernel_rfl,by kernel_rfl⟩
theorem Li:TyZ Nr 79 [I (0:Int),I (0:Int),I (0:Int),I (0:Int)]:=⟨by kernel_rfl,by kernel_rfl⟩
theorem Mc:TyS Nr 79 [(0,1),(1,1),(2,1),(3,1)]:=⟨by kernel_rfl⟩
theorem MQ:TyE Nr 79:=⟨by kernel_rfl,by kernel_rfl,by kernel_rfl⟩
theorem Cm:TyF Nr 116 Nk 3:=⟨by kernel_rfl,by kernel_rfl,by kernel_rfl,by kernel_rfl⟩
theorem Md:TyZ Nr 116 [I (0:Int),St (⟨#[]⟩:BA),.nil]:=⟨by kernel_rfl,by kernel_rfl⟩
theorem Me:TyF Nr 120 Nk 4:=⟨by kernel_rfl,by kernel_rfl,by kernel_rfl,by kernel_rfl⟩
theorem Mf:TyZ Nr 120 [I (0:Int),I (0:Int),St (⟨#[]⟩:BA),.nil]:=⟨by kernel_rfl,by kernel_rfl⟩
theorem Mg:TyZ Nr 157 [.nil,I (0:Int)]:=⟨by kernel_rfl,by kernel_rfl⟩
theorem xX:TyS Nr 157 [(0,1),(1,1)]:=⟨by kernel_rfl⟩
theorem Mh:TyF Nr 170 Nl 1:=⟨by kernel_rfl,by kernel_rfl,by kernel_rfl,by kernel_rfl⟩
theorem Ff:SlT Nr 22 5 Nl 1 [Y (0:Int)] 1:=⟨Tryz.underlying22,ty5,zs5,rfl,rfl,by kernel_rfl⟩
theorem vK:SlT Nr 23 73 Nl 1 [.nil] 24:=⟨Tryz.underlying23,Fe,MP,rfl,rfl,by kernel_rfl⟩
theorem zy:SlT Nr 24 3 Nl 1 [I (0:Int)] 8:=⟨Tryz.underlying24,ty3,zs3,rfl,rfl,by kernel_rfl⟩
theorem Hq:SlT Nr 25 24 Nl 1 [.nil] 24:=⟨Tryz.underlying25,Kj,ML,rfl,rfl,by kernel_rfl⟩
theorem MR:SlT Nr 34 120 Nk 4 [I (0:Int),I (0:Int),St (⟨#[]⟩:BA),.nil] 56:=⟨Tryz.underlying34,Me,Mf,rfl,rfl,by kernel_rfl⟩
theorem Kl:SlT Nr 51 9 Nl 1 [St (⟨#[]⟩:BA)] 16:=⟨Tryz.underlying51,ty9,zs9,rfl,rfl,by kernel_rfl⟩
theorem MB:SlT Nr 52 27 Nk 2 [.nil,.nil] 48:=⟨Tryz.underlying52,Lh,Mx,rfl,rfl,by kernel_rfl⟩
theorem LC:SlT Nr 57 60 Nk 5 [I (0:Int),I (0:Int),I (0:Int),Bo Nl,Bo Nl] 32:=⟨Tryz.underlying57,Ma,Mb,rfl,rfl,by kernel_rfl⟩
theorem Bu:SlT Nr 73 79 Nk 4 [I (0:Int),I (0:Int),I (0:Int),I (0:Int)] 32:=⟨Tryz.underlying73,Ja,Li,rfl,rfl,by kernel_rfl⟩
theorem Bj:SlT Nr 114 116 Nk 3 [I (0:Int),St (⟨#[]⟩:BA),.nil] 48:=⟨Tryz.underlying114,Cm,Md,rfl,rfl,by kernel_rfl⟩
theorem Mi:SlT Nr 138 4 Nl 1 [Bo Nl] 1:=⟨Tryz.underlying138,ty4,zs4,rfl,rfl,by kernel_rfl⟩
theorem GZ:SlT Nr 151 25 Nl 1 [.nil] 24:=⟨Tryz.underlying151,MM,MN,rfl,rfl,by kernel_rfl⟩
section
variable {α β:Type} [Inhabited β] {f:α->List Value} {s:Nat} {c:β->List AV} {w:World} {fz:Nat->Prop} {v:Value}
theorem G3 {u x:Value} (h:FRel w fz (.v u) x):x=u:=by
 cases h with
 | v _=>rfl
theorem Az {e:β->α} (hf:∀ x,c x=(f<|e x).map AV.v) (hs:∀ x,(f<|e x).length=s) {l:List β} (h:FRel w fz (eL c l) v):Sl f s w 0 w.heap.size v (l.map e):=by
 unfold eL at h
 cases h with
 | sl us hc hm ha hr hu h1 h=>
  refine ⟨_,_,by rw [llm],by simpa using hc,hm,λhn=>?_⟩;rw [llm] at hn;obtain ⟨rfl,hg,hlt⟩:=ha hn;refine ⟨_,_,rfl,RP _,hlt,hlt,λk hk j u hu' => ?_⟩;rw [llm] at hk;rw [R9] at hu';have hk0:l.getD k Nj=l[k]:=by simp [List.getD,hk]
  have hrow:(c<|l.getD k Nj)[j]? = Nn (.v u):=by rw [hk0,hf,R8,hu'];rfl
  have hs':=hr k hk
  dsimp only at hs'
  rw [hf,llm,hs] at hs';subst hs';have h2:=hu k j _ hk hrow;rw [G3 (h k j _ hk hrow)] at h2;exact h2
theorem xQ {e:β->α} (hf:∀ x,c x=(f<|e x).map AV.v) (hs:∀ x,(f<|e x).length=s) {l:List (List β)} (h:FRel w fz (eL (cL c) l) v):xS f s w 0 w.heap.size v (l.map λr=>r.map e):=by
 unfold eL at h
 cases h with
 | sl us hc hm ha hr hu h1 h=>
  refine ⟨(RY l.length).map λi=>us i 0,?_,by simp,λk hk hk' => ?_⟩
  ·refine ⟨_,_,by rw [llm,Sa],by simpa using hc,hm,λhn=>?_⟩;rw [llm,Sa] at hn;obtain ⟨rfl,hg,hlt⟩:=ha hn;refine ⟨_,_,rfl,RP _,hlt,hlt,λk hk j u hu' => ?_⟩;rw [llm,Sa] at hk;rw [R9,List.getElem_range] at hu';have hs':=hr k hk;change 1=_ at hs';subst hs'
   match j with
   | 0=>
    have h2:=hu k 0 _ hk rfl;rw [h2];simpa [KD] using hu'
   | j+1=>simp [KD] at hu'
  rw [llm,Sa] at hk;rw [R9,R9,List.getElem_range];have h2:=h k 0 _ hk rfl;have hk0:l.getD k Nj=l[k]:=by simp [List.getD,hk]
  rw [hk0] at h2;exact Az hf hs h2
theorem E5 {e:α->β} (hf:∀ x,c (e x)=(f x).map AV.v) (hs:∀ x,(f x).length=s) (hp:∀ x,∀ u∈f x,plain u=Nk) {l:List α} {hi:Nat} (h:Sl f s w 0 hi v l):FRel w (λg=>g<w.heap.size) (eL c<|l.map e) v:=by
 obtain ⟨A,cap,rfl,hc,hm,h⟩:=h;have key:∀ (g o:Nat),(0<l.length->A=Nn ⟨g,o,Np⟩/\g<w.heap.size/\∀ (k:Nat) (h:k<l.length) (j:Nat) (u:Value),(f l[k])[j]? = Nn u->w.cell? ⟨g,o+k*s+j,Np⟩=Nn u)->FRel w (λg=>g<w.heap.size) (eL c<|l.map e) (.slice A l.length cap):=by
  intro g o hh;have hrow:∀ (i j:Nat) (a:AV),i<l.length->(c<|(l.map e).getD i Nj)[j]? = Nn a->∃ u,l[i]?.bind (λx=>(f x)[j]?)=Nn u/\a = .v u/\plain u=Nk/\w.cell? ⟨g,o+i*s+j,Np⟩=Nn u:=by
   intro i j a hi ha;have h0:(l.map e).getD i Nj=e l[i]:=by simp [List.getD,hi]
   rw [h0,hf,R8] at ha
   cases hq:(f l[i])[j]? with
   | none=>rw [hq] at ha;cases ha
   | some u=>
    rw [hq] at ha;refine ⟨u,by rw [geq hi];exact hq,(osl ha).symm,hp _ u<|List.mem_of_getElem? hq,(hh<|by omega).2.2 i hi j u hq⟩
  have e0:(l.map e).length=l.length:=by simp
  unfold eL;rw [e0];refine FRel.sl (s:=s) (g:=g) (o:=o) (λi j=>(l[i]?.bind λx=>(f x)[j]?).getD<|.bool Nl) hc hm (λhn=>⟨(hh hn).1,(hh hn).2.1,(hh hn).2.1⟩) (λi hi=>?_) (λi j a hi ha=>?_) (λi j a hi ha=>?_) λi j a hi ha=>?_
  ·have h0:(l.map e).getD i Nj=e l[i]:=by simp [List.getD,hi]
   rw [h0,hf,llm,hs]
  ·obtain ⟨u,h1,h2,h3,h4⟩:=hrow i j a hi ha;simp only [h1,Sg];exact h4
  ·obtain ⟨u,h1,h2,h3,h4⟩:=hrow i j a hi ha;simp only [h1,Sg];exact Bv h3
  obtain ⟨u,h1,h2,h3,h4⟩:=hrow i j a hi ha;subst h2;simp only [h1,Sg];exact .v h3
 by_cases h0:0<l.length
 ·obtain ⟨b,o,hA,_,_,hlt,hcell⟩:=h h0;exact key b o λ_=>⟨hA,hlt,hcell⟩
 exact key 0 0 λh1=>absurd h1 h0
theorem Bl {P:Program} {g:FuncId} {ars:List AV} {r:AV} (h:aD P g ars r) (vs:Array Value) (hl:vs.size=ars.length) (hr:∀ (i:Nat) (a:AV) (v:Value),ars[i]? = Nn a->vs[i]? = Nn v->FRel w (λg=>g<w.heap.size) a v) (hgl:Gl w (λg=>g<w.heap.size):=by exact gl_none) :
  Calls P g vs w λe w'=>∃ v fz',e = .returned v/\Below w.heap.size w w'/\FRel w' fz' r v:=
 (h.2 w _ vs (λg hg=>hg) hgl hl hr).mono λe w' ⟨v,fz',h1,h2,h3,_⟩=>⟨v,fz',h1,h2,h3⟩
theorem Mj {a:AV} {u:Value} (h:FRel w fz a u):∀ (i:Nat) (a':AV) (v:Value),[a][i]? = Nn a' -> #[u][i]? = Nn v->FRel w fz a' v:=by
 intro i a' v h1 h2
 match i with
 | 0=>
  obtain rfl:=osl h1;obtain rfl:u=v:=by simpa using h2
  exact h
 | i+1=>simp at h1
end
theorem E8 {w:World} {v:Value} {hi:Nat} {l:LI} (h:Sl EG 1 w 0 hi v l):FRel w (λg=>g<w.heap.size) (eL cY l) v:=by
 have := E5 (f:=EG) (s:=1) (c:=cY) (e:=id) (λ_=>rfl) (λ_=>rfl) (λx u hu=>by simp [EG] at hu;subst hu;rfl) h
 rwa [List.map_id] at this
theorem Dv {P:Program} {g:FuncId} {ars:List AV} {w:World} {vs:Array Value} (h:aD P g ars<|Bo Nk) (hl:vs.size=ars.length) (hr:∀ (i:Nat) (a:AV) (v:Value),ars[i]? = Nn a->vs[i]? = Nn v->FRel w (λg=>g<w.heap.size) a v) (hgl:Gl w (λg=>g<w.heap.size):=by exact gl_none) :
  Calls P g vs w λe w'=>e = .returned (.bool Nk)/\Below w.heap.size w w':=
 (Bl h vs hl hr hgl).mono λe w' ⟨v,fz',h1,h2,h3⟩=>⟨by rw [h1,G3 h3],h2⟩
theorem Jb {vs:Array Value} {a:AV} (hl:vs.size=[a].length):∃ u,vs = #[u]:=by
 obtain ⟨l⟩:=vs
 match l,hl with
 | [u],_=>exact ⟨u,rfl⟩
abbrev jA:=@TO.nil
abbrev jC:=@T.region
abbrev jE:=@T.block
abbrev jG:=@T.skip
abbrev jH:=@T.seq
abbrev jI:=@T.sr
abbrev jK:=@T.ret
abbrev jM:=@T.exit
abbrev jN:=@T.ifH
abbrev jO:=@T.loop
abbrev jP:=@T.drawF
abbrev jQ:=@Fin.ret
abbrev jR:=@TF.nil
theorem qC {m:Nat} {H:AH} {a:AV} (h:isF 9 a=Nk):Fz m H a a:=.of_isF 9 _ h
theorem qD {α:Sort _} {β:α->Sort _} {f:(x:α)->β x}:∀ x,f x=f x:=λ_=>rfl
theorem nK (p:List<|List M5) {q} (h:da p=Nn q):aD Nr 29 [eL (cL M5.c) p] (Bo q):=by
 unfold da at h;obtain ⟨⟨h1,h2⟩,h⟩:=gdD h;obtain rfl:=osl h;refine ⟨by kernel_rfl,λw fz vs hlt _ hl hrel=>?_⟩;obtain ⟨u,rfl⟩:=Jb hl;have hs:=xQ (f:=Ins.cells) (s:=4) (e:=pI) (λ_=>rfl) (λ_=>rfl)<|hrel 0 _ u rfl rfl;refine (tG hs (R7 _)<|by rw [BU];exact h2).mono λe w' ⟨he,hb⟩ => ?_;exact ⟨_,fz,he,hb,.v Z,λg hg=>hg,λg hg => .inl hg,λg hg=>Si (hlt g hg) hb.size⟩
theorem jk (p:List<|List M5) {q} (h:bU p=Nn q):aD Nr 52 [eL (cL M5.c) p] (Bo q):=by
 unfold bU at h;obtain ⟨⟨h1,h2⟩,h⟩:=gdD h;obtain rfl:=osl h;refine ⟨by kernel_rfl,λw fz vs hlt _ hl hrel=>?_⟩;obtain ⟨u,rfl⟩:=Jb hl;have hs:=xQ (f:=Ins.cells) (s:=4) (e:=pI) (λ_=>rfl) (λ_=>rfl)<|hrel 0 _ u rfl rfl;refine (tE hs (R7 _)<|by rw [BU];exact h2).mono λe w' ⟨he,hb⟩ => ?_;exact ⟨_,fz,he,hb,.v Z,λg hg=>hg,λg hg => .inl hg,λg hg=>Si (hlt g hg) hb.size⟩
theorem Ek {p:List (List M5)} (h:ES p=Nk):p.length<=1048576/\∀ i,(p.getD i []).length<=1048576:=by
 simp only [ES,bae,dte,RR] at h;refine ⟨h.1,λi=>?_⟩
 by_cases hi:i<p.length
 ·simpa [hi] using h.2 _ (RU hi)
 simp [hi]
theorem AA {n m:Nat} (hn:n<=2097152) (hm:Nat.ble m 1000=Nk):dS n m=Nk:=by
 have h1:=nlb hm;have h2:n*m<=2097152*1000:=Nat.mul_le_mul hn h1;exact decide_eq_true ⟨by omega,by omega⟩
theorem G5 (p:List<|List M5) {i:Nat} (h:i<p.length):p.take (i+1)=p.take i++[p.getD i []]:=by
 have e:p.getD i []=p[i]:=by rw [gdq,geq h];rfl
 rw [e];exact (List.take_append_getElem h).symm
theorem G6 (p:List<|List M5) (hp:ES p=Nk):bP Nr 127 [eL (cL M5.c) p] [] (CQ 4 79 73 M5.c (λx=>x) p 0 []):=by
 obtain ⟨hp1,hp2⟩:=Ek hp;refine bP.mkON func127 rfl (by kernel_rfl) rfl (by kernel_rfl) (e0:=ak [(0,eL (cL M5.c) p)]) (MZ rfl wkN) nB M5.isF ?_;refine T.seq ?_;refine T.region ?_;refine oN (M0.asg (.nil) rfl) ?_;refine TO.nil ?_;refine T.seq ?_;refine T.region ?_;refine oA (EvA.mkR ([]:List<|List AV) vK rfl rfl rfl rfl) ?_;refine oN (M0.asg (hS Nl 0 0 1 0) rfl) ?_;refine TO.nil ?_;refine T.seq ?_;refine T.seq ?_;refine T.region ?_;refine oN (M0.asg (I 0) rfl) ?_;refine TO.nil ?_;refine T.block ?_;refine T.loop (S:=Nat) (G:=NG×AH×Nat) (E:=Nat) (x:=p.length) (λi=>if i<p.length then Nn (.inl<|i+1) else Nn (.inr i)) (λi g=>i<=p.length/\NK 1 (Nn ⟨g.2.2,1,73,cO g.1 4<|p.take i⟩::g.2.1) g.1 4 79 M5.c (p.take i))
  (λi g=>[(4,I i),(3,hS Nl 0 g.2.2 1 (p.take i).length),(0,eL (cL M5.c) p)]) (λi g=>Nn ⟨g.2.2,1,73,cO g.1 4<|p.take i⟩::g.2.1) (s0:=0) (λ_=>(Nl,0,0),[],0)
  (yY (λi=>i) p.length (λi hi=>by simp [hi])<|by simp) ⟨RP _,by exact NK.nil⟩ (zO rfl<|MZ rfl<|MZ rfl<|MZ rfl wkN) (λi g z hz hinv=>?_)
 obtain ⟨gh,K,ver⟩:=g;obtain ⟨hle,hN⟩:=hinv;simp only at hN;generalize hl:p.take i=l at hN ⊢;refine T.seq ?_;refine T.seq ?_;refine T.region ?_;refine oN (M0.mv (I i) rfl) ?_;refine oN (M0.mv (eL (cL M5.c) p) rfl) ?_;refine oN (M0.lenL vK rfl) ?_;refine oN (M0.ilt rfl rfl) ?_;refine TO.nil ?_;have hll:l.length=i:=by rw [<- hl,Sb];omega
 refine T.cond rfl (λq=>?_) λq=>?_
 ·have hi:i<p.length:=by have := of_decide_eq_true q;omega
  rw [if_pos hi] at hz;obtain rfl:=osl hz;have hrow:=hp2 i;have htk:=G5 p hi;rw [hl] at htk;generalize hr:p.getD i []=row at hrow htk;refine T.skip ?_;refine T.seq ?_;refine T.block ?_;refine T.region ?_;refine oN (M0.mv (hS Nl 0 ver 1 l.length) rfl) ?_;refine oA (EvA.mkO (c:=M5.c) (b:=K.length+1) ([]:List M5) [] Bu rfl rfl rfl (λ_=>rfl) rfl rfl) ?_;refine oN (M0.mv (eL (cL M5.c) p) rfl) ?_;refine oN (M0.mv (I i) rfl) ?_;refine oN (M0.ixL vK rfl rfl ⟨by omega,by omega⟩ λ_=>rfl) ?_;refine oN (M0.loadfp (eL M5.c row) Fe rfl<|by subst hr;rfl) ?_;refine oA (EvA.appF (l:=([]:List M5)) row Bu (by kernel_rfl) rfl rfl (AZ (H:=_::K)) (dN.fz (l:=row) rfl λ_=>rfl)<|AA (by simp;omega) rfl) ?_;refine TO.clean (H0:=some ⟨ver,1,73,cO gh 4 l⟩::(K++[bE Nl 1 4 79 (row.map M5.c)])) (e0:=ak [(18,hS Nl (K.length+1) 1 4 row.length),(12,hS Nl 0 ver 1 l.length),(4,I i),(0,eL (cL M5.c) p)]) (HE (H:=_::K)).symm (MZ rfl<|MZ rfl<|MZ rfl<|MZ rfl wkN) ?_;refine oA (EvA.mkR (b:=(K++[bE Nl 1 4 79 (row.map M5.c)]).length+1) [[hS Nl (K.length+1) 1 4 row.length]] vK rfl rfl rfl rfl) ?_;refine oA (EvA.appR (g:=false) (rows:=cO gh 4 l) (rows':=cO gh 4 l++[[hS Nl (K.length+1) 1 4 row.length]]) (n':=l.length+1) vK (by kernel_rfl) rfl rfl (dO gh 4 l).symm nofun (dN.raw (rows:=[[hS Nl (K.length+1) 1 4 row.length]]) rfl (AZ (H:=_::(K++[_]))) rfl) (AA (by simp;omega) rfl) rfl rfl) ?_;refine oN (M0.asg (hS Nl 0 (ver+1) 1<|l.length+1) rfl) ?_;refine TO.nil ?_;refine T.region ?_;refine oN (M0.mv (I i) rfl) ?_;refine oN (M0.add rfl rfl<|IntWalk.i64_in _ ⟨by omega,by omega⟩) ?_;refine oN (M0.asg (I (i+1:Nat)) rfl) ?_;refine TO.nil ?_;refine ⟨i+1,(gh.put l.length (Nl,K.length+1,1),K++[bE Nl 1 4 79 (row.map M5.c)]++[Nn ⟨0,1,73,[[hS Nl (K.length+1) 1 4 row.length]]⟩],ver+1),rfl,⟨hi,?_⟩,zO ?_<|MZ rfl<|MZ ?_<|MZ rfl wkN⟩
  ·rw [htk];refine hN.snoc (id:=K.length+1) (by simp) (by omega) (λb h1 h2=>?_) ?_ nofun
   ·match b,h1 with
    | b+1,_=>
     simp only [llc,Sy] at h2;simp only [RZ,R6];exact gal h2
   simp only [RZ];exact BR
  ·show Nn (ABlk.mk _ _ _<|cO _ 4<|p.take<|i+1)::_=_;rw [htk,<- Ae]
   rfl
  show hS Nl 0 (ver+1) 1 (l.length+1)=hS Nl 0 (ver+1) 1 (p.take<|i+1).length;rw [htk,lla]
  rfl
 have hi : ¬ i<p.length:=by have := of_decide_eq_false q;omega
 rw [if_neg hi] at hz;obtain rfl:=osl hz;refine T.exit ?_;refine ⟨_,rfl,λhe=>?_⟩;subst he;rw [Sc] at hl;subst hl;refine T.seq ?_;refine T.region ?_;refine oN (M0.mv (hS Nl 0 ver 1 p.length) rfl) ?_;refine oN (M0.asg (hS Nl 0 ver 1 p.length) rfl) ?_;refine TO.nil ?_;refine T.ret ?_
 repeat first | refine lD ?_ | refine lF ?_
 exact Fin.ret (vs:=[hS Nl 0 ver 1 p.length]) (.cons (.tmp rfl) .nil) ⟨0,ver,gh,rfl,rfl,⟨λi hi=>⟨RP _,(hN.at_ i hi).2⟩,hN.nil_,hN.sep⟩,λi hi h0=>absurd (hN.at_ i hi).1<|by omega⟩
theorem NK.row {r o:Option ABlk} {K:AH} {gh:NG} {w:Nat} {ty:TypeId} {f:M5->List AV} {l:List (List M5)} (h:NK 2 (r::o::K) gh w ty f l) {i:Nat} (hi:i<l.length):∃ g k v,gh i=(g,k+2,v)/\k<K.length/\K[k]? = Nn (bE g v w ty<|(l.getD i []).map f)/\(g=Nk->l.getD i []=[]):=by
 obtain ⟨h1,h2⟩:=h.at_ i hi;have h3:=h.nil_ i hi;generalize he:gh i=x at h1 h2 h3;obtain ⟨g,id,v⟩:=x;simp only at h1 h2 h3;obtain ⟨k,rfl⟩:∃ k,id=k+2:=⟨id-2,by omega⟩;simp only [RZ] at h2;exact ⟨g,k,v,rfl,(ges h2).1,h2,h3⟩
theorem NK.turn {r o r' o':Option ABlk} {K:AH} {gh:NG} {w:Nat} {ty:TypeId} {f:M5->List AV} {l:List (List M5)} (h:NK 2 (r::o::K) gh w ty f l) {i:Nat} (hi:i<l.length) {g:Bool} {k v:Nat} (he:gh i=(g,k+2,v)) {g':Bool} {v':Nat} {x:List M5} (hg:g'=Nk->x=[]) :
  NK 2 (r'::o'::K.set k (bE g' v' w ty<|x.map f)) (gh.put i (g',k+2,v')) w ty f (l.set i x):=by
 have h1:=h.set hi (g:=g') (ver:=v') (r:=x) hg;rw [he] at h1;refine h1.low λb hb _=>?_
 match b,hb with
 | b+2,_=>simp [RZ]
theorem xY (code:LI) {q} (h:ko code=Nn q):f8 Nr 62 [eL cY code] [] (.hp 0 0 2 0 0) [Nn ⟨0,2,157,[(ah.c q)]⟩]:=by
 refine aM func62 Z (by kernel_rfl) Z<|jI<|oN as'<|jA ?_;refine T.jU h (λs1=>[(0,eL cY s1)]) (λs1=>[]) (λs1 h=>?_) λs1 h=>?_
 ·refine jI<|oN mv<|oN (M0.build [eL cY s1,I U] Tryz.underlying157 Mg xX Z Z)<|oA (EvA.bx (cs:=[eL cY s1,I U]) Z Z Z)<|oN as'<|jA<|jK ?_;obtain rfl:=M4 h
  repeat (first|refine lD ?_|refine lF ?_)
  exact ⟨ak [(2,.hp 0 0 2 0 0)],[Nn ⟨0,2,157,[(ah.c (⟨s1,U⟩:ah))]⟩],kw Z Z,jQ (vs:=[.hp 0 0 2 0 0]) (.cons (.tmp Z) .nil) ⟨Z,Z⟩⟩
 refine jI<|oN mv<|oN (M0.lenL Ff Z)<|oN (M0.igt Z Z)<|jA ?_;refine jN Z h (λq2 h=>?_) λq2 h=>?_
 ·refine jC<|oN mv<|jD h λg3 h=>oN (M0.slL Ff Z .no (.yes Z) g3 qD)<|oN as'<|jA ?_
  cases h
  exact ⟨(),trivial,kw Z Z⟩
 refine jG ?_
 cases h
 exact ⟨(),trivial,kw Z Z⟩
theorem aS (r_:ah) (n:Int) (aI:Nat) {q} (h:aH r_ n=Nn q):f8 Nr 126 [.hp 0 aI 2 0 0,I n] [Nn ⟨aI,2,157,[(ah.c r_)]⟩] (I q.2) [Nn ⟨aI,2,157,[(ah.c q.1)]⟩]:=by
 let d0:=((r_.p+V)-V);refine aM func126 Z (by kernel_rfl) Z<|jI<|oN as'<|jA<|jI<|oN mv<|oN mv<|oN (nl Z)<|oN (fa xX Z)<|oA (lh (I r_.p) ty3 Z Z Z)<|jW h λg1 h=>oN (M0.add Z Z g1)<|oN (nl Z)<|oN (fa xX Z)<|oV (sr [eL cY r_.b,I (r_.p+V)] ty3 Z Z Z Z)<|jA ?_;refine jH<|jI<|oN mv<|oN (M0.ilt Z Z)<|oN mv ?_;refine TO.jB h 7 (λs2=>[(24,Bo s2),(0,.hp 0 aI 2 0 0),(1,I n)]) (λs2=>[Nn ⟨aI,2,157,[[eL cY r_.b,I (r_.p+V)]]⟩]) (λs2 q3 h js2=>?_) (λs2 q3 h js2=>?_) λs2 h=>?_
 ·refine gS Z q3<|gS Z q3<|gS Z q3<|gS Z q3<|gS Z q3<|gS Z q3<|oN (M0.pickT Z q3 (Bo Nk) Z) ?_
  cases h
  exact js2 _ _<|kw Z Z
 ·refine gN Z q3 mv<|gN Z q3 (nl Z)<|gN Z q3 (fa xX Z)<|gA Z q3 (lh (eL cY r_.b) I9 Z Z Z)<|gN Z q3 (M0.lenL Ff Z)<|gN Z q3 (M0.ieq Z Z)<|oN (M0.pickF Z q3 (Bo<|(r_.b.length:Int)==U) Z) ?_
  cases h
  exact js2 _ _<|kw Z Z
 refine jA ?_;refine jN Z h (λq4 h=>?_) λq4 h=>?_
 ·refine jI<|oN as'<|jA<|jK ?_;obtain rfl:=M4 h
  repeat (first|refine lD ?_|refine lF ?_)
  exact ⟨ak [(4,I U)],[Nn ⟨aI,2,157,[(ah.c (⟨r_.b,(r_.p+V)⟩:ah))]⟩],kw Z Z,jQ (vs:=[I U]) (.cons (.tmp Z) .nil) ⟨Z,Z⟩⟩
 refine jG<|jI<|oN mv<|oN (nl Z)<|oN (fa xX Z)<|oA (lh (I<|r_.p+V) ty3 Z Z Z)<|jW h λg5 h=>oN (M0.sub Z Z g5)<|oN as'<|jA<|jH<|jI<|oN mv<|oN mv<|oN (nl Z)<|oN (fa xX Z) ?_;refine oA (lh (eL cY r_.b) I9 Z Z Z)<|oN (M0.lenL Ff Z)<|oN (M0.ilt Z Z)<|jA ?_;refine jN Z h (λq6 h=>?_) λq6 h=>?_
 ·refine jI<|oN mv<|oN (nl Z)<|oN (fa xX Z)<|oA (lh (eL cY r_.b) I9 Z Z Z)<|oN mv<|jD h λg7 h=>oN (M0.ixL Ff Z Z g7 qD)<|oN (lf (Y<|J r_.b d0) ty5 Z)<|jW h λg8 h=>oN (M0.iconv ty5.und Tryz.underlying3 Z g8)<|oN mv<|jD h λg9 h=>oN (M0.rem Z Z g9)<|oN as'<|jA ?_;refine jK ?_;obtain rfl:=M4 h
  repeat (first|refine lD ?_|refine lF ?_)
  exact ⟨ak [(4,I<|(J r_.b d0).tmod n)],[Nn ⟨aI,2,157,[(ah.c (⟨r_.b,(r_.p+V)⟩:ah))]⟩],kw Z Z,jQ (vs:=[I ((J r_.b d0).tmod n)]) (.cons (.tmp Z) .nil) ⟨Z,Z⟩⟩
 refine jG<|jH<|jP (dG [dF,dF,dF,([0],Nl),dF,dF,dF,dF,([0],Nl),dF,dF,dF,dF,dF,dF,dF,dF,dF,([0],Nl),dF,dF,dF,dF,dF,dF,([0],Nl),dF,dF,dF,dF,dF,dF,dF,dF,dF,dF,dF,dF,dF,dF,([0],Nl),dF,dF,dF,dF,dF]) (by kernel_rfl) (by kernel_rfl)<|fN Z mv<|fN Z (nl Z)<|fN Z (fa xX Z)<|fR [0] Z (λG hG=>EvA.loadhp (eL cY r_.b) I9 Z (hG.a0 Z) Z Z Z Z)<|fN Z mv<|fN Z mv<|fN Z (nl Z)<|fN Z (fa xX Z)<|fR [0] Z (λG hG=>EvA.loadhp (eL cY r_.b) I9 Z (hG.a0 Z) Z Z Z Z)<|fN Z (M0.lenL Ff Z)<|jD h λg10 h=>fN Z (M0.rem Z Z g10)<|jD h λg11 h=>?_;refine fN Z (M0.ixL Ff Z Z g11 qD)<|fN Z (lf (Y<|J r_.b<|d0.tmod (r_.b.length:Int)) ty5 Z)<|jW h λg12 h=>fN Z (M0.iconv ty5.und Tryz.underlying3 Z g12)<|jW h λg13 h=>fN Z (M0.mul Z Z g13)<|fN Z mv<|fN Z (nl Z)<|fN Z (fa xX Z)<|fR [0] Z (λG hG=>EvA.loadhp (eL cY r_.b) I9 Z (hG.a0 Z) Z Z Z Z)<|fN Z mv<|jW h λg14 h=>fN Z (M0.mul Z Z g14)<|jW h λg15 h=>fN Z (M0.add Z Z g15)<|fN Z mv ?_;refine fN Z (nl Z)<|fN Z (fa xX Z)<|fR [0] Z (λG hG=>EvA.loadhp (eL cY r_.b) I9 Z (hG.a0 Z) Z Z Z Z)<|fN Z (M0.lenL Ff Z)<|fN Z (M0.rem Z Z g10)<|jD h λg16 h=>fN Z (M0.ixL Ff Z Z g16 qD)<|fN Z (lf (Y<|J r_.b<|((d0*(7:Int))+(3:Int)).tmod (r_.b.length:Int)) ty5 Z)<|jW h λg17 h=>fN Z (M0.iconv ty5.und Tryz.underlying3 Z g17)<|jW h λg18 h=>fN Z (M0.mul Z Z g18)<|jW h λg19 h=>fN Z (M0.add Z Z g19)<|fN Z mv<|jW h λg20 h=>?_;refine fN Z (M0.mul Z Z g20)<|jW h λg21 h=>fN Z (M0.add Z Z g21)<|fN Z mv<|fN Z mv<|fN Z (nl Z)<|fN Z (fa xX Z)<|fR [0] Z (λG hG=>EvA.loadhp (eL cY r_.b) I9 Z (hG.a0 Z) Z Z Z Z)<|fN Z (M0.lenL Ff Z)<|jW h λg22 h=>fN Z (M0.quo Z Z g10 g22)<|jW h λg23 h=>fN Z (M0.mul Z Z g23)<|jW h λg24 h=>fN Z (M0.add Z Z g24)<|fN Z as' ?_;refine jR<|jH<|T.clean (H0:=[Nn ⟨aI,2,157,[[eL cY r_.b,I (r_.p+V)]]⟩]) (e0:=ak [(6,I<|((((J r_.b<|d0.tmod (r_.b.length:Int))*(131:Int))+((J r_.b<|((d0*(7:Int))+(3:Int)).tmod (r_.b.length:Int))*(1117:Int)))+(d0*(29:Int)))+((d0.tdiv (r_.b.length:Int))*(53:Int))),(1,I n)]) Z (MZ Z<|MZ Z wkN)<|jC<|oN mv<|oN mv<|jD h λg25 h=>jW h λg26 h=>oN (M0.quo Z Z g25 g26)<|jB h λw27 ew27 h=>?_;replace ew27:=osi ew27;refine oN (M0.res (M0.bxor Z Z) (r':=I w27) λ_ _ hr=>by rw [<- ew27];exact hr)<|oN as'<|jA<|jI<|oN mv<|oN mv<|jD h λg28 h=>oN (M0.rem Z Z g28)<|oN as'<|jA<|jK ?_;obtain rfl:=M4 h
 repeat (first|refine lD ?_|refine lF ?_)
 exact ⟨ak [(4,I<|w27.tmod n)],[Nn ⟨aI,2,157,[(ah.c (⟨r_.b,(r_.p+V)⟩:ah))]⟩],kw Z Z,jQ (vs:=[I (w27.tmod n)]) (.cons (.tmp Z) .nil) ⟨Z,Z⟩⟩
theorem cm (r_:ah) (list:LI) (aI:Nat) {q} (h:bC r_ list=Nn q):f8 Nr 113 [.hp 0 aI 2 0 0,eL cI list] [Nn ⟨aI,2,157,[(ah.c r_)]⟩] (I q.2) [Nn ⟨aI,2,157,[(ah.c q.1)]⟩]:=by
 refine aM func113 Z (by kernel_rfl) Z<|jI<|oN as'<|jA<|jI<|oN mv<|oN mv<|oN mv<|oN (M0.lenL zy Z)<|jB h λv1 cv1 h=>oA (EvA.call Z Z Z<|(aS (⟨r_.b,r_.p⟩:ah) (list.length:Int) aI cv1).one 0 Z (.cons (.hp Z)<|.cons (.pF Z) .nil) (au Z) (au Z) Z)<|jD h λg2 h=>oN (M0.ixL zy Z Z g2 qD)<|oN (lf (I<|J list v1.2) ty3 Z)<|oN as'<|jA ?_;refine jK ?_;obtain rfl:=M4 h
 repeat (first|refine lD ?_|refine lF ?_)
 exact ⟨ak [(4,I<|J list v1.2)],[Nn ⟨aI,2,157,[(ah.c (⟨v1.1.b,v1.1.p⟩:ah))]⟩],kw Z Z,jQ (vs:=[I (J list v1.2)]) (.cons (.tmp Z) .nil) ⟨Z,Z⟩⟩
theorem xn (r_:ah) (p:List<|List M5) (aI:Nat) {q} (h:jh r_ p=Nn q):f8 Nr 64 [.hp 0 aI 2 0 0,eL (cL M5.c) p] [Nn ⟨aI,2,157,[[eL cY r_.b,I r_.p]]⟩] (eL (cL M5.c) q.2) [Nn ⟨aI,2,157,[[eL cY q.1.b,I q.1.p]]⟩]:=by
 refine f8.mkT func64 Z (by kernel_rfl) Z (by kernel_rfl) (e0:=ak [(0,.hp 0 aI 2 0 0),(1,eL (cL M5.c) p)]) (MZ Z<|MZ Z wkN) ?_;unfold jh at h;obtain ⟨hp,h⟩:=gdL h;obtain ⟨hp1,hp2⟩:=Ek hp;refine jH ?_;refine jC ?_;refine oN (M0.asg (.nil) Z) ?_;refine jA ?_;refine jH ?_;refine jC ?_;refine oN (M0.mv (eL (cL M5.c) p) Z) ?_;refine oGN (m:=1) Z Z Z Z M5.isF ((G6 p hp).ownN Z M5.isF nB 1 Z) λver gh K hN hK=>?_;clear hK;replace hN:NK 2 (Nn ⟨aI,2,157,[[eL cY r_.b,I r_.p]]⟩::Nn ⟨ver,1,73,cO gh 4 p⟩::K) gh 4 79 M5.c p:=hN;refine TO.clean (H0:=some ⟨aI,2,157,[[eL cY r_.b,I r_.p]]⟩::Nn ⟨ver,1,73,cO gh 4 p⟩::K) (e0:=ak [(8,hS Nl 1 ver 1 p.length),(0,.hp 0 aI 2 0 0)]) Z (MZ Z<|MZ Z wkN) ?_;refine oN (M0.asg (hS Nl 1 ver 1 p.length) Z) ?_;refine jA ?_;refine jH ?_;refine jH ?_;refine jC ?_;refine oN (M0.mv (hS Nl 1 ver 1 p.length) Z) ?_;refine oN (M0.lenO (g:=false) vK Z nofun) ?_;refine oN (M0.ieq Z Z) ?_;refine jA ?_;refine T.cond Z (λqz=>?_) λqz=>?_
 ·have h0:p.length=0:=by have := eq_of_beq qz;omega
  replace h:=CJ (show Nat.beq p.length 0=Nk by rw [h0];rfl) h;refine jH ?_;refine jC ?_;refine oN (M0.mv (hS Nl 1 ver 1 p.length) Z) ?_;refine oN (M0.asg (hS Nl 1 ver 1 p.length) Z) ?_;refine jA ?_;refine jK ?_;obtain rfl:=osl h
  repeat first | refine lD ?_ | refine lF ?_
  exact ⟨ak [(4,eL (cL M5.c) p)],[Nn ⟨aI,2,157,[[eL cY r_.b,I r_.p]]⟩],qZ Z (.cons (.row<|.cons (.fz<|qC Z)<|.cons (.fz<|qC Z) .nil) .nil)<|aj (.fz<|hN.fzm Z Z Z Z M5.isF) bg,jQ (vs:=[eL (cL M5.c) p]) (.cons (.tmp Z) .nil) ⟨Z,Z⟩⟩
 have h0:p.length≠0:=λh0=>by rw [h0] at qz;exact absurd qz (by decide)
 replace h:=CK (show Nat.beq p.length 0=Nl by cases hc:p.length with | zero=>exact absurd hc h0 | succ n=>rfl) h;refine jG ?_;refine jH ?_;refine jC ?_;refine oN (M0.mv (.hp 0 aI 2 0 0) Z) ?_;refine oN (M0.mv (hS Nl 1 ver 1 p.length) Z) ?_;refine oN (M0.lenO (g:=false) vK Z nofun) ?_;obtain ⟨v1,cv1,h⟩:=BM h;refine oA (EvA.call Z Z Z<|(aS r_ (p.length:Int) aI cv1).one 0 Z (.cons (.hp Z)<|.cons (.pF Z) .nil) (au Z) (au Z) Z) ?_;refine oN (M0.asg (I v1.2) Z) ?_;refine jA ?_;refine T.joinF (G:=Unit) (λ_=>True) (λ_=>[(5,eL (cL M5.c) q.2)]) (λ_=>[Nn ⟨aI,2,157,[[eL cY q.1.b,I q.1.p]]⟩]) (λ_ _=>?_) ?_
 ·clear h;refine jH ?_;refine jC ?_;refine oN (M0.mv (eL (cL M5.c) q.2) Z) ?_;refine oN (M0.asg (eL (cL M5.c) q.2) Z) ?_;refine jA ?_;refine jK ?_
  repeat first | refine lD ?_ | refine lF ?_
  exact ⟨ak [(4,eL (cL M5.c) q.2)],[Nn ⟨aI,2,157,[[eL cY q.1.b,I q.1.p]]⟩],zO Z<|MZ Z wkN,jQ (vs:=[eL (cL M5.c) q.2]) (.cons (.tmp Z) .nil) ⟨Z,Z⟩⟩
 refine jH ?_;refine jC ?_;refine oN (M0.mv (.hp 0 aI 2 0 0) Z) ?_;obtain ⟨v2,cv2,h⟩:=BM h;refine oA (EvA.call Z Z Z<|(aS v1.1 (40:Int) aI cv2).one 0 Z (.cons (.hp Z)<|.cons (.pF Z) .nil) (au Z) (au Z) Z) ?_;refine jA ?_;obtain ⟨hi,h⟩:=gdD h;refine T.clean (H0:=some ⟨aI,2,157,[[eL cY v2.1.b,I v2.1.p]]⟩::Nn ⟨ver,1,73,cO gh 4 p⟩::K) (e0:=ak [(18,I v2.2),(6,I v1.2),(5,hS Nl 1 ver 1 p.length),(0,.hp 0 aI 2 0 0)]) Z (MZ Z<|MZ Z<|MZ Z<|MZ Z wkN) ?_
 replace hN:NK 2 (Nn ⟨aI,2,157,[[eL cY v2.1.b,I v2.1.p]]⟩::Nn ⟨ver,1,73,cO gh 4 p⟩::K) gh 4 79 M5.c p:=hN.low λb hb _=>by match b,hb with | b+2,_=>rfl
 have hin:v1.2.toNat<p.length:=by omega
 clear cv1 cv2 hp;refine jE ?_;refine jH ?_;refine jC ?_;refine oN (M0.ieq Z Z) ?_;refine oN (M0.asg (Bo<|v2.2==U) Z) ?_;refine jA ?_;refine T.cond Z (λq0=>?_) λq0=>?_
 ·replace h:=CJ q0 h;obtain ⟨g,k,v,hg,hk,hK,hnil⟩:=hN.row (i:=v1.2.toNat) hin;have hlen:=hp2 v1.2.toNat;unfold Hn at h;generalize hrw:p.getD v1.2.toNat []=row at hK hnil h hlen;refine jP (λi=>[([],Nl),([],Nl),([],Nl),([],Nl),([],Nl),([1],Nl),([],Nl),([],Nl),([0],Nk),([],Nl),([],Nl),([0],Nk),([],Nl),([],Nl),([k+2],Nk),([],Nl),([1],Nk)].getD i ([],Nl)) (by kernel_rfl) (by kernel_rfl) ?_;refine fN Z (M0.mv (hS Nl 1 ver 1 p.length) Z) ?_;refine fN Z (M0.mv (I v1.2) Z) ?_;refine fN Z (M0.mv (hS Nl 1 ver 1 p.length) Z) ?_;refine fN Z (M0.mv (I v1.2) Z) ?_;refine fN Z (M0.ixO (g:=false) vK Z Z nofun hi) ?_;refine fR [1] Z (λG hG=>EvA.loadhp (hS g (k+2) v 4 row.length) Fe Z (hG.a0 Z) Z Z (show (cO gh 4 p)[v1.2.toNat]? = Nn [hS g (k+2) v 4 row.length] by rw [cQ hin,BQ,hg,hrw]) Z) ?_;refine fN Z (M0.mv (.hp 0 aI 2 0 0) Z) ?_;refine fN Z (M0.mkF (c:=cI) ([(0:Int),(6:Int),V,(4:Int)]:LI) [[I U],[I (6:Int)],[I V],[I (4:Int)]] zy Z Z Z qD qD Z) ?_;obtain ⟨a,ca,h⟩:=BM h;refine fW 0 [] Z Z (λG hG=>EvA.call Z Z Z<|(cm v2.1 ([(0:Int),(6:Int),V,(4:Int)]:LI) aI ca).one 0 (hG.a0 Z) (.cons (.hp Z)<|.cons (.pF Z) .nil) (au Z) (au Z) Z) ?_;refine fN Z (M0.mv (.hp 0 aI 2 0 0) Z) ?_;refine fN Z (M0.mkF (c:=cI) ([(0:Int),(3:Int),(-1:Int)]:LI) [[I U],[I (3:Int)],[I (-1:Int)]] zy Z Z Z qD qD Z) ?_;obtain ⟨b,cb,h⟩:=BM h;refine fW 0 [] Z Z (λG hG=>EvA.call Z Z Z<|(cm a.1 ([(0:Int),(3:Int),(-1:Int)]:LI) aI cb).one 0 (hG.a0 Z) (.cons (.hp Z)<|.cons (.pF Z) .nil) (au Z) (au Z) Z) ?_;refine fN Z (M0.build [I a.2,I b.2,I U,I U] Tryz.underlying79 Li Mc Z Z) ?_;refine fN Z (M0.mkF (c:=M5.c) ([(⟨a.2,b.2,U,U⟩:M5)]:List M5) [[I a.2,I b.2,I U,I U]] Bu Z Z Z qD M5.isF Z) ?_;refine fW (k+2) [] Z (Sz<|by simp;omega) (λG hG=>EvA.app1 (g:=g) (l:=row) (⟨a.2,b.2,(0:Int),(0:Int)⟩:M5) Bu (by kernel_rfl) Z Z (hG.a0 hK) hnil (dN.fz (l:=[(⟨a.2,b.2,(0:Int),(0:Int)⟩:M5)]) Z qD)<|AA (by omega) Z) ?_;refine fN Z (M0.ixO (g:=false) vK Z Z nofun hi) ?_;refine fV 1 [] Z Z (λG hG=>EvA.st ⟨ver,1,73,(cO gh 4 p).set v1.2.toNat [hS Nl (k+2) (v+1) 4 (row++[(⟨a.2,b.2,U,U⟩:M5)]).length]⟩ Fe Z Z (hG.a0 Z) Z Z (show (cO gh 4 p)[v1.2.toNat]? = Nn [hS g (k+2) v 4 row.length] by rw [cQ hin,BQ,hg,hrw]) Z Z Z) ?_;refine jR ?_;obtain rfl:=osl h;have hN2:=hN.turn (r':=Nn ⟨aI,2,157,[[eL cY b.1.b,I b.1.p]]⟩) (o':=Nn ⟨ver,1,73,cO (gh.put v1.2.toNat (Nl,k+2,v+1)) 4<|p.set v1.2.toNat<|row++[(⟨a.2,b.2,U,U⟩:M5)]⟩) hin hg (g':=Nl) (v':=v+1) (x:=row++[(⟨a.2,b.2,U,U⟩:M5)]) nofun;rw [<- tC hin] at hN2;refine ⟨(),trivial,qZ Z (.cons (.row<|.cons (.fz<|qC Z)<|.cons (.fz<|qC Z) .nil) .nil)<|aj (.fz<|hN2.fzm (to:=73) Z Z ?_ (by simp) M5.isF) bg⟩;rw [<- tC hin]
  rfl
 replace h:=CK q0 h;refine jH ?_;refine jC ?_;refine oN (M0.ieq Z Z) ?_;refine oN (M0.asg (Bo<|v2.2==V) Z) ?_;refine jA ?_;refine T.cond Z (λq1=>?_) λq1=>?_
 ·replace h:=CJ q1 h;obtain ⟨g,k,v,hg,hk,hK,hnil⟩:=hN.row (i:=v1.2.toNat) hin;have hlen:=hp2 v1.2.toNat;unfold Hn at h;generalize hrw:p.getD v1.2.toNat []=row at hK hnil h hlen;refine jP (λi=>[([],Nl),([],Nl),([],Nl),([],Nl),([],Nl),([1],Nl),([],Nl),([],Nl),([0],Nk),([],Nl),([],Nl),([k+2],Nk),([],Nl),([1],Nk)].getD i ([],Nl)) (by kernel_rfl) (by kernel_rfl) ?_;refine fN Z (M0.mv (hS Nl 1 ver 1 p.length) Z) ?_;refine fN Z (M0.mv (I v1.2) Z) ?_;refine fN Z (M0.mv (hS Nl 1 ver 1 p.length) Z) ?_;refine fN Z (M0.mv (I v1.2) Z) ?_;refine fN Z (M0.ixO (g:=false) vK Z Z nofun hi) ?_;refine fR [1] Z (λG hG=>EvA.loadhp (hS g (k+2) v 4 row.length) Fe Z (hG.a0 Z) Z Z (show (cO gh 4 p)[v1.2.toNat]? = Nn [hS g (k+2) v 4 row.length] by rw [cQ hin,BQ,hg,hrw]) Z) ?_;refine fN Z (M0.mv (.hp 0 aI 2 0 0) Z) ?_;refine fN Z (M0.mkF (c:=cI) ([(4:Int),(-1:Int),(3:Int)]:LI) [[I (4:Int)],[I (-1:Int)],[I (3:Int)]] zy Z Z Z qD qD Z) ?_;obtain ⟨a,ca,h⟩:=BM h;refine fW 0 [] Z Z (λG hG=>EvA.call Z Z Z<|(cm v2.1 ([(4:Int),(-1:Int),(3:Int)]:LI) aI ca).one 0 (hG.a0 Z) (.cons (.hp Z)<|.cons (.pF Z) .nil) (au Z) (au Z) Z) ?_;refine fN Z (M0.build [I (2:Int),I U,I U,I a.2] Tryz.underlying79 Li Mc Z Z) ?_;refine fN Z (M0.mkF (c:=M5.c) ([(⟨(2:Int),U,U,a.2⟩:M5)]:List M5) [[I (2:Int),I U,I U,I a.2]] Bu Z Z Z qD M5.isF Z) ?_;refine fW (k+2) [] Z (Sz<|by simp;omega) (λG hG=>EvA.app1 (g:=g) (l:=row) (⟨(2:Int),(0:Int),(0:Int),a.2⟩:M5) Bu (by kernel_rfl) Z Z (hG.a0 hK) hnil (dN.fz (l:=[(⟨(2:Int),(0:Int),(0:Int),a.2⟩:M5)]) Z qD)<|AA (by omega) Z) ?_;refine fN Z (M0.ixO (g:=false) vK Z Z nofun hi) ?_;refine fV 1 [] Z Z (λG hG=>EvA.st ⟨ver,1,73,(cO gh 4 p).set v1.2.toNat [hS Nl (k+2) (v+1) 4 (row++[(⟨(2:Int),U,U,a.2⟩:M5)]).length]⟩ Fe Z Z (hG.a0 Z) Z Z (show (cO gh 4 p)[v1.2.toNat]? = Nn [hS g (k+2) v 4 row.length] by rw [cQ hin,BQ,hg,hrw]) Z Z Z) ?_;refine jR ?_;obtain rfl:=osl h;have hN2:=hN.turn (r':=Nn ⟨aI,2,157,[[eL cY a.1.b,I a.1.p]]⟩) (o':=Nn ⟨ver,1,73,cO (gh.put v1.2.toNat (Nl,k+2,v+1)) 4<|p.set v1.2.toNat<|row++[(⟨(2:Int),U,U,a.2⟩:M5)]⟩) hin hg (g':=Nl) (v':=v+1) (x:=row++[(⟨(2:Int),U,U,a.2⟩:M5)]) nofun;rw [<- tC hin] at hN2;refine ⟨(),trivial,qZ Z (.cons (.row<|.cons (.fz<|qC Z)<|.cons (.fz<|qC Z) .nil) .nil)<|aj (.fz<|hN2.fzm (to:=73) Z Z ?_ (by simp) M5.isF) bg⟩;rw [<- tC hin]
  rfl
 replace h:=CK q1 h;refine jH ?_;refine jC ?_;refine oN (M0.ieq Z Z) ?_;refine oN (M0.asg (Bo<|v2.2==(2:Int)) Z) ?_;refine jA ?_;refine T.cond Z (λq2=>?_) λq2=>?_
 ·replace h:=CJ q2 h;refine jE ?_;refine jO (S:=Nat) (G:=NG×AH×Nat) (E:=Nat) (x:=4-p.length) (λj=>if p.length+j<=3 then Nn (.inl<|j+1) else Nn (.inr j)) (λj g=>j<=4-p.length/\NK 2 (Nn ⟨aI,2,157,[[eL cY v2.1.b,I v2.1.p]]⟩::Nn ⟨g.2.2,1,73,cO g.1 4<|p++RL j []⟩::g.2.1) g.1 4 79 M5.c (p++RL j [])) (λj g=>[(5,hS Nl 1 g.2.2 1 (p++RL j []).length)]) (λj g=>Nn ⟨aI,2,157,[[eL cY v2.1.b,I v2.1.p]]⟩::Nn ⟨g.2.2,1,73,cO g.1 4<|p++RL j []⟩::g.2.1) (s0:=0) (gh,K,ver) (yY (λi=>i) (4-p.length) (λi hi=>by rw [if_pos (by omega)])<|by rw [if_neg (by omega)]) ⟨RP _,by simpa using hN⟩ (zO (by simp)<|MZ (by simp;rfl) wkN) (λj g z hz hinv=>?_);obtain ⟨gh,K,ver⟩:=g;obtain ⟨hle,hN⟩:=hinv;simp only at hN;have hll:(p++RL j []).length=p.length+j:=by simp
  have htk:p++RL (j+1) []=(p++RL j [])++[([]:List M5)]:=by rw [SA,R6]
  generalize hl:(p++RL j [])=l at hN hll htk ⊢;refine jH ?_;refine jH ?_;refine jC ?_;refine oN (M0.mv (hS Nl 1 ver 1 l.length) Z) ?_;refine oN (M0.lenO (g:=false) vK Z nofun) ?_;refine oN (M0.ile Z Z) ?_;refine jA ?_;refine T.cond Z (λqa=>?_) λqa=>?_
  ·have hj:p.length+j<=3:=by have := of_decide_eq_true qa;omega
   rw [if_pos hj] at hz;obtain rfl:=osl hz;refine jG ?_;refine jE ?_;refine jC ?_;refine oN (M0.mv (hS Nl 1 ver 1 l.length) Z) ?_;refine oA (EvA.mkO (c:=M5.c) (b:=K.length+2) ([]:List M5) [] Bu Z Z Z qD Z Z) ?_;refine TO.clean (H0:=some ⟨aI,2,157,[[eL cY v2.1.b,I v2.1.p]]⟩::Nn ⟨ver,1,73,cO gh 4 l⟩::(K++[bE Nl 0 4 79 (([]:List M5).map M5.c)])) (e0:=ak [(58,hS Nl (K.length+2) 0 4 0),(57,hS Nl 1 ver 1 l.length)]) Z (MZ Z<|MZ Z wkN) ?_;refine oA (EvA.mkR (b:=(K++[bE Nl 0 4 79 (([]:List M5).map M5.c)]).length+2) [[hS Nl (K.length+2) 0 4 0]] vK Z Z Z Z) ?_;refine oA (EvA.appR (g:=false) (rows:=cO gh 4 l) (rows':=cO gh 4 l++[[hS Nl (K.length+2) 0 4 0]]) (n':=l.length+1) vK (by kernel_rfl) Z Z (dO gh 4 l).symm nofun (dN.raw (rows:=[[hS Nl (K.length+2) 0 4 0]]) Z (AZ (H:=_::_::(K++[_]))) Z) (AA (by simp;omega) Z) Z Z) ?_;refine oN (M0.asg (hS Nl 1 (ver+1) 1<|l.length+1) Z) ?_;refine jA ?_;refine ⟨j+1,(gh.put l.length (Nl,K.length+2,0),K++[bE Nl 0 4 79 (([]:List M5).map M5.c)]++[Nn ⟨0,1,73,[[hS Nl (K.length+2) 0 4 0]]⟩],ver+1),Z,⟨by omega,?_⟩,zO ?_<|MZ ?_ wkN⟩
   ·rw [htk];refine hN.snoc (id:=K.length+2) (by simp) (by omega) (λb h1 h2=>?_) ?_ qD
    ·match b,h1 with
     | b+2,_=>
      simp only [llc,Sy] at h2;simp only [RZ,R6];exact gal h2
    simp only [RZ];exact BR
   ·show _::Nn (ABlk.mk _ _ _<|cO _ 4<|p++RL (j+1) [])::_=_;rw [htk,<- Ae]
    rfl
   show hS Nl 1 (ver+1) 1 (l.length+1)=hS Nl 1 (ver+1) 1 (p++RL (j+1) []).length;rw [htk,lla]
   rfl
  have hj : ¬ p.length+j<=3:=by have := of_decide_eq_false qa;omega
  rw [if_neg hj] at hz;obtain rfl:=osl hz;refine jM ?_;refine ⟨_,Z,λhe=>?_⟩;subst he;obtain rfl:=osl h;subst hl;exact ⟨(),trivial,qZ Z (.cons (.row<|.cons (.fz<|qC Z)<|.cons (.fz<|qC Z) .nil) .nil)<|aj (.fz<|hN.fzm Z Z Z Z M5.isF) bg⟩
 replace h:=CK q2 h;refine jH ?_;refine jC ?_;refine oN (M0.ieq Z Z) ?_;refine oN (M0.asg (Bo<|v2.2==(3:Int)) Z) ?_;refine jA ?_;refine T.cond Z (λq3=>?_) λq3=>?_
 ·replace h:=CJ q3 h;have hlen:=hp2 v1.2.toNat;unfold Hn at h;have hset:p.set v1.2.toNat (p.getD v1.2.toNat [])=p:=by simp [hin]
  generalize hrw0:p.getD v1.2.toNat []=row0 at h hlen hset;refine jE ?_;refine jO (S:=Nat) (G:=NG×AH) (E:=Nat) (x:=8-row0.length) (λj=>if row0.length+j<=7 then Nn (.inl<|j+1) else Nn (.inr j)) (λj g=>j<=8-row0.length/\NK 2 (Nn ⟨aI,2,157,[[eL cY v2.1.b,I v2.1.p]]⟩::Nn ⟨ver,1,73,cO g.1 4<|p.set v1.2.toNat<|row0++RL j (⟨1,0,0,0⟩:M5)⟩::g.2) g.1 4 79 M5.c (p.set v1.2.toNat<|row0++RL j (⟨1,0,0,0⟩:M5))) (λj g=>[(6,I v1.2),(5,hS Nl 1 ver 1 p.length)]) (λj g=>Nn ⟨aI,2,157,[[eL cY v2.1.b,I v2.1.p]]⟩::Nn ⟨ver,1,73,cO g.1 4<|p.set v1.2.toNat<|row0++RL j (⟨1,0,0,0⟩:M5)⟩::g.2) (s0:=0) (gh,K) (yY (λi=>i) (8-row0.length) (λi hi=>by rw [if_pos (by omega)])<|by rw [if_neg (by omega)]) ⟨RP _,by simpa [hset] using hN⟩ (zO (by simp [hset])<|MZ Z<|MZ Z wkN) λj g z hz hinv=>?_;obtain ⟨gh,K⟩:=g;obtain ⟨hle,hN⟩:=hinv;simp only at hN;have hin2:v1.2.toNat<(p.set v1.2.toNat<|row0++RL j (⟨1,0,0,0⟩:M5)).length:=by simp [hin]
  have hgt:(p.set v1.2.toNat<|row0++RL j (⟨1,0,0,0⟩:M5)).getD v1.2.toNat []=(row0++RL j (⟨1,0,0,0⟩:M5)):=by simp [hin]
  have hrl:(row0++RL j (⟨1,0,0,0⟩:M5)).length=row0.length+j:=by simp
  have hnx:∀ x,((p.set v1.2.toNat<|row0++RL j (⟨1,0,0,0⟩:M5))).set v1.2.toNat x=p.set v1.2.toNat x:=λx=>by simp
  have htk:row0++RL (j+1) (⟨1,0,0,0⟩:M5)=(row0++RL j (⟨1,0,0,0⟩:M5))++[(⟨1,0,0,0⟩:M5)]:=by rw [SA,R6]
  obtain ⟨g,k,v,hg,hk,hK,hnil⟩:=hN.row (i:=v1.2.toNat) hin2;rw [hgt] at hK hnil;have hpl:(p.set v1.2.toNat<|row0++RL j (⟨1,0,0,0⟩:M5)).length=p.length:=by simp
  generalize hrw:(row0++RL j (⟨1,0,0,0⟩:M5))=row at hN hin2 hgt hrl hnx htk hK hnil hpl ⊢;generalize hl:p.set v1.2.toNat row=l at hN hin2 hgt hnx hpl ⊢;refine jH ?_;refine jH ?_;refine jC ?_;refine oN (M0.mv (hS Nl 1 ver 1 p.length) Z) ?_;refine oN (M0.mv (I v1.2) Z) ?_;refine oN (M0.ixO (g:=false) vK Z Z nofun hi) ?_;refine oA (EvA.loadhp (hS g (k+2) v 4 row.length) Fe Z Z Z Z (show (cO gh 4 l)[v1.2.toNat]? = Nn [hS g (k+2) v 4 row.length] by rw [cQ hin2,BQ,hg,hgt]) Z) ?_;refine oN (M0.lenO (g:=g) Bu Z λx=>by rw [hnil x];rfl) ?_;refine oN (M0.ile Z Z) ?_;refine jA ?_;refine T.cond Z (λqa=>?_) λqa=>?_
  ·have hj:row0.length+j<=7:=by have := of_decide_eq_true qa;omega
   rw [if_pos hj] at hz;obtain rfl:=osl hz;refine jG ?_;refine jE ?_;refine jC ?_;refine oN (M0.mv (hS Nl 1 ver 1 p.length) Z) ?_;refine oN (M0.mv (I v1.2) Z) ?_;refine oN (M0.mv (hS Nl 1 ver 1 p.length) Z) ?_;refine oN (M0.mv (I v1.2) Z) ?_;refine oN (M0.ixO (g:=false) vK Z Z nofun hi) ?_;refine oA (EvA.loadhp (hS g (k+2) v 4 row.length) Fe Z Z Z Z (show (cO gh 4 l)[v1.2.toNat]? = Nn [hS g (k+2) v 4 row.length] by rw [cQ hin2,BQ,hg,hgt]) Z) ?_;refine oN (M0.build [I V,I U,I U,I U] Tryz.underlying79 Li Mc Z Z) ?_;refine oN (M0.mkF (c:=M5.c) ([(⟨1,0,0,0⟩:M5)]:List M5) [[I V,I U,I U,I U]] Bu Z Z Z qD M5.isF Z) ?_;refine oA (EvA.app1 (g:=g) (l:=row) (⟨1,0,0,0⟩:M5) Bu (by kernel_rfl) Z Z hK hnil (dN.fz (l:=[(⟨1,0,0,0⟩:M5)]) Z qD)<|AA (by omega) Z) ?_;refine oN (M0.ixO (g:=false) vK Z Z nofun hi) ?_;refine oV (EvA.st ⟨ver,1,73,(cO gh 4 l).set v1.2.toNat [hS Nl (k+2) (v+1) 4 (row++[(⟨1,0,0,0⟩:M5)]).length]⟩ Fe Z Z Z Z Z (show (cO gh 4 l)[v1.2.toNat]? = Nn [hS g (k+2) v 4 row.length] by rw [cQ hin2,BQ,hg,hgt]) Z Z Z) ?_;refine jA ?_;have hN2:=hN.turn (r':=Nn ⟨aI,2,157,[[eL cY v2.1.b,I v2.1.p]]⟩) (o':=Nn ⟨ver,1,73,cO (gh.put v1.2.toNat (Nl,k+2,v+1)) 4<|l.set v1.2.toNat<|row++[(⟨1,0,0,0⟩:M5)]⟩) hin2 hg (g':=Nl) (v':=v+1) (x:=row++[(⟨1,0,0,0⟩:M5)]) nofun;refine ⟨j+1,(gh.put v1.2.toNat (Nl,k+2,v+1),K.set k<|bE Nl (v+1) 4 79<|(row++[(⟨1,0,0,0⟩:M5)]).map M5.c),Z,⟨by omega,?_⟩,zO ?_<|MZ Z<|MZ Z wkN⟩
   ·rw [hnx] at hN2;rw [htk];exact hN2
   show _::Nn (ABlk.mk _ _ _<|cO _ 4<|p.set v1.2.toNat<|row0++RL (j+1) (⟨1,0,0,0⟩:M5))::_=_;rw [htk,<- hnx,<- tC hin2]
   rfl
  have hj : ¬ row0.length+j<=7:=by have := of_decide_eq_false qa;omega
  rw [if_neg hj] at hz;obtain rfl:=osl hz;refine jM ?_;refine ⟨_,Z,λhe=>?_⟩;subst he;obtain rfl:=osl h;subst hrw;subst hl;exact ⟨(),trivial,qZ Z (.cons (.row<|.cons (.fz<|qC Z)<|.cons (.fz<|qC Z) .nil) .nil)<|aj (.fz<|hN.fzm Z Z Z (by simp) M5.isF) bg⟩
 replace h:=CK q3 h;refine jH ?_;refine jC ?_;refine oN (M0.ieq Z Z) ?_;refine oN (M0.asg (Bo<|v2.2==(4:Int)) Z) ?_;refine jA ?_;refine T.cond Z (λq4=>?_) λq4=>?_
 ·replace h:=CJ q4 h;refine T.cut (e0:=ak [(5,eL (cL M5.c) p)]) (H0:=[Nn ⟨aI,2,157,[[eL cY v2.1.b,I v2.1.p]]⟩]) (qZ Z (.cons (.row<|.cons (.fz<|qC Z)<|.cons (.fz<|qC Z) .nil) .nil)<|aj (.fz<|hN.fzm Z Z Z Z M5.isF) bg) ?_;refine jC ?_;refine oN (M0.mv (eL (cL M5.c) p) Z) ?_;refine oN (M0.slL vK Z (.yes Z) .no ⟨by omega,by omega,by omega⟩ qD) ?_;refine oN (M0.asg (eL (cL M5.c)<|(p.drop 1).take<|p.length-1) Z) ?_;refine jA ?_;obtain rfl:=osl h;exact ⟨(),trivial,zO Z<|MZ Z wkN⟩
 replace h:=CK q4 h;refine jG ?_;obtain rfl:=osl h;exact ⟨(),trivial,qZ Z (.cons (.row<|.cons (.fz<|qC Z)<|.cons (.fz<|qC Z) .nil) .nil)<|aj (.fz<|hN.fzm Z Z Z Z M5.isF) bg⟩
open Go.Shelf Go.RowKit Go.Lib
def Jc:Go.Shelf.Ren:=⟨λ| 156=>103 | 165=>172 | 166=>173 | 169=>174 | 240=>237 | 241=>238 | 276=>273 | 277=>274 | n=>n,λ| 31=>51 | 9=>9 | 3=>3 | 4=>4 | 0=>0 | 20=>20 | 72=>198 | 76=>201 | 70=>196 | 37=>22 | 75=>200 | 127=>242 | 164=>264 | 5=>5 | 80=>203 | n=>n,λ| n=>n⟩
theorem Jd:Go.Proofs.Lays.n156 Nr Jc where
 mixed:=by kernel_rfl
 f156:=func103.trans<|congrArg Nn (by kernel_rfl)
 f165:=func172.trans<|congrArg Nn (by kernel_rfl)
 f166:=func173.trans<|congrArg Nn (by kernel_rfl)
 f169:=func174.trans<|congrArg Nn (by kernel_rfl)
 f240:=func237.trans<|congrArg Nn (by kernel_rfl)
 f241:=func238.trans<|congrArg Nn (by kernel_rfl)
 f276:=func273.trans<|congrArg Nn (by kernel_rfl)
 f277:=func274.trans<|congrArg Nn (by kernel_rfl)
 t0:=Tryz.underlying0
 a0:=Tryz.isAgg0
 z0:=Tryz.sizeOf0
 v0:=Tryz.zeroValue0
 t3:=Tryz.underlying3
 a3:=Tryz.isAgg3
 z3:=Tryz.sizeOf3
 v3:=Tryz.zeroValue3
 t4:=Tryz.underlying4
 a4:=Tryz.isAgg4
 z4:=Tryz.sizeOf4
 v4:=Tryz.zeroValue4
 t9:=Tryz.underlying9
 a9:=Tryz.isAgg9
 z9:=Tryz.sizeOf9
 v9:=Tryz.zeroValue9
 t20:=Tryz.underlying20
 a20:=Tryz.isAgg20
 z20:=Tryz.sizeOf20
 v20:=Tryz.zeroValue20
 t31:=Tryz.underlying51
 a31:=Tryz.isAgg51
 z31:=Tryz.sizeOf51
 v31:=Tryz.zeroValue51
 t37:=Tryz.underlying22
 a37:=Tryz.isAgg22
 z37:=Tryz.sizeOf22
 v37:=Tryz.zeroValue22
 t70:=Tryz.underlying196
 a70:=Tryz.isAgg196
 z70:=Tryz.sizeOf196
 v70:=Tryz.zeroValue196
 t72:=Tryz.underlying198
 a72:=Tryz.isAgg198
 z72:=Tryz.sizeOf198
 v72:=Tryz.zeroValue198
 t75:=Tryz.underlying200
 a75:=Tryz.isAgg200
 z75:=Tryz.sizeOf200
 v75:=Tryz.zeroValue200
 t76:=Tryz.underlying201
 a76:=Tryz.isAgg201
 z76:=Tryz.sizeOf201
 v76:=Tryz.zeroValue201
 t127:=Tryz.underlying242
 a127:=Tryz.isAgg242
 z127:=Tryz.sizeOf242
 v127:=Tryz.zeroValue242
 t164:=Tryz.underlying264
 a164:=Tryz.isAgg264
 z164:=Tryz.sizeOf264
 v164:=Tryz.zeroValue264
theorem MC:Builder.Extra Nr Jc where
 sizeBuilder:=by kernel_rfl
 liesBuilder:=by kernel_rfl
 t5:=Tryz.underlying5
 a5:=Tryz.isAgg5
 z5:=Tryz.sizeOf5
 v5:=Tryz.zeroValue5
 infoByte:=by kernel_rfl
 cellsByte:=by kernel_rfl
 sizeByte:=by kernel_rfl
 neB5:=by decide
open Go.RowKit Go.Shelf
theorem xZ (l:List BA) (sep:BA) {q} (h:m7 l sep=Nn q):aD Nr 103 [eL cS l,St sep] (St q):=by
 unfold m7 at h;obtain ⟨⟨h1,h2⟩,h⟩:=gdD h;obtain rfl:=osl h;refine ⟨by kernel_rfl,λw fz vs hlt _ hl hrel=>?_⟩;obtain ⟨u,v,rfl⟩:∃ u v,vs = #[u,v]:=by
  obtain ⟨l⟩:=vs
  match l,hl with
  | [u,v],_=>exact ⟨u,v,rfl⟩
 obtain rfl:=G3<|hrel 1 _ v rfl rfl;have hs:=Az (f:=λs=>[Value.string s]) (s:=1) (c:=cS) (e:=id) (λ_=>rfl) (λ_=>rfl)<|hrel 0 _ u rfl rfl;rw [List.map_id] at hs;obtain ⟨A,cap,rfl,hc,hm,hx⟩:=hs;have key:Calls Nr 103 #[.slice A l.length cap,.string sep] w λe w'=>e = .returned (.string<|H4 l sep)/\Below w.heap.size w w':=by
  by_cases hn:0<l.length
  ·obtain ⟨b,o,rfl,_,_,hlt,hcell⟩:=hx hn;exact Any.strings_Join Jd MC b o cap l sep w (λj x hj=>by
    obtain ⟨hj1,rfl⟩:=ges hj;have := hcell j hj1 0 _ rfl;simpa using this) hlt h1 hc (by simpa [H4,ByteArray.size] using h2)
  obtain rfl:l=[]:=List.eq_nil_of_length_eq_zero (by omega);exact (Any.strings_Join_none Jd MC A cap sep w).mono λe w' ⟨he,hw⟩=>⟨he,hw ▸ Below.refl _ _⟩
 refine key.mono λe w' ⟨he,hb⟩ => ?_;exact ⟨_,fz,he,hb,.v Z,λg hg=>hg,λg hg => .inl hg,λg hg=>Si (hlt g hg) hb.size⟩
open Go.RowKit Go.WideShapes Go.ChangeShapes Go.Deep
section
variable {H:Type} {enc:TypeId×Value->H} {P:Program}
theorem Bm {f:Func} {s:ChangeSpec} {apart fresh handsOn again:Bool} {W W':World} {args:Array Value} {v:Value} {ds gs:List (DataW H)} {before pa pv:List MemPlace}
  (hW:DataW.Whole enc P f.params.toList s.vars apart W args.toList ds gs before)
  (hres:∀ (b:Nat) (sp:Nat->Bool) (hd:Bool),DataW.TrodAll enc P W' b sp hd f.resultTypes.toList (v.resultList f.resultTypes.size) (s.fn H<|ds++gs).results [])
  (hargs:∀ sp:Nat->Bool,(∀ p∈before,sp p.block=Nk)->DataW.TrodAll enc P W' 0 sp Nk f.params.toList args.toList (s.fn H<|ds++gs).args pa)
  (hvars:∀ sp:Nat->Bool,(∀ p∈before,sp p.block=Nk)->DataW.TrodVars enc P W' sp s.vars (s.fn H<|ds++gs).vars pv)
  (hps:before=pa++pv) (hb:Below W.heap.size W W')
  (hok:∀ (j:Nat) (t:TypeId) (r:Value),f.resultTypes[j]? = Nn t->(v.resultList f.resultTypes.size)[j]? = Nn r->Value.okWide P W' .any 0 t r) :
  s.post enc P f apart fresh handsOn again W args v W':=by
 have hlt:∀ p∈before,p.block<W.heap.size:=λp hp=>hW.lt p hp;have hold:∀ p∈before,(λb=>Nq<|b<W.heap.size) p.block=Nk:=λp hp=>by simpa using hlt p hp
 refine ⟨ds,gs,before,[],pa,pv,hW,hres _ _ _,hargs _ hold,hvars _ hold,World.keptBut_mono (λp hp=>⟨hp,?_⟩) (hb.frame (· ∈ before)),λ_=>?_⟩
 ·rw [hps,RS] at hp;exact Or.inr hp
 obtain ⟨_,_,_,_,_,hz,hn⟩:=hW;refine ⟨hok,_,_,([]++pa)++pv,⟨[]++pa,pv,trodAll_append (hargs _ λ_ _=>rfl)<|hres _ _ _,hvars _ λ_ _=>rfl,rfl,?_,?_⟩,?_⟩
 ·intro b off hp;have hin:MemPlace.cell b off∈before:=by rw [hps];simpa using hp
  rw [hb.frozen (hlt _ hin)];exact hz b off hin
 ·intro ha;have := hn ha;rw [hps] at this;simpa using this
 intro p hp _;rw [hps];simpa using hp
theorem wB (hl:laidOutB P=Nk) {W W':World} (hb:Below W.heap.size W W') {sp:Nat->Bool}:∀ (ts:List TypeId) (vs:List Value) (ds:List<|DataW H) (ps:List MemPlace),
  (∀ t∈ts,P.readableRec t=Nk/\t<P.types.size)->DataW.TrodAll enc P W 0 (λ_=>Nk) Nk ts vs ds ps->(∀ x∈ps,x.block<W.heap.size)->(∀ x∈ps,sp x.block=Nk) ->
  DataW.TrodAll enc P W' 0 sp Nk ts vs ds ps
 | [],[],[],_,_,h,_,_=>h
 | t::ts,v::vs,d::ds,ps,hr,⟨p,q,h1,h2,hpq⟩,hlt,hs=>by
  subst hpq;have hp:∀ x∈p,x.block<W.heap.size:=λx hx=>hlt x (SB _ hx);exact ⟨p,q,WideElems.Trod_stays hl (hr t (by simp)).1 (hr t (by simp)).2 h1 (λx hx=>hb.same (hp x hx)) (λx hx=>hs x (SB _ hx)),
   wB hl hb ts vs ds q (λt ht=>hr t (Sj _ ht)) h2 (λx hx=>hlt x (SC _ hx)) (λx hx=>hs x (SC _ hx)),rfl⟩
 | [],_::_,_,_,_,h,_,_=>(by cases h)
 | [],[],_::_,_,_,h,_,_=>(by cases h)
 | _::_,[],_,_,_,h,_,_=>(by cases h)
 | _::_,_::_,[],_,_,h,_,_=>(by cases h)
variable {w:World} {spare:Nat->Bool} {held:Bool}
theorem IE {α:Type} {f:α->List Value} {s:Nat} {t e:TypeId} (hs:P.cellsOf e=s) (hs0:0<s) (ht:P.underlying t=Nn (.slice e)) {Good:α->Prop}
  (hel:∀ (fuel:Nat) (cs:List Value) (x:DataW H×List MemPlace),DataW.trod enc P w 0 spare held fuel e cs=Nn x->∃ a,cs=f a/\Good a) {fuel:Nat} {cs:List Value} {x:DataW H×List MemPlace}
  (h:DataW.trod enc P w 0 spare held fuel t cs=Nn x):∃ v,cs=[v]/\∃ xs:List α,Sl f s w 0 w.heap.size v xs/\∀ y∈xs,Good y:=by
 rcases open_slice ht h with ⟨rfl,_⟩ | ⟨a,len,cap,m,n,D,Pl,rfl,_,hl,hm,hmm,_,hi⟩
 ·exact ⟨_,rfl,[],Sl.nil_ _ _ (by omega),λy hy=>absurd hy<|by simp⟩
 refine ⟨_,rfl,?_⟩;have hlm:len<=m:=by rw [hmm];split <;> omega
 have key:∀ i,i<len->∃ y:α,Good y/\∀ (j:Nat) (u:Value),(f y)[j]? = Nn u->w.cell? ((a.add<|i*s).add j)=Nn u:=by
  intro i hil;obtain ⟨cs',hc,ht'⟩:=hi i (by omega);obtain ⟨y,rfl,hg⟩:=hel _ _ _ ht';obtain ⟨_,hcl,hat⟩:=World.cells?_some hc;rw [hs] at hat hcl;exact ⟨y,hg,λj u hu=>by
   have hj:j<s:=by
    have := (ges hu).1;omega
   rw [hat j hj];exact hu⟩
 have key2:∀ i,i<len->∃ cs',w.cells? 0 (a.add<|i*s) s=Nn cs':=by
  intro i hil;obtain ⟨cs',hc,_⟩:=hi i (by omega);rw [hs] at hc;exact ⟨cs',hc⟩
 clear hi;simp only [maxLen] at hm
 by_cases hn:0<len
 ·obtain ⟨cs0,hc0⟩:=key2 0 hn;obtain ⟨_,hcl,hat⟩:=World.cells?_some hc0;have h00:=hat 0 hs0;rw [geq (by omega)] at h00;have hspot:=World.cell?_spot h00;obtain ⟨b,o,sp⟩:=a;have hsp:sp=Np:=by simpa [Addr.add] using hspot
  subst hsp;have hb:b<w.heap.size:=by
   have := World.block_lt_of_cell? w _ h00;simpa [wY] using this
  have hch:∃ F:Nat->α,∀ i,i<len->Good (F i)/\∀ (j:Nat) (u:Value),(f<|F i)[j]? = Nn u->w.cell? (((⟨b,o,Np⟩:Addr).add<|i*s).add j)=Nn u:=by
   obtain ⟨y0,_⟩:=key 0 hn;refine ⟨λi=>if h:i<len then (key i h).choose else y0,λi hil=>?_⟩;simp only [dif_pos hil];exact (key i hil).choose_spec
  obtain ⟨F,hF⟩:=hch;refine ⟨(RY len).map F,⟨_,cap,by simp,by simpa using hl,by omega,λ_=>⟨b,o,rfl,RP _,hb,hb,λk hk j u hu=>?_⟩⟩,λy hy=>?_⟩
  ·have hk':k<len:=by simpa using hk
   have := (hF k hk').2 j u (by simpa using hu)
   rwa [wY,wY] at this
  rw [RO] at hy;obtain ⟨i,hi,rfl⟩:=hy;exact (hF i<|by simpa using hi).1
 have h0:len=0:=by omega
 subst h0;exact ⟨[],Sl.nil_ _ _ (by omega),λy hy=>absurd hy<|by simp⟩
theorem Lj {t:TypeId} {k:IntKind} (ht:P.underlying t=Nn (.int k)) (fuel:Nat) (cs:List Value) (x:DataW H×List MemPlace) (h:DataW.trod enc P w 0 spare held fuel t cs=Nn x) :
  ∃ a:Int,cs=[.int k a]/\(Lit.int k a).wf=Nk:=by
 obtain ⟨n,h1,_,h3⟩:=DataW.trod_int ht h;exact ⟨n,h1,h3⟩
end
theorem one_cell {v u:Value} (h:v.cells.toList=[u]) (hv:∃ a len cap,v = .slice a len cap):v=u:=by
 obtain ⟨a,len,cap,rfl⟩:=hv;simpa [Value.cells] using h
end
end Go.Proofs.YtabfkkjdfhbngaaGreatDoor
