/- Texts joined. No conditions. -/
import Derived.Test.YtcmimhffgmckjaaGreatDoorProg
import Derived.ChangeSame
import Derived.ChangeSlices
import Derived.WideKeyArgs
import Derived.Carry
import Derived.Deep.Slices
import Derived.Deep.Fields
import Derived.ProofKit
import Derived.OpenShut
import Derived.BigRegion
import Derived.Sort.Row
import Derived.Sort.Grow
import Derived.Shelf.Slices.Delete
import Derived.Shelf.SortM.Plain
import Derived.Shelf.SortM.SortNone
import Derived.Shelf.SlSortCmp.NoneTotal
import Derived.Test.YtcmimhffgmckjaaGreatDoorV9
namespace Go.Proofs.YtcmimhffgmckjaaGreatDoor
noncomputable section
open Go.RowKit
set_option maxRecDepth 100000
def j4 (p:List (List Mh)):((LI)×Int×Int)->Option (((LI)×Int×Int) ⊕ ((LI)×Int)):=fun s5=>bif decide (s5.2.1<(p.length:Int)) then gd (decide (0<=s5.2.1/\s5.2.1<(p.length:Int))) <|gd (dW (s5.1.length+1) 8) <|gd (Md .i64 (s5.2.2+((p.getD s5.2.1.toNat default).length:Int))) <|gd (Md .i64 (s5.2.1+(1:Int))) <|some (.inl ((s5.1++[((p.getD s5.2.1.toNat default).length:Int)]),(s5.2.1+(1:Int)),(s5.2.2+((p.getD s5.2.1.toNat default).length:Int)))) else some (.inr (s5.1,s5.2.2))
def nQ (p:List (List Mh)) (s19:(LI)×Int×(LI)×(LI)):Int->Option (Int ⊕ Int):=fun s28=>gd (decide (0<=s28/\s28<(s19.2.2.1.length:Int))) <|bif ((s19.2.2.1.getD s28.toNat default)==(0:Int)) then gd (Md .i64 (s28+(1:Int))) <|gd (decide ((p.length:Int)≠0)) <|some (.inl ((s28+(1:Int)).tmod (p.length:Int))) else some (.inr s28)
def jf (p:List (List Mh)) (s1:(LI)×Int):((LI)×Int×(LI)×(LI))->Option (((LI)×Int×(LI)×(LI)) ⊕ ((LI)×Int×(LI)×(LI))):=fun s19=>bif decide ((s19.2.2.2.length:Int)<s1.2) then Option.bind (aG (⟨s19.1,s19.2.1⟩:ah) (p.length:Int)) fun v24=>Option.bind (aV (nQ p s19) v24.2) fun s25=>gd (decide (0<=s25/\s25<(s19.2.2.1.length:Int))) <|gd (Md .i64 ((s19.2.2.1.getD s25.toNat default)-(1:Int))) <|gd (dW (s19.2.2.2.length+1) 8) <|some (.inl (v24.1.b,v24.1.p,(s19.2.2.1.set s25.toNat ((s19.2.2.1.getD s25.toNat default)-(1:Int))),(s19.2.2.2++[s25]))) else some (.inr (s19.1,s19.2.1,s19.2.2.1,s19.2.2.2))
def jS (r_:ah) (p:List (List Mh)):Option (ah×(LI)):= Option.bind (aV (j4 p) (([]:LI),(0:Int),(0:Int))) fun s1=>Option.bind (aV (jf p s1) (r_.b,r_.p,s1.1,([]:LI))) fun s14=>Option.bind (Option.bind (aG (⟨s14.1,s14.2.1⟩:ah) (16:Int)) fun v40=>bif (v40.2==(0:Int)) then Option.bind (bM (⟨v40.1.b,v40.1.p⟩:ah) ([(0:Int),(3:Int),(-1:Int)]:LI)) fun v42=>gd (dW (s14.2.2.2.length+1) 8) <|some (v42.1.b,v42.1.p,(s14.2.2.2++[v42.2])) else bif (v40.2==(1:Int)) then bif decide ((0:Int)<(s14.2.2.2.length:Int)) then gd (decide (0<=(1:Int)/\(1:Int)<=(s14.2.2.2.length:Int)/\(s14.2.2.2.length:Int)<=(s14.2.2.2.length:Int))) <|some (v40.1.b,v40.1.p,((s14.2.2.2.drop (1:Int).toNat).take ((s14.2.2.2.length:Int).toNat-(1:Int).toNat))) else some (v40.1.b,v40.1.p,s14.2.2.2) else some (v40.1.b,v40.1.p,s14.2.2.2)) fun s39=>some ((⟨s39.1,s39.2.1⟩:ah),s39.2.2)
def iJ (code:LI):Option ((List (List Mh))×(LI)):= Option.bind (kD code) fun v1=>Option.bind (pz (⟨v1.b,v1.p⟩:ah)) fun v2=>Option.bind (je (⟨v2.1.b,v2.1.p⟩:ah) v2.2) fun v3=>Option.bind (jS (⟨v3.1.b,v3.1.p⟩:ah) v2.2) fun v4=>some (v3.2,v4.2)
def jT (code:LI):Option ((List (List Mh))×(LI)):= Option.bind (iJ code) fun v1=>some (v1.1,v1.2)
def sZ (a:LI) (b:LI):Int->Option (Int ⊕ (Unit ⊕ Bool)):=fun s5=>bif decide (s5<(a.length:Int)) then gd (decide (0<=s5/\s5<(a.length:Int))) <|gd (decide (0<=s5/\s5<(b.length:Int))) <|bif ((a.getD s5.toNat default) != (b.getD s5.toNat default)) then some (.inr (.inr false)) else gd (Md .i64 (s5+(1:Int))) <|some (.inl (s5+(1:Int))) else some (.inr (.inl ()))
def pI (a:LI) (b:LI):Option Bool:= bif ((a.length:Int) != (b.length:Int)) then some false else sumK (aV (sZ a b) (0:Int)) fun s2=>some true
def jg (code:LI):Option Bool:= bif decide ((1048576:Int)<(code.length:Int)) then some true else Option.bind (jT code) fun v2=>Option.bind (lT v2.1 v2.2) fun v3=>Option.bind (l6 v2.1 v2.2) fun v4=>Option.bind (bif (!(v3.2==v4.2)) then some true else Option.bind (gz (⟨v3.1.From,v3.1.Order⟩:Mi) (⟨v4.1.From,v4.1.Order⟩:Mi)) fun v7=>some (!v7)) fun s5=>Option.bind (bif s5 then some true else some (!v3.2)) fun s8=>bif s8 then Option.bind (bif (v3.2==v4.2) then Option.bind (gz (⟨v3.1.From,v3.1.Order⟩:Mi) (⟨v4.1.From,v4.1.Order⟩:Mi)) fun v13=>some v13 else some false) fun s11=>some s11 else Option.bind (kN v2.1 (⟨v3.1.From,v3.1.Order⟩:Mi)) fun v14=>Option.bind (bi v2.1 v2.2) fun v15=>Option.bind (kx (⟨#[115,101,113]⟩:ByteArray)) fun v16=>Option.bind (jv v2.1 (⟨v3.1.From,v3.1.Order⟩:Mi) v16.1) fun v17=>Option.bind (bif v14.2 then some v15.2 else some false) fun s18=>Option.bind (bif s18 then Option.bind (pI v14.1 v15.1) fun v22=>some v22 else some false) fun s20=>Option.bind (bif s20 then some v16.2 else some false) fun s23=>Option.bind (bif s23 then some v17.2 else some false) fun s25=>Option.bind (bif s25 then some (v17.1==(-1:Int)) else some false) fun s27=>some s27
theorem Ef:∀ {l:LI} {i:Nat} (v:Int),i<l.length->(l.set i v).sum=l.sum-l.getD i default+v
 | [],_,_,h=>absurd h (by simp)
 | a::l,0,v,_=>by
  show v+l.sum=a+l.sum-a+v;omega
 | a::l,i+1,v,h=>by
  have := Ef (l:=l) (i:=i) v (by simpa using h);show a+(l.set i v).sum=a+l.sum-l.getD i default+v;omega
theorem Eg:∀ {l:LI},0<l.sum->∃ j,j<l.length/\l.getD j default≠0
 | [],h=>absurd h (by simp)
 | a::l,h=>by
  by_cases e:a=0
  ·subst e;obtain ⟨j,h1,h2⟩:=Eg (l:=l) (by simpa using h);exact ⟨j+1,by simpa using h1,h2⟩
  ·exact ⟨0,by simp,e⟩
theorem G9 {k:Int} {r:ah} (h:Rd k r) (hk:k<=100000) {p:List (List Mh)} (hp:smP p=true):Mo (jS r p) fun v=>v.2.length<=100:=by
 rw [ul] at hp;obtain ⟨hp4,hp8⟩:=hp;unfold jS;refine Mo.bind (P:=fun s:List Int×Int=>s.1.length=p.length/\(∀ v∈s.1,0<=v/\v<=8)/\s.1.sum=s.2/\s.2<=32) ?_ fun s1 ⟨a1,a2,a3,a4⟩ => ?_
 ·refine Mo.loop (fun s=>∃ n:Nat,n<=p.length/\s.2.1=(n:Int)/\s.1.length=n/\(∀ v∈s.1,0<=v/\v<=8)/\s.1.sum=s.2.2/\0<=s.2.2/\s.2.2<=((8*n:Nat):Int)) (fun s=>((p.length:Int)-s.2.1).toNat) ⟨0,by omega,rfl,rfl,by simp,rfl,Int.le_refl _,Int.le_refl _⟩ fun s ⟨n,h1,h2,h3,h4,h5,h6,h7⟩ => ?_;obtain ⟨l,i,c⟩:=s;simp only at h2 h3 h4 h5 h6 h7;subst h2;unfold j4;refine .bifD (fun hk=>?_) fun hk => .pure ?_
  ·simp only [tnn] at hk ⊢;have hn:n<p.length:=by omega
   have e:p.getD n default=p[n]:=by rw [gdq,geq hn];rfl
   have hr:=(hp8 _ (List.getElem_mem hn)).1;rw [<- e] at hr;refine .gdD ⟨by omega,hk⟩ (.gd (eu (by omega) rfl) (.gdI (by omega) (.gdI (by omega) (.pure ⟨⟨n+1,by omega,rfl,by simp [h3],fun v hv=>?_,?_,by simp only [];omega,by simp only [];omega⟩,by simp only [];omega⟩))))
   ·rcases List.mem_append.1 hv with hv | hv
    ·exact h4 v hv
    ·rw [List.mem_singleton] at hv;subst hv;omega
   ·simp only [List.sum_append,List.sum_cons,List.sum_nil];omega
  ·simp only [] at hk;exact ⟨by simp only [];omega,h4,h5,by simp only [];omega⟩
 ·refine Mo.bind (P:=fun z:List Int×Int×List Int×LI=>Rd (k+32) ⟨z.1,z.2.1⟩/\z.2.2.2.length<=32) ?_ fun z ⟨b1,b2⟩ => ?_
  ·refine Mo.loop (fun z=>Rd (k+(z.2.2.2.length:Int)) ⟨z.1,z.2.1⟩/\z.2.2.1.length=p.length/\(∀ v∈z.2.2.1,0<=v/\v<=8)/\z.2.2.1.sum=s1.2-(z.2.2.2.length:Int)/\((z.2.2.2.length:Int)<=s1.2\/z.2.2.2=[])) (fun z=>(s1.2-(z.2.2.2.length:Int)).toNat) ⟨by simpa using h,a1,a2,by simpa using a3,.inr rfl⟩ fun z ⟨c1,c2,c3,c4,c5⟩ => ?_;have c6:z.2.2.2.length<=32:=by
    rcases c5 with c5 | c5
    ·omega
    ·rw [c5];exact Nat.zero_le _
   unfold jf;refine .bifD (fun hlt=>?_) fun hge => .pure ⟨c1.mono (by omega),c6⟩;refine (jw c1.mk' (by omega) _).bind fun v ⟨d1,d2,d3⟩ => ?_;obtain ⟨j,j1,j2⟩:=Eg (l:=z.2.2.1) (by omega);have hv:v.2<(p.length:Int):=by omega
   refine Mo.bind (P:=fun t:Int=>0<=t/\t<(p.length:Int)/\z.2.2.1.getD t.toNat default≠0) ?_ fun t ⟨t1,t2,t3⟩ => ?_
   ·refine Mo.loop (fun t=>0<=t/\t<(p.length:Int)) (fun t=>if t<=(j:Int) then ((j:Int)-t).toNat else ((j:Int)+(p.length:Int)-t).toNat) ⟨d2,hv⟩ fun t ⟨t1,t2⟩ => ?_;unfold nQ;refine .gdD ⟨t1,by omega⟩ (.bif (fun h0 => .gdI (by omega) (.gdD (by omega) (.pure ?_))) fun h0 => .pure ⟨t1,t2,by simpa using h0⟩);have h0:z.2.2.1.getD t.toNat default=0:=by simpa using h0
    have hne:t≠(j:Int):=by
     rintro rfl;rw [tnn] at h0;exact j2 h0
    have hm:(t+1).tmod (p.length:Int)=if t+1=(p.length:Int) then 0 else t+1:=by
     rw [Int.tmod_eq_emod_of_nonneg (by omega)]
     split
     ·rename_i e;rw [e,Int.emod_self]
     ·exact Int.emod_eq_of_lt (by omega) (by omega)
    show (0<=(t+1).tmod (p.length:Int)/\(t+1).tmod (p.length:Int)<(p.length:Int))/\(if (t+1).tmod (p.length:Int)<=(j:Int) then ((j:Int)-(t+1).tmod (p.length:Int)).toNat else ((j:Int)+(p.length:Int)-(t+1).tmod (p.length:Int)).toNat)<(if t<=(j:Int) then ((j:Int)-t).toNat else ((j:Int)+(p.length:Int)-t).toNat);rw [hm]
    split <;> (refine ⟨by omega,?_⟩;split <;> split <;> omega)
   ·have tn:t.toNat<z.2.2.1.length:=by omega
    have tb:=c3 _ (uh tn);refine .gdD ⟨t1,by omega⟩ (.gdI (by omega) (.gd (eu (by omega) rfl) (.pure ⟨⟨?_,by simp only [List.length_set];exact c2,Bt c3 (by omega),?_,.inl (by simp;omega)⟩,by simp;omega⟩)))
    ·simp only [lla,List.length_singleton];exact d1.mono (by omega)
    ·simp only [];rw [Ef _ tn,lla,List.length_singleton];omega
  ·refine Mo.bind (P:=fun z:List Int×Int×LI=>z.2.2.length<=33) ?_ fun w hw => .pure (by simp only [];omega);refine (jw b1.mk' (by omega) _).bind fun v ⟨d1,_,_⟩ => .bif (fun _=>?_) fun _ => .bif (fun _ => .bifD (fun hpos => .gdD (by omega) (.pure ?_)) fun _ => .pure ?_) fun _ => .pure ?_
   ·exact (xy d1.mk' (by omega) _ (by simp)).bind fun u _ => .gd (eu (by omega) rfl) (.pure (by simp;omega))
   ·simp only [List.length_take,List.length_drop];omega
   ·simp only [];omega
   ·simp only [];omega
theorem Ls {b:LI} (hb:Bts b):Mo (jT b) fun v=>Sm v.1/\v.2.length<=100:=by
 unfold jT;refine Mo.bind (P:=fun v:List (List Mh)×LI=>Sm v.1/\v.2.length<=100) ?_ fun v hv => .pure hv;unfold iJ;exact (IK hb).bind fun r h=>(EM h.mk' (by omega) IL).bind fun v ⟨a1,a2⟩=>(Cz a1.mk' (by omega) a2).bind fun u ⟨b1,b2⟩=>(G9 b1.mk' (by omega) a2).bind fun x hx => .pure ⟨b2,hx⟩
section
variable {p:List (List Mh)} {s:LI} {k:Nat}
variable (hk:k+1<s.length) (hne:s.getD k default≠s.getD (k+1) default)
include hk
include hne
end
section
variable {p:List (List Mh)}
end
section
variable {p:List (List Mh)} {x:XS} {F:LI}
theorem BD (hp:PV p) (C:Cand p x (I8 p)):Chk p x:=by
 have operm:∀ l:Nat,l<3->(x.2.getD l default).Perm (wrs p (l:Int)):=fun l hl=>by
  have O:=C.ods (l:Int) (by omega);unfold od at O;rw [tnn] at O;refine (List.perm_ext_iff_of_nodup O.nd (Kz _)).2 fun n=>?_;rw [O.mem];unfold wrs;rw [List.mem_filter];unfold Wl;rw [bae,dte];exact Iff.rfl
 refine ⟨C.flen,C.olen,fun n hn=>?_,fun l hl=>⟨operm l hl,?_⟩⟩
 ·have hm:(n:Int)∈I8 p:=(C.mem _).2 ⟨by omega,by omega⟩
  split
  ·rename_i hr;have h1:=C.rdc _ hm hr;have h2:=C.ne _ hm hr;have hl:=uj hp (n:=(n:Int)) (by omega) (by omega);have hpm:=operm (ev p (n:Int)).Loc.toNat (by omega);rw [Int.toNat_of_nonneg hl.1] at hpm;rw [tnn] at h1 h2;exact ⟨hpm.mem_iff.1 h1,h2⟩
  ·rename_i hr;have := C.frN _ hm (by simpa using hr)
   rwa [tnn] at this
 ·obtain ⟨t,ht⟩:=C.hd l hl;unfold od at ht;rw [tnn] at ht;show (x.2.getD l []).getD 0 default=l;rw [ht]
  rfl
theorem CB (hp:PV p) (hv:gy (toI p)=true) (hsz:p.length<=1048576/\total p<=1048576) (C:Cand p x (I8 p)):Mo (fB p ⟨x.1,x.2⟩) (· = true):=by
 have hX:=LO hp C;refine (KD hp hv hsz fun r hr=>?_).mono fun b hb=>hb.2 (BD hp C);obtain ⟨i,hi,rfl⟩:=List.getElem_of_mem hr;have O:(x.2.getD i default).Perm (wrs p (i:Int)):=((BD hp C).ords i (by rw [C.olen] at hi;exact hi)).1;rw [gdq,geq hi] at O;have h1:=O.length_eq;have h2:=GH (p:=p) (i:Int);have h3:=nC hp.vs;show x.2[i].length<=_;have h4:(some x.2[i]).getD default=x.2[i]:=rfl;rw [h4] at h1;omega
end
section
variable {p:List (List Mh)} {s:LI}
theorem EN (hw:Whole p s) (hsz:p.length<=1048576/\total p<=1048576):Mo (jv p (CI p s true) JS) (· = (-1,true)):=by
 have hv:=hw.1;have hp:=PV.of hv;have R:=zD hp hw;have C:=AL hw;unfold jv;refine (CB hp hv hsz C).bind fun v hv' => ?_;subst hv';refine Mo.bind (P:=(· = false)) (.bif (fun h=>by cases h) fun _=>(Mo.of (P:=(· = true)) IG rfl).bind fun v hv => .pure (by rw [hv];rfl)) fun v hv2=>?_;subst hv2;refine .bif (fun h=>by cases h) fun _=>(EH hp hv C).bind fun v ⟨v1,v2⟩ => .pure ?_;rw [v2 (v1.2 (G5 hp R))]
end
section
variable {p:List (List Mh)} {x:XS} {s:LI}
def lw (p:List (List Mh)) (o:LI) (l:Int):Int:=(l::o.filter (Wl p l)).getD (o.filter (Wl p l)).length default
theorem KS (l:Int):lw p [] l=l:=rfl
theorem Ha (a:Int) (l:LI) (b:Int):(a::(l++[b])).getD (l++[b]).length default=b:=by
 rw [gdq,lla,List.length_singleton,List.getElem?_cons_succ,gar (Nat.le_refl _)];simp
theorem JX (o:LI) (i l:Int):lw p (o++[i]) l=if Wl p l i=true then i else lw p o l:=by
 unfold lw;rw [List.filter_append]
 by_cases h:Wl p l i=true
 ·rw [if_pos h,List.filter_cons_of_pos h,List.filter_nil,Ha]
 ·rw [if_neg h,List.filter_cons_of_neg h,List.filter_nil,List.append_nil]
theorem AU {i:Int}:∀ {a a' b b':LI},i∉a->i∉a'->a++i::b=a'++i::b'->a=a'
 | [],[],_,_,_,_,_=>rfl
 | [],c::_,_,_,_,h',e=>by
  simp only [List.nil_append,List.cons_append,List.cons.injEq] at e;exact absurd (by rw [e.1];exact List.mem_cons_self) h'
 | c::_,[],_,_,h,_,e=>by
  simp only [List.nil_append,List.cons_append,List.cons.injEq] at e;exact absurd (by rw [<- e.1];exact List.mem_cons_self) h
 | c::a,d::a',_,_,h,h',e=>by
  simp only [List.cons_append,List.cons.injEq] at e;rw [e.1,AU (fun m=>h (List.mem_cons_of_mem _ m)) (fun m=>h' (List.mem_cons_of_mem _ m)) e.2]
theorem Dw (p:List (List Mh)) (s:LI) (n:Nat):∀ m,∃ r,kg p s (n+m)=kg p s n++r
 | 0=>⟨[],by simp⟩
 | m+1=>by
  obtain ⟨r,hr⟩:=Dw p s n m;exact ⟨r++tC p (Mr s (n+m)) (Ms s (n+m)),by rw [<- Nat.add_assoc,kg,hr,List.append_assoc]⟩
theorem CC {t k k' g g':Int}:∀ (n:Nat),(∀ i:Nat,i<n->lrC p t k g (ev p (i:Int))=lrC p t k' g' (ev p (i:Int)))->lrN p t k g n=lrN p t k' g' n
 | 0,_=>rfl
 | n+1,h=>by
  rw [lrN,lrN,h n (by omega),CC n fun i hi=>h i (by omega)]
theorem Hb (t:Nat) {k k':Nat} (h:k<=k'):base p t k<=base p t k':=by
 unfold base;have := (Gh t (p.getD t default) h).length_le;omega
theorem BF (hp:PV p) {t k g:Nat} (h : ¬ (Isn p t k/\rdX (ins p t k)=true/\(ins p t k).Reg=(g:Int))):lrd p (t:Int) ((k+1:Nat):Int) (g:Int)=lrd p (t:Int) (k:Int) (g:Int):=by
 unfold lrd;refine CC _ fun i hi=>Bool.eq_iff_iff.2 (qj.trans (Iff.trans ⟨fun ⟨a,b,c,d⟩=>⟨a,?_,c,d⟩,fun ⟨a,b,c,d⟩=>⟨a,by omega,c,d⟩⟩ qj.symm));obtain ⟨t',k',hI,hi',e1,e2⟩:=AR hp (n:=(i:Int)) (by omega) (by omega) (by omega);have hv:=hI.ev.1;rw [<- hi'] at hv;obtain rfl:t'=t:=by omega
 rcases Nat.lt_or_ge k' k with hk | hk
 ·omega
 ·exfalso;obtain rfl:k'=k:=by omega
  refine h ⟨hI,?_,?_⟩
  ·rw [hv] at c;exact c
  ·rw [hv] at d;simp only [tnn] at d;exact d
theorem Hd (hp:PV p) {t k:Nat} (hI:Isn p t k) (hr:rdX (ins p t k)=true):lrd p (t:Int) ((k+1:Nat):Int) (ins p t k).Reg=(base p t k:Int):=by
 have hv:=hI.ev;have hc:lrC p (t:Int) ((k+1:Nat):Int) (ins p t k).Reg (ev p (base p t k:Int))=true:=qj.2 (by
  rw [hv.1];refine ⟨rfl,by show (k:Int)<_;omega,hr,?_⟩;simp only [tnn]
  rfl)
 rcases AQ (p:=p) (t:Int) ((k+1:Nat):Int) (ins p t k).Reg with ⟨_,g2⟩ | ⟨r,g1,g2,g3,g4⟩
 ·rw [g2 _ hv.2] at hc;cases hc
 ·rw [g2];obtain ⟨c1,c2,_,_⟩:=qj.1 g3;obtain ⟨t',k',hI',e0,e1,e2⟩:=AR hp (n:=(r:Int)) (by omega) (by omega) (by omega);obtain rfl:t'=t:=by omega
  have hm:=Hb (p:=p) t' (show k'<=k by omega);rcases Nat.lt_or_ge r (base p t' k) with hlt | hge
  ·rw [g4 _ hv.2 hlt] at hc;cases hc
  ·omega
theorem Chn.rng (hp:PV p) {F:LI} (C:Cand p x F) {i v:Int} (h:Chn p x i v):(0<=i/\i<((evs p).length:Int))->0<=v/\v<=3:=by
 have hins:∀ {i:Int},(0<=i/\i<((evs p).length:Int)) -> ¬ (ev p i).Thread<0->InR (Cy p i):=fun {i} hi ht=>by
  obtain ⟨t,k,hI,_,e1,e2⟩:=AR hp hi.1 hi.2 ht;unfold Cy;rw [e1,e2];exact hp.ins t k hI.t hI.k
 induction h with
 | ini h=>intro _;omega
 | val h h3=>intro hi;obtain ⟨_,_,_,_,a,b⟩:=hins hi h;exact ⟨a,b⟩
 | zer h h3 hr=>intro _;omega
 | @nxt i j v h c ih=>
  intro hi;refine ih ?_;obtain ⟨_,_,h3,h4⟩:=h;rcases AQ (p:=p) (ev p i).Thread (ev p i).Index (Cy p i).Reg with ⟨g1,_⟩ | ⟨r,g1,g2,g3,_⟩
  ·exact absurd (show lrE p i<0 by show lrd _ _ _ _<0;omega) h3
  ·obtain ⟨_,_,c3,_⟩:=qj.1 g3;have hrF:(r:Int)∈F:=(C.mem _).2 ⟨by omega,by omega⟩;have hfr:=C.rdc _ hrF c3;have hjF:=(((C.ods _ (uj hp (n:=(r:Int)) (by omega) (by omega))).mem _).1 hfr).1;have e:lrE p i=(r:Int):=g2;rw [h4,e];exact (C.mem _).1 hjF
structure Vals (p:List (List Mh)) (x:XS) (s:List Int) (z:Mk) (n:Nat):Prop where
 m:∀ l:Nat,l<3->Chn p x (lw p (kg p s n) (l:Int)) (z.mem.getD l default)
 c:∀ t g:Nat,t<p.length->g<3->lrd p (t:Int) ((s.take n).count (t:Int):Int) (g:Int)<0->z.regs.getD (3*t+g) default=0
 r:∀ t g:Nat,t<p.length->g<3 -> ¬ lrd p (t:Int) ((s.take n).count (t:Int):Int) (g:Int)<0->Chn p x (x.1.getD (lrd p (t:Int) ((s.take n).count (t:Int):Int) (g:Int)).toNat default) (z.regs.getD (3*t+g) default)
theorem xB (hp:PV p) (hw:Whole p s) {z0:Mk} (h0:Rel p (u0 p) z0):∀ n,n<=s.length->∃ u,Rel p u (zR p s z0 n)/\(∀ t:Nat,t<p.length->(zR p s z0 n).at_.getD t default=((s.take n).count (t:Int):Int))/\Vals p (sV p (kg p s s.length)) s (zR p s z0 n) n
 | 0,_=>by
  refine ⟨u0 p,h0,fun t ht=>?_,fun l hl=>?_,fun t g ht hg _=>?_,fun t g ht hg h=>absurd ?_ h⟩
  ·show z0.at_.getD t default=_;rw [h0.a t ht];have ht3:=hp.vs.1;have : t=0\/t=1\/t=2:=by omega
   rcases this with rfl | rfl | rfl <;> rfl
  ·show Chn p _ (lw p [] _) (z0.mem.getD l default);rw [KS,h0.m l hl];have e:Z3b.get (u0 p).mem (l:Int)=0:=by
    have : l=0\/l=1\/l=2:=by omega
    rcases this with rfl | rfl | rfl <;> rfl
   rw [e];exact .ini (by rw [(qR hl).1];show (-1:Int)<0;decide)
  ·show z0.regs.getD _ default=0;rw [h0.r t g ht hg];have ht3:=hp.vs.1;have k1:t=0\/t=1\/t=2:=by omega
   have k2:g=0\/g=1\/g=2:=by omega
   rcases k1 with rfl | rfl | rfl <;> rcases k2 with rfl | rfl | rfl <;> rfl
  ·rcases AQ (p:=p) (t:Int) ((List.take 0 s).count (t:Int):Int) (g:Int) with ⟨g1,_⟩ | ⟨r,g1,g2,g3,_⟩
   ·omega
   ·obtain ⟨c1,c2,_,_⟩:=qj.1 g3;obtain ⟨t',k',_,_,e1,e2⟩:=AR hp (n:=(r:Int)) (by omega) (by omega) (by omega);simp at c2;omega
 | n+1,hn=>by
  obtain ⟨u,h1,h2,h3⟩:=xB hp hw h0 n (by omega);have hg:=hw.2.1;obtain ⟨q1,q2,q3⟩:=Bv hg (j:=n) (by omega);generalize hx:sV p (kg p s s.length)=x at h3 ⊢;have hc:∀ v:Int,(s.take (n+1)).count v=(s.take n).count v+if s.getD n default=v then 1 else 0:=fun v=>rB (by omega) v;have hk:Ms s n=(s.take n).count ((Mr s n:Nat):Int):=by rw [q2];rfl
  have hat:=h2 _ q1;rw [<- hk] at hat;have hz:zR p s z0 (n+1)=Hv (zR p s z0 n) ((Mr s n:Nat):Int) (ins p (Mr s n) (Ms s n)):=by
   rw [zR,<- q2,tnn,hat,tnn]
   rfl
  generalize ht:Mr s n=t at q1 q2 q3 hk hat hz;generalize hkk:Ms s n=k at q3 hk hat hz;generalize hzz:zR p s z0 n=z at h1 h2 h3 hat hz;have hR:=h1.after hp (t:=(t:Int)) (by omega) (by rw [tnn,hat];omega) (x:=ins p t k) (hp.ins t k q1 q3);have hI3:=hp.ins t k q1 q3;obtain ⟨i1,i2,i3,i4,i5,i6⟩:=hI3;change 0<=(ins p t k).Loc at i1;change (ins p t k).Loc<=2 at i2;change 0<=(ins p t k).Reg at i3;change (ins p t k).Reg<=2 at i4;have hl3:=hp.vs.1;refine ⟨_,by rw [hz];exact hR,fun t' ht' => ?_,?_⟩
  ·rw [hz];show (z.at_.set _ _).getD t' default=_;rw [tnn,eX (by rw [h1.al];exact q1),hc,<- q2]
   by_cases e:t'=t
   ·subst e;rw [if_pos rfl,if_pos rfl,hat,hk]
    rfl
   ·rw [if_neg e,if_neg (by omega),h2 t' ht',Nat.add_zero]
  have hcs:∀ t':Nat,t'≠t->(s.take (n+1)).count (t':Int)=(s.take n).count (t':Int):=fun t' ne=>by
   rw [hc,<- q2,if_neg (by omega),Nat.add_zero]
  have hct:(s.take (n+1)).count (t:Int)=k+1:=by rw [hc,<- q2,if_pos rfl,<- hk]
  have hord:kg p s (n+1)=kg p s n++tC p t k:=by rw [kg,ht,hkk]
  have hreg:∀ t' g:Nat,t'<p.length->g<3 -> ¬ (t'=t/\rdX (ins p t k)=true/\(ins p t k).Reg=(g:Int))->(zR p s z0 (n+1)).regs.getD (3*t'+g) default=z.regs.getD (3*t'+g) default:=fun t' g ht' hg' hne=>by
   rw [hz];show (if rdX (ins p t k)=true then z.regs.set _ _ else z.regs).getD _ default=_
   by_cases hrd:rdX (ins p t k)=true
   ·rw [if_pos hrd,eX (by rw [h1.rl];omega),if_neg];intro e;exact hne ⟨by omega,hrd,by omega⟩
   ·rw [if_neg hrd]
  by_cases h4:(ins p t k).Op=4
  ·-- a fence
   have hst:tC p t k=[]:=if_pos h4;have hrd:rdX (ins p t k)=false:=by unfold rdX;rw [h4];rfl
   have hwr:wrX (ins p t k)=false:=by unfold wrX;rw [h4];rfl
   have hno:∀ g:Nat,¬ (Isn p t k/\rdX (ins p t k)=true/\(ins p t k).Reg=(g:Int)):=fun g h=>h.1.o h4;have hlr:∀ t' g:Nat,lrd p (t':Int) ((s.take (n+1)).count (t':Int):Int) (g:Int)=lrd p (t':Int) ((s.take n).count (t':Int):Int) (g:Int):=fun t' g=>by
    by_cases e:t'=t
    ·subst e;rw [hct,BF hp (hno g),hk]
    ·rw [hcs t' e]
   refine ⟨fun l hl=>?_,fun t' g a b c=>?_,fun t' g a b c=>?_⟩
   ·rw [hord,hst,List.append_nil,hz];show Chn p x _ ((if wrX (ins p t k)=true then _ else z.mem).getD l default);rw [if_neg (by rw [hwr];simp)];exact h3.m l hl
   ·rw [hreg t' g a b (by rw [hrd];simp)];rw [hlr] at c;exact h3.c t' g a b c
   ·rw [hreg t' g a b (by rw [hrd];simp),hlr];rw [hlr] at c;exact h3.r t' g a b c
  ·have hI:Isn p t k:=⟨q1,q3,h4⟩;have hev:=hI.ev;have hst:tC p t k=[(base p t k:Int)]:=if_neg h4;rw [hst] at hord;have hWl:∀ l:Nat,Wl p (l:Int) (base p t k:Int)=(wrX (ins p t k)&&decide ((ins p t k).Loc=(l:Int))):=fun l=>by unfold Wl;rw [hev.1]
   have hstore:wrX (ins p t k)=true->Chn p x (base p t k:Int) (Hu z (t:Int) (ins p t k)):=fun hwr=>by
    have hth : ¬ (ev p (base p t k:Int)).Thread<0:=by rw [hev.1];show ¬ (t:Int)<0;omega
    have hin:Cy p (base p t k:Int)=ins p t k:=by unfold Cy;rw [hev.1];simp only [tnn];rfl
    unfold Hu
    by_cases h5:(ins p t k).Op=3
    ·rw [if_pos h5];obtain ⟨g,hg5⟩:∃ g:Nat,(ins p t k).Reg=(g:Int):=⟨(ins p t k).Reg.toNat,by omega⟩;have eg:((t:Int)*3+(ins p t k).Reg).toNat=3*t+g:=by omega
     have elr:lrE p (base p t k:Int)=lrd p (t:Int) ((s.take n).count (t:Int):Int) (g:Int):=by
      unfold lrE;rw [hin,hev.1,hg5,<- hk]
     rw [eg]
     by_cases hneg:lrE p (base p t k:Int)<0
     ·rw [h3.c t g q1 (by omega) (by rw [<- elr];exact hneg)];exact .zer hth (by rw [hin];exact h5) hneg
     ·refine .nxt ⟨hth,by rw [hin];exact h5,hneg,rfl⟩ ?_;rw [elr];exact h3.r t g q1 (by omega) (by rw [<- elr];exact hneg)
    ·rw [if_neg h5,<- hin];exact .val hth (by rw [hin];exact h5)
   refine ⟨fun l hl=>?_,fun t' g a b c=>?_,fun t' g a b c=>?_⟩
   ·rw [hord,JX,hWl,hz];show Chn p x _ ((if wrX (ins p t k)=true then z.mem.set _ _ else z.mem).getD l default)
    by_cases hwr:wrX (ins p t k)=true
    ·rw [if_pos hwr,eX (by rw [h1.ml];omega),hwr,Bool.true_and]
     by_cases e:(ins p t k).Loc=(l:Int)
     ·rw [if_pos (decide_eq_true e),if_pos (by omega)];exact hstore hwr
     ·rw [if_neg (by simpa using e),if_neg (by omega)];exact h3.m l hl
    ·rw [if_neg hwr,if_neg (by simp [hwr])];exact h3.m l hl
   ·by_cases hnew:t'=t/\rdX (ins p t k)=true/\(ins p t k).Reg=(g:Int)
    ·obtain ⟨rfl,hrd,hr⟩:=hnew;rw [hct,<- hr,Hd hp hI hrd] at c;omega
    ·rw [hreg t' g a b hnew]
     by_cases e:t'=t
     ·subst e;rw [hct,BF hp fun q=>hnew ⟨rfl,q.2⟩,hk] at c;exact h3.c t' g a b c
     ·rw [hcs t' e] at c;exact h3.c t' g a b c
   ·by_cases hnew:t'=t/\rdX (ins p t k)=true/\(ins p t k).Reg=(g:Int)
    ·obtain ⟨rfl,hrd,hr⟩:=hnew;rw [hct,<- hr,Hd hp hI hrd,tnn,hz];show Chn p x _ ((if rdX (ins p t' k)=true then z.regs.set _ _ else z.regs).getD _ default);rw [if_pos hrd,eX (by rw [h1.rl];omega),if_pos (by omega)];obtain ⟨l,hl⟩:∃ l:Nat,(ins p t' k).Loc=(l:Int):=⟨(ins p t' k).Loc.toNat,by omega⟩;have hI0:=OrdI.all hg (Nat.le_refl s.length);have hmem:(base p t' k:Int)∈kg p s s.length:=by
      obtain ⟨r,hr⟩:=Dw p s (n+1) (s.length-(n+1));rw [show n+1+(s.length-(n+1))=s.length by omega] at hr;rw [hr,hord];simp
     have hnd:(kg p s s.length).Nodup:=List.Pairwise.imp (fun h=>h.1) hI0.pw;obtain ⟨o1,o2,he,hf⟩:=(D7 (p:=p) _ hnd (AK hp hg (Nat.le_refl _))).1 _ hmem (by rw [hev.1];exact hrd);rw [hx,tnn,hev.1] at hf;simp only at hf;have e1:o1=kg p s n:=by
      obtain ⟨r,hr⟩:=Dw p s (n+1) (s.length-(n+1));rw [show n+1+(s.length-(n+1))=s.length by omega,hord,List.append_assoc,List.singleton_append] at hr;rw [hr] at he hnd;have n1:(base p t' k:Int)∉kg p s n:=fun m=>by
       have := (List.nodup_append.1 hnd).2.2 _ m _ List.mem_cons_self;exact this rfl
      rw [he] at hnd;have n2:(base p t' k:Int)∉o1:=fun m=>by
       have := (List.nodup_append.1 hnd).2.2 _ m _ List.mem_cons_self;exact this rfl
      exact (AU n1 n2 he).symm
     rw [hf,e1,hl,tnn];exact h3.m l (by omega)
    ·rw [hreg t' g a b hnew]
     by_cases e:t'=t
     ·subst e;rw [hct,BF hp fun q=>hnew ⟨rfl,q.2⟩,hk] at c ⊢;exact h3.r t' g a b c
     ·rw [hcs t' e] at c ⊢;exact h3.r t' g a b c
end
section
variable {p:List (List Mh)} {x:XS} {s:LI}
theorem LX {u:Ml} {o:LI} (h:bJ u=some o):Mo (dL u) fun q=>q.2=o:=by
 have e1:dZ u=dA u:=rfl;have e2:eU u=bY u:=rfl;have e3:d9 u=bS u:=rfl;unfold bJ at h;unfold dL;rw [e2,e3]
 cases h1:aV (bY u) (([]:LI),(0:Int)) with
 | none=>rw [h1] at h;cases h
 | some s1=>
  rw [h1] at h;simp only [Option.bind_some] at h ⊢
  cases h2:aV (bS u) (s1,(0:Int)) with
  | none=>rw [h2] at h;cases h
  | some s2=>
   rw [h2] at h;simp only [Option.bind_some,sie] at h ⊢;exact .pure h
def A9 (a:Z33):Int×Int×Int×Int×Int×Int×Int×Int×Int:=(a.x0.x0,a.x0.x1,a.x0.x2,a.x1.x0,a.x1.x1,a.x1.x2,a.x2.x0,a.x2.x1,a.x2.x2)
def vv (x:XS) (V:LI) (r:Int):Int:=if r<0 then 0 else V.getD (x.1.getD r.toNat default).toNat default
theorem He (hw:Whole p s) (hsz:p.length<=1048576/\total p<=1048576) {z0:Mk} (h0:Rel p (u0 p) z0):Mo (kN p (CI p s true)) (· = ((zR p s z0 s.length).regs++(zR p s z0 s.length).mem,true)):=by
 have hv:=hw.1;have hp:=PV.of hv;have R:=zD hp hw;have C:=AL hw;obtain ⟨u,g1,g2,g3⟩:=xB hp hw h0 s.length (Nat.le_refl _);rw [List.take_length] at g2;have hcnt:∀ t:Nat,t<p.length->s.count (t:Int)=(p.getD t default).length:=hw.2.2;unfold kN;refine (CB hp hv hsz C).bind fun v hv' => ?_;subst hv';refine .bif (fun h=>by cases h) fun _=>Mo.bind (P:=(· = ((zR p s z0 s.length).regs++(zR p s z0 s.length).mem,true))) ?_ fun v hv => .pure (by rw [hv]);have ex:CI p s true=⟨(sV p (kg p s s.length)).1,(sV p (kg p s s.length)).2⟩:=rfl;rw [ex];have hro:=Dn (p:=p) (kg p s s.length) (AK hp hw.2.1 (Nat.le_refl _));generalize hx:sV p (kg p s s.length)=x at R C g3 hro ⊢;generalize hz:zR p s z0 s.length=z at g1 g2 g3 ⊢;have hl3:=hp.vs.1;have hel:=nC hp.vs;unfold n8;refine (IC hp C).bind fun q ⟨v1,v2⟩ => ?_;obtain ⟨V,b⟩:=q;simp only at v1 v2 ⊢
 cases b with
 | false=>
  exfalso;obtain ⟨i,i1,i2,i3⟩:=v2 rfl;obtain ⟨v,hv⟩:=Ee hp R _ (i:Int) ((R.mem _).2 ⟨by omega,by omega⟩) (Nat.lt_succ_self _);exact hv.not_cyc i3
 | true=>
  obtain ⟨hVl,hV⟩:=v1 rfl;refine .bif (fun h=>by cases h) fun _=>?_;have hwr:∀ j:Int,j∈I8 p->(ev p j).db=true->(0<=j/\j<(V.length:Int))/\Chn p x j (V.getD j.toNat default)/\0<=V.getD j.toNat default/\V.getD j.toNat default<=3:=fun j hj hjw=>by
   obtain ⟨j0,j1⟩:=(C.mem j).1 hj;obtain ⟨n,rfl⟩:∃ n:Nat,j=(n:Int):=⟨j.toNat,by omega⟩;have hc:=hV n (by omega) hjw;rw [tnn];exact ⟨⟨by omega,by omega⟩,hc,hc.rng hp C ⟨j0,j1⟩⟩
  refine Mo.bind (P:=fun q=>∃ a,q=A9 a/\∀ t g:Nat,t<p.length->g<3->Z3b.get (Z33.get a t) g=vv x V (lrd p (t:Int) ((p.getD t default).length:Int) (g:Int))) ?_ fun q ⟨a,ha,hA⟩ => ?_
  ·refine (zA hp.vs).bind fun v4 h4=>?_;subst h4;refine Mo.loop (fun q=>∃ (a:Z33) (n:Nat),n<=(evs p).length/\q=(a.x0.x0,a.x0.x1,a.x0.x2,a.x1.x0,a.x1.x1,a.x1.x2,a.x2.x0,a.x2.x1,a.x2.x2,(n:Int))/\∀ t g:Nat,t<p.length->g<3->Z3b.get (Z33.get a t) g=vv x V (lrN p (t:Int) ((p.getD t default).length:Int) (g:Int) n))
    (fun q=>(((evs p).length:Int)-q.2.2.2.2.2.2.2.2.2).toNat) ⟨⟨⟨0,0,0⟩,⟨0,0,0⟩,⟨0,0,0⟩⟩,0,by omega,rfl,fun t g ht hg=>?_⟩ fun q ⟨a,n,n1,n2,n3⟩ => ?_
   ·have k1:t=0\/t=1\/t=2:=by omega
    have k2:g=0\/g=1\/g=2:=by omega
    rcases k1 with rfl | rfl | rfl <;> rcases k2 with rfl | rfl | rfl <;> rfl
   ·subst n2;unfold p6;have en:(evs p).getD n default=ev p (n:Int):=by unfold ev;rw [tnn]
    simp only [tnn,en];refine .bifD (fun hk=>?_) fun hk => .pure ⟨a,rfl,fun t g ht hg=>?_⟩
    ·refine Mo.bind (P:=fun q=>∃ a',q=A9 a'/\∀ t g:Nat,t<p.length->g<3->Z3b.get (Z33.get a' t) g=vv x V (lrN p (t:Int) ((p.getD t default).length:Int) (g:Int) (n+1))) (.gdD ⟨by omega,hk⟩ (.bif (fun hr=>?_) fun hr => .pure ⟨a,rfl,fun t g ht hg=>?_⟩)) fun q ⟨a',ha',hA'⟩ => ?_
     ·have hnF:(n:Int)∈I8 p:=(C.mem _).2 ⟨by omega,by omega⟩;rcases r9 (p:=p) (n:=(n:Int)) (by omega) hk with h3 | ⟨t,k,hI,hn⟩
      ·rw [(qR (p:=p) (l:=n) (by omega)).1] at hr
       cases hr
      ·have hfr:=C.rdc _ hnF hr;have hI3:=hp.ins t k hI.t hI.k;have hev:=hI.ev.1;rw [<- hn] at hev;have hloc:=uj hp (n:=(n:Int)) (by omega) hk;have hj:=(((C.ods _ hloc).mem _).1 hfr);rw [tnn] at hj;obtain ⟨w1,w2,w3,w4⟩:=hwr _ hj.1 hj.2.1;obtain ⟨i1,i2,i3,i4,_,_⟩:=hI3;have hIt:=hI.t;have hIk:=hI.k;rw [hev] at hr ⊢;simp only [tnn] at hr ⊢;refine .gdD ⟨by omega,by omega⟩ (.gdD ⟨by omega,by omega⟩ (.gdD ⟨by omega,by rw [C.flen];omega⟩ (.gdD w1 (.gdY (by omega) (.gdD ⟨by omega,by omega⟩ (.gdD ⟨i3,by omega⟩ (.pure ⟨_,rfl,fun t' g ht' hg=>?_⟩)))))));rw [Co _ _ _ _ (by omega) (by omega),lrN];have hcI:lrC p (t':Int) ((p.getD t' default).length:Int) (g:Int) (ev p (n:Int))=true↔t'=t/\((p.getD t default).getD k default).Reg=(g:Int):=by
        rw [qj,hev];simp only [tnn]
        constructor
        ·rintro ⟨a1,a2,a3,a4⟩;obtain rfl:t=t':=by omega
         exact ⟨rfl,a4⟩
        ·rintro ⟨rfl,a2⟩;exact ⟨rfl,by omega,hr,a2⟩
       by_cases et:t'=t
       ·subst et;rw [if_pos rfl,wE _ _ _ _ (by omega) (by omega)]
        by_cases eg:(g:Int)=((p.getD t' default).getD k default).Reg
        ·rw [if_pos eg,if_pos (hcI.2 ⟨rfl,eg.symm⟩)];unfold vv;rw [if_neg (by omega),tnn]
        ·rw [if_neg eg,if_neg fun h=>eg (hcI.1 h).2.symm];exact n3 t' g ht' hg
       ·rw [if_neg (by omega),if_neg fun h=>et (hcI.1 h).1];exact n3 t' g ht' hg
     ·rw [lrN,if_neg]
      ·exact n3 t g ht hg
      ·intro h;rw [(qj.1 h).2.2.1] at hr
       cases hr
     ·subst ha';exact .gdI (by omega) (.pure ⟨⟨a',n+1,by omega,rfl,hA'⟩,by simp only [];omega⟩)
    ·have : n=(evs p).length:=by omega
     rw [n3 t g ht hg,this]
     rfl
  ·subst ha;refine Mo.bind (P:=fun q:Int×Int×Int=>∀ l:Nat,l<3->Z3b.get ⟨q.1,q.2.1,q.2.2⟩ l=z.mem.getD l default) ?_ fun q hM=>?_
   ·refine Mo.loop (fun q=>∃ n:Nat,n<=3/\q.2.2.2=(n:Int)/\∀ l:Nat,l<n->Z3b.get ⟨q.1,q.2.1,q.2.2.1⟩ l=z.mem.getD l default) (fun q=>(3-q.2.2.2).toNat) ⟨0,by omega,rfl,fun l hl=>absurd hl (by omega)⟩ fun q ⟨n,n1,n2,n3⟩ => ?_;obtain ⟨m0,m1,m2,m3⟩:=q;simp only at n2 n3;subst n2;unfold oO;simp only [tnn,C.olen];refine .bifD (fun hk=>?_) fun hk => .pure fun l hl=>n3 l (by omega);have hon:x.2.getD n default=(n:Int)::(kg p s s.length).filter (Wl p (n:Int)):=hro n (by omega);have hlen:(x.2.getD n default).length=((kg p s s.length).filter (Wl p (n:Int))).length+1:=by rw [hon];rfl
    have hfl:(x.2.getD n default).length<=24:=by
     have O:=((BD hp C).ords n (by omega)).1;rw [O.length_eq];exact Nat.le_trans (GH (n:Int)) hel
    have hlast:(x.2.getD n default).getD (((x.2.getD n default).length:Int)-1).toNat default=lw p (kg p s s.length) (n:Int):=by
     rw [hlen,show ((((kg p s s.length).filter (Wl p (n:Int))).length+1:Nat):Int)-1=(((kg p s s.length).filter (Wl p (n:Int))).length:Int) by omega,tnn,hon]
     rfl
    have hmem:lw p (kg p s s.length) (n:Int)∈od x (n:Int):=by
     unfold od;rw [tnn];show _∈x.2.getD n default;rw [<- hlast];exact uh (by omega)
    have hj:=((C.ods (n:Int) ⟨by omega,by omega⟩).mem _).1 hmem;obtain ⟨w1,w2,w3,w4⟩:=hwr _ hj.1 hj.2.1;have heq:=w2.det (g3.m n (by omega));simp only [hlast];refine .gdD ⟨by omega,by omega⟩ (.gdI (by omega) (.gdD ⟨by omega,by omega⟩ (.gdD w1 (.gdY (by omega) (.gdD ⟨by omega,by omega⟩ (.gdI (by omega) (.pure ⟨⟨n+1,by omega,rfl,fun l hl=>?_⟩,by simp only [];omega⟩)))))));show Z3b.get (Z3b.set ⟨m0,m1,m2⟩ (n:Int) _) (l:Int)=_;rw [wE _ _ _ _ (by omega) (by omega)]
    by_cases e:l=n
    ·subst e;rw [if_pos rfl,heq]
    ·rw [if_neg (by omega)];exact n3 l (by omega)
   ·have hR:Rel p ⟨p,⟨0,0,0⟩,a,⟨q.1,q.2.1,q.2.2⟩⟩ ⟨(p.map fun _=>(0:Int)),z.regs,z.mem,[]⟩:=by
     refine ⟨rfl,by simp,fun i hi=>?_,fun i hi=>?_,g1.rl,fun t g ht hg=>?_,g1.rv,g1.ml,fun l hl=>(hM l hl).symm,g1.mv,rfl⟩
     ·have e1:(p.map fun _=>(0:Int)).getD i default=0:=by rw [gdq,List.getElem?_map,geq hi];rfl
      rw [e1];have : i=0\/i=1\/i=2:=by omega
      rcases this with rfl | rfl | rfl <;> rfl
     ·have e1:(p.map fun _=>(0:Int)).getD i default=0:=by rw [gdq,List.getElem?_map,geq hi];rfl
      rw [e1];omega
     ·have h1:=hA t g ht hg;show _=Z3b.get (Z33.get a t) g;rw [h1];unfold vv;have hc:=hcnt t ht
      by_cases hn:lrd p (t:Int) ((p.getD t default).length:Int) (g:Int)<0
      ·rw [if_pos hn];exact g3.c t g ht hg (by rw [List.take_length,hc];exact hn)
      ·rw [if_neg hn];have h2:=g3.r t g ht hg (by rw [List.take_length,hc];exact hn);rw [List.take_length,hc] at h2;rcases AQ (p:=p) (t:Int) ((p.getD t default).length:Int) (g:Int) with ⟨k1,_⟩ | ⟨r,k1,k2,k3,_⟩
       ·omega
       ·obtain ⟨_,_,c3,_⟩:=qj.1 k3;have hrF:(r:Int)∈I8 p:=(C.mem _).2 ⟨by omega,by omega⟩;have hfr:=C.rdc _ hrF c3;have hj:=((C.ods _ (uj hp (n:=(r:Int)) (by omega) (by omega))).mem _).1 hfr;rw [k2] at h2 ⊢;obtain ⟨_,w2,_⟩:=hwr _ hj.1 hj.2.1;exact h2.det w2
    have ho:=(yd hp hR).eq;exact (LX ho).bind fun q hq => .pure (by rw [hq])
end
theorem IP (a:LI) (ha:a.length<=1048576):Mo (pI a a) (· = true):=by
 unfold pI;refine .bif (fun h=>by simp at h) fun _=>Mo.sum (PS:=fun _=>True) (PW:=(· = true)) ?_ fun _ _ => .pure rfl;refine Mo.loop (fun z=>0<=z/\z<=(a.length:Int)) (fun z=>((a.length:Int)-z).toNat) ⟨Int.le_refl _,by omega⟩ fun z ⟨h1,h2⟩ => ?_;unfold sZ;refine .bifD (fun hk => .gdD ⟨h1,hk⟩ (.gdD ⟨h1,hk⟩ (.bif (fun h=>by simp at h) fun _ => .gdI (by omega) (.pure ⟨⟨by omega,by omega⟩,by omega⟩)))) fun _ => .pure trivial
theorem Lt {code:LI} (hb:Bts code):jg code=some true:=by
 refine Mo.eq ?_;unfold jg;refine .bif (fun _ => .pure rfl) fun _=>(Ls hb).bind fun v ⟨hsm,hsl⟩ => ?_;obtain ⟨p,s⟩:=v;simp only at hsm hsl ⊢;have hsz:=hsm.sz;obtain ⟨b,x1,x2,x3,hw⟩:=EF p hsz (s:=s) (by omega);have hss:Mo (gz (CI p s b) (CI p s b)) (· = true):=(Gs x3).mono fun v hv=>by rw [hv];simp [same]
 refine (Mo.of (P:=(· = (CI p s b,b))) x1 rfl).bind fun v5 h5=>(Mo.of (P:=(· = (CI p s b,b))) x2 rfl).bind fun v6 h6=>?_;subst h5 h6;refine Mo.bind (P:=(· = false)) (.bif (fun h=>by simp at h) fun _=>hss.bind fun v hv => .pure (by rw [hv];rfl)) fun s7 h7=>?_;subst h7;refine Mo.bind (P:=(· = !b)) (.bif (fun h=>by cases h) fun _ => .pure rfl) fun s10 h10=>?_;subst h10;refine .bif (fun _=>?_) fun h=>?_
 ·exact Mo.bind (P:=(· = true)) (.bif (fun _=>hss.bind fun v hv => .pure hv) fun h=>by simp at h) fun v hv => .pure hv
 ·obtain rfl:b=true:=by simpa using h
  have hW:=hw.1 rfl;obtain ⟨o,b',r1,_,r3,r4⟩:=DZ p hsz (s:=s) (by omega);obtain rfl:=r3.2 hW;obtain ⟨z0,_,h0,ho⟩:=r4 rfl;have hout:=He hW hsz h0;rw [<- ho] at hout;have hol:o.length<=1048576:=by
   obtain ⟨u,g1,_,_⟩:=xB (PV.of hW.1) hW h0 s.length (Nat.le_refl _);have := (PV.of hW.1).vs.1;rw [ho,lla,g1.rl,g1.ml];omega
  refine hout.bind fun v14 h14=>(Mo.of (P:=(· = (o,true))) r1 rfl).bind fun v15 h15=>(Mo.of (P:=(· = (JS,true))) IE rfl).bind fun v16 h16=>?_;subst h14 h15 h16;refine (EN hW hsz).bind fun v17 h17=>?_;subst h17;refine Mo.bind (P:=(· = true)) (.bif (fun _ => .pure rfl) fun h=>by cases h) fun a ha=>?_;subst ha;refine Mo.bind (P:=(· = true)) (.bif (fun _=>(IP o hol).bind fun v hv => .pure hv) fun h=>by cases h) fun a ha=>?_;subst ha;refine Mo.bind (P:=(· = true)) (.bif (fun _ => .pure rfl) fun h=>by cases h) fun a ha=>?_;subst ha;refine Mo.bind (P:=(· = true)) (.bif (fun _ => .pure rfl) fun h=>by cases h) fun a ha=>?_;subst ha;exact Mo.bind (P:=(· = true)) (.bif (fun _ => .pure rfl) fun h=>by cases h) fun a ha => .pure ha
theorem Mx:TyF Tryz.prog 3 false 1:=⟨by kernel_rfl,by kernel_rfl,by kernel_rfl,by kernel_rfl⟩
theorem zs3:TyZ Tryz.prog 3 [I (0:Int)]:=⟨by kernel_rfl,by kernel_rfl⟩
theorem ty4:TyF Tryz.prog 4 false 1:=⟨by kernel_rfl,by kernel_rfl,by kernel_rfl,by kernel_rfl⟩
theorem zs4:TyZ Tryz.prog 4 [Bo false]:=⟨by kernel_rfl,by kernel_rfl⟩
theorem bt4:vg Tryz.prog 4=true:=by kernel_rfl
theorem ty5:TyF Tryz.prog 5 false 1:=⟨by kernel_rfl,by kernel_rfl,by kernel_rfl,by kernel_rfl⟩
theorem zs5:TyZ Tryz.prog 5 [Y (0:Int)]:=⟨by kernel_rfl,by kernel_rfl⟩
theorem ty9:TyF Tryz.prog 9 false 1:=⟨by kernel_rfl,by kernel_rfl,by kernel_rfl,by kernel_rfl⟩
theorem zs9:TyZ Tryz.prog 9 [St (⟨#[]⟩:ByteArray)]:=⟨by kernel_rfl,by kernel_rfl⟩
theorem Jb:TyF Tryz.prog 22 false 1:=⟨by kernel_rfl,by kernel_rfl,by kernel_rfl,by kernel_rfl⟩
theorem HE:TyF Tryz.prog 23 false 1:=⟨by kernel_rfl,by kernel_rfl,by kernel_rfl,by kernel_rfl⟩
theorem oH:TyF Tryz.prog 24 false 1:=⟨by kernel_rfl,by kernel_rfl,by kernel_rfl,by kernel_rfl⟩
theorem LY:TyZ Tryz.prog 24 [.nil]:=⟨by kernel_rfl,by kernel_rfl⟩
theorem Dx:TyF Tryz.prog 27 false 1:=⟨by kernel_rfl,by kernel_rfl,by kernel_rfl,by kernel_rfl⟩
theorem tG:TyF Tryz.prog 29 true 2:=⟨by kernel_rfl,by kernel_rfl,by kernel_rfl,by kernel_rfl⟩
theorem EY:TyZ Tryz.prog 29 [.nil,.nil]:=⟨by kernel_rfl,by kernel_rfl⟩
theorem wI:TyS Tryz.prog 29 [(0,1),(1,1)]:=⟨by kernel_rfl⟩
theorem JY:TyF Tryz.prog 71 false 1:=⟨by kernel_rfl,by kernel_rfl,by kernel_rfl,by kernel_rfl⟩
theorem LZ:TyZ Tryz.prog 71 [.nil]:=⟨by kernel_rfl,by kernel_rfl⟩
theorem zG:TyF Tryz.prog 74 true 5:=⟨by kernel_rfl,by kernel_rfl,by kernel_rfl,by kernel_rfl⟩
theorem Eh:TyZ Tryz.prog 74 [I (0:Int),I (0:Int),I (0:Int),Bo false,Bo false]:=⟨by kernel_rfl,by kernel_rfl⟩
theorem pO:TyS Tryz.prog 74 [(0,1),(1,1),(2,1),(3,1),(4,1)]:=⟨by kernel_rfl⟩
theorem xC:TyF Tryz.prog 91 false 1:=⟨by kernel_rfl,by kernel_rfl,by kernel_rfl,by kernel_rfl⟩
theorem L6:TyZ Tryz.prog 91 [.nil]:=⟨by kernel_rfl,by kernel_rfl⟩
theorem nD:TyF Tryz.prog 97 true 4:=⟨by kernel_rfl,by kernel_rfl,by kernel_rfl,by kernel_rfl⟩
theorem xD:TyZ Tryz.prog 97 [I (0:Int),I (0:Int),I (0:Int),I (0:Int)]:=⟨by kernel_rfl,by kernel_rfl⟩
theorem nE:TyS Tryz.prog 97 [(0,1),(1,1),(2,1),(3,1)]:=⟨by kernel_rfl⟩
theorem Lu:TyZ Tryz.prog 100 [I (0:Int),I (0:Int),I (0:Int)]:=⟨by kernel_rfl,by kernel_rfl⟩
theorem sF:TyF Tryz.prog 103 true 4:=⟨by kernel_rfl,by kernel_rfl,by kernel_rfl,by kernel_rfl⟩
theorem BG:TyZ Tryz.prog 103 [.nil,.nil,.nil,.nil]:=⟨by kernel_rfl,by kernel_rfl⟩
theorem tH:TyS Tryz.prog 103 [(0,1),(1,1),(2,1),(3,1)]:=⟨by kernel_rfl⟩
theorem BH:TyF Tryz.prog 109 true 3:=⟨by kernel_rfl,by kernel_rfl,by kernel_rfl,by kernel_rfl⟩
theorem Lv:TyF Tryz.prog 112 true 16:=⟨by kernel_rfl,by kernel_rfl,by kernel_rfl,by kernel_rfl⟩
theorem JZ:TyZ Tryz.prog 112 [.nil,Y (0:Int),Y (0:Int),Y (0:Int),Y (0:Int),Y (0:Int),Y (0:Int),Y (0:Int),Y (0:Int),Y (0:Int),Y (0:Int),Y (0:Int),Y (0:Int),Y (0:Int),Y (0:Int),Y (0:Int)]:=⟨by kernel_rfl,by kernel_rfl⟩
theorem uK:TyS Tryz.prog 112 [(0,1),(1,3),(4,9),(13,3)]:=⟨by kernel_rfl⟩
theorem KT:TyF Tryz.prog 121 true 16:=⟨by kernel_rfl,by kernel_rfl,by kernel_rfl,by kernel_rfl⟩
theorem KU:TyZ Tryz.prog 121 [.nil,Y (0:Int),Y (0:Int),Y (0:Int),Y (0:Int),Y (0:Int),Y (0:Int),Y (0:Int),Y (0:Int),Y (0:Int),Y (0:Int),Y (0:Int),Y (0:Int),Y (0:Int),Y (0:Int),Y (0:Int)]:=⟨by kernel_rfl,by kernel_rfl⟩
theorem Hf:TyS Tryz.prog 121 [(0,16)]:=⟨by kernel_rfl⟩
theorem Dy:TyF Tryz.prog 127 false 1:=⟨by kernel_rfl,by kernel_rfl,by kernel_rfl,by kernel_rfl⟩
theorem fJ:TyF Tryz.prog 129 true 3:=⟨by kernel_rfl,by kernel_rfl,by kernel_rfl,by kernel_rfl⟩
theorem vD:TyZ Tryz.prog 129 [I (0:Int),St (⟨#[]⟩:ByteArray),.nil]:=⟨by kernel_rfl,by kernel_rfl⟩
theorem pJ:TyS Tryz.prog 129 [(0,1),(1,1),(2,1)]:=⟨by kernel_rfl⟩
theorem EO:TyF Tryz.prog 133 true 4:=⟨by kernel_rfl,by kernel_rfl,by kernel_rfl,by kernel_rfl⟩
theorem IQ:TyZ Tryz.prog 133 [I (0:Int),I (0:Int),St (⟨#[]⟩:ByteArray),.nil]:=⟨by kernel_rfl,by kernel_rfl⟩
theorem EP:TyS Tryz.prog 133 [(0,1),(1,3)]:=⟨by kernel_rfl⟩
theorem Lx:TyF Tryz.prog 155 false 1:=⟨by kernel_rfl,by kernel_rfl,by kernel_rfl,by kernel_rfl⟩
theorem Ly:TyZ Tryz.prog 157 [.nil,I (0:Int)]:=⟨by kernel_rfl,by kernel_rfl⟩
theorem yn:TyS Tryz.prog 157 [(0,1),(1,1)]:=⟨by kernel_rfl⟩
theorem IR:TyF Tryz.prog 183 false 1:=⟨by kernel_rfl,by kernel_rfl,by kernel_rfl,by kernel_rfl⟩
theorem LA:TyZ Tryz.prog 185 [.nil,.nil,.nil,.nil,.nil,.nil]:=⟨by kernel_rfl,by kernel_rfl⟩
theorem vE:TyS Tryz.prog 185 [(0,1),(1,2),(3,1),(4,1),(5,1)]:=⟨by kernel_rfl⟩
theorem LB:TyZ Tryz.prog 193 [St (⟨#[]⟩:ByteArray),Bo false]:=⟨by kernel_rfl,by kernel_rfl⟩
theorem uL:TyS Tryz.prog 193 [(0,1),(1,1)]:=⟨by kernel_rfl⟩
theorem LC:TyF Tryz.prog 210 false 1:=⟨by kernel_rfl,by kernel_rfl,by kernel_rfl,by kernel_rfl⟩
theorem Ei:SlT Tryz.prog 22 5 false 1 [Y (0:Int)] 1:=⟨Tryz.underlying22,ty5,zs5,rfl,rfl,by kernel_rfl⟩
theorem lF:SlT Tryz.prog 23 91 false 1 [.nil] 24:=⟨Tryz.underlying23,xC,L6,rfl,rfl,by kernel_rfl⟩
theorem bf:SlT Tryz.prog 24 3 false 1 [I (0:Int)] 8:=⟨Tryz.underlying24,Mx,zs3,rfl,rfl,by kernel_rfl⟩
theorem xE:SlT Tryz.prog 27 24 false 1 [.nil] 24:=⟨Tryz.underlying27,oH,LY,rfl,rfl,by kernel_rfl⟩
theorem HL:SlT Tryz.prog 36 133 true 4 [I (0:Int),I (0:Int),St (⟨#[]⟩:ByteArray),.nil] 56:=⟨Tryz.underlying36,EO,IQ,rfl,rfl,by kernel_rfl⟩
theorem zH:SlT Tryz.prog 58 9 false 1 [St (⟨#[]⟩:ByteArray)] 16:=⟨Tryz.underlying58,ty9,zs9,rfl,rfl,by kernel_rfl⟩
theorem vF:SlT Tryz.prog 71 74 true 5 [I (0:Int),I (0:Int),I (0:Int),Bo false,Bo false] 32:=⟨Tryz.underlying71,zG,Eh,rfl,rfl,by kernel_rfl⟩
theorem sG:SlT Tryz.prog 91 97 true 4 [I (0:Int),I (0:Int),I (0:Int),I (0:Int)] 32:=⟨Tryz.underlying91,nD,xD,rfl,rfl,by kernel_rfl⟩
theorem zI:SlT Tryz.prog 127 129 true 3 [I (0:Int),St (⟨#[]⟩:ByteArray),.nil] 48:=⟨Tryz.underlying127,fJ,vD,rfl,rfl,by kernel_rfl⟩
theorem IU:SlT Tryz.prog 183 4 false 1 [Bo false] 1:=⟨Tryz.underlying183,ty4,zs4,rfl,rfl,by kernel_rfl⟩
def rF (ops:Array Oper) (e:Env) (o:Oper) (w:Bool):Prop:=match o.guard with
 | none=>w=true
 | some (j,b)=>(∃ q,iP ops.toList e j = .v (.bool q)/\w=(q==b))\/(iP ops.toList e j = .tup []/\w=false)
theorem rF.wants {ops:Array Oper} {e:Env} {o:Oper} {w:Bool} (h:rF ops e o w):wZ ops e o w:=by
 unfold rF at h
 cases hg:o.guard with
 | none=>
  rw [hg] at h;subst h;exact .free hg
 | some x=>
  obtain ⟨j,b⟩:=x;rw [hg] at h;rcases h with ⟨q,h1,h2⟩ | ⟨h1,h2⟩
  ·subst h2
   by_cases e1:q=b
   ·subst e1;rw [beq_self_eq_true];exact .yes hg h1 rfl
   ·have e2:(q==b)=false:=by simpa using e1
    rw [e2];exact .no hg h1 (by cases q <;> cases b <;> simp_all)
  ·subst h2;exact .un hg h1
theorem rF.congr {ops:Array Oper} {e e':Env} {o:Oper} {w:Bool} (h:rF ops e o w) (he:∀ t∈o.looksAt ops,e t=e' t):rF ops e' o w:=by
 unfold rF at h ⊢
 cases hg:o.guard with
 | none=>rw [hg] at h;exact h
 | some x=>
  obtain ⟨j,b⟩:=x;rw [hg] at h;have hy:iP ops.toList e' j=iP ops.toList e j:=by
   unfold iP
   cases hd:(ops.toList[j]?).bind (·.dst) with
   | none=>rfl
   | some d=>
    refine (he d ?_).symm;unfold Oper.looksAt;rw [hg];refine List.mem_append_right _ ?_;have : (ops[j]?).bind (·.dst)=some d:=by simpa using hd
    show d∈((ops[j]?).bind (·.dst)).toList;rw [this];simp
  simp only [hy];exact h
theorem Hg {ops:Array Oper} {e e':Env} {o:Oper} (he:∀ t∈o.looksAt ops,e t=e' t):∀ x∈o.op.operands,rho e x=rho e' x:=by
 intro x hx
 cases x with
 | tmp t=>exact he t (List.mem_append_left _ (List.mem_filterMap.2 ⟨.tmp t,by simpa using hx,rfl⟩))
 | _=>rfl
theorem CE {ops:Array Oper} {e:Env} {oi oj:Oper} {r:AV} (h:∀ d,oi.dst=some d->d∉oj.looksAt ops):∀ t∈oj.looksAt ops,uQ e oi.dst r t=e t:=by
 intro t ht
 cases hd:oi.dst with
 | none=>rfl
 | some d=>
  rw [vT];show (if t=d then r else e t)=e t;have hne:t≠d:=by
   rintro rfl;exact h t hd ht
  rw [if_neg hne]
def KV (P:Program) (ops:Array Oper) (o:Oper) (e:Env) (H:AH) (r:AV) (H':AH):Prop:=(rF ops e o true/\L9 P o (rho e) H r H')\/(rF ops e o false/\r = .tup []/\H'=H)
theorem KV.congr {P:Program} {ops:Array Oper} {o:Oper} {e e':Env} {H H':AH} {r:AV} (h:KV P ops o e H r H') (he:∀ t∈o.looksAt ops,e t=e' t):KV P ops o e' H r H':=by
 rcases h with ⟨h1,h2⟩ | ⟨h1,h2⟩
 ·exact .inl ⟨h1.congr he,h2.congr (Hg he)⟩
 ·exact .inr ⟨h1.congr he,h2⟩
def tJ (P:Program) (ops:Array Oper) (o:Oper) (e:Env) (H:AH) (r:AV) (H':AH) (F:List Nat):Prop:=
 H'.length=H.length/\(∀ b,b∉F->H'[b]? = H[b]?)/\∀ G,agree F G H->∃ G',G'.length=G.length/\(∀ b∈F,G'[b]? = H'[b]?)/\(∀ b,b∉F->G'[b]? = G[b]?)/\KV P ops o e G r G'
section
variable {P:Program} {ops:Array Oper} {o:Oper} {e:Env} {H H':AH} {r:AV} {F:List Nat}
theorem tJ.op (h:tJ P ops o e H r H' F):KV P ops o e H r H':=by
 obtain ⟨h1,h2,h3⟩:=h;obtain ⟨G',g1,g2,g3,g4⟩:=h3 H ⟨rfl,fun _ _=>rfl⟩;have : G'=H':=by
  apply List.ext_getElem?;intro b
  by_cases hb:b∈F
  ·exact g2 b hb
  ·rw [g3 b hb,h2 b hb]
 exact this ▸ g4
theorem tJ.congr {e':Env} (h:tJ P ops o e H r H' F) (he:∀ t∈o.looksAt ops,e t=e' t):tJ P ops o e' H r H' F:=by
 obtain ⟨h1,h2,h3⟩:=h;refine ⟨h1,h2,fun G hG=>?_⟩;obtain ⟨G',g1,g2,g3,g4⟩:=h3 G hG;exact ⟨G',g1,g2,g3,g4.congr he⟩
theorem tJ.at_ {G:AH} (h:tJ P ops o e H r H' F) (hG:agree F G H):∃ G',G'.length=G.length/\(∀ b∈F,G'[b]? = H'[b]?)/\(∀ b,b∉F->G'[b]? = G[b]?)/\tJ P ops o e G r G' F:=by
 obtain ⟨h1,h2,h3⟩:=h;obtain ⟨G',g1,g2,g3,g4⟩:=h3 G hG;refine ⟨G',g1,g2,g3,g1,g3,fun K hK=>?_⟩;obtain ⟨K',k1,k2,k3,k4⟩:=h3 K ⟨hK.1.trans hG.1,fun b hb=>(hK.2 b hb).trans (hG.2 b hb)⟩;exact ⟨K',k1,fun b hb=>(k2 b hb).trans (g2 b hb).symm,k3,k4⟩
theorem tJ.ofF (hw:rF ops e o true) (h:qx P o (rho e) H r H' F):tJ P ops o e H r H' F:=by
 obtain ⟨h1,h2,h3⟩:=h;refine ⟨h1,h2,fun G hG=>?_⟩;obtain ⟨G',g1,g2,g3,g4⟩:=h3 G hG;exact ⟨G',g1,g2,g3,.inl ⟨hw,g4⟩⟩
theorem tJ.skip (hw:rF ops e o false) (F:List Nat):tJ P ops o e H (.tup []) H F:=⟨rfl,fun _ _=>rfl,fun G hG=>⟨G,rfl,hG.2,fun _ _=>rfl,.inr ⟨hw,rfl,rfl⟩⟩⟩
def J9 (P:Program) (ops:Array Oper) (fp:Nat->Fp) (Q:Env->AH->Prop):Nat->Array Bool->Env->AH->Prop
 | 0,listed,e,H=>Region.ready .any ops listed=[]/\Q e H
 | fuel+1,listed,e,H=>(Region.ready .any ops listed=[]->Q e H) /\
  ∀ i∈Region.ready .any ops listed,∃ o r H',ops[i]? = some o/\tJ P ops o e H r H' (fp i).1/\((fp i).2=false->H'=H)/\J9 P ops fp Q fuel (listed.setIfInBounds i true) (uQ e o.dst r) H'
theorem EQ {ops:Array Oper} {fp:Nat->Fp} {Q:Env->AH->Prop} {i:Nat} {oi:Oper} {r:AV} (hi:ops[i]? = some oi) :
  ∀ (fuel:Nat) (listed:Array Bool) (e:Env) (H Hi:AH),
   (∀ (j:Nat) (oj:Oper),ops[j]? = some oj->j≠i->listed.getD j true=false->(∀ ed∈oj.after,Region.binds .any ed=true->ed.on≠i)->oi.apart ops oj=true/\nW (fp i) (fp j)=true) ->
   i∈Region.ready .any ops listed->tJ P ops oi e H r Hi (fp i).1->((fp i).2=false->Hi=H)->J9 P ops fp Q fuel (listed.setIfInBounds i true) (uQ e oi.dst r) Hi->J9 P ops fp Q (fuel+1) listed e H:=by
 intro fuel
 induction fuel with
 | zero=>
  intro listed e H Hi _ hr hy hro hA;refine ⟨fun h=>(by rw [h] at hr;cases hr),fun j hj=>?_⟩
  by_cases hji:j=i
  ·subst hji;exact ⟨oi,r,Hi,hi,hy,hro,hA⟩
  ·have := ready_mono hj hji;rw [hA.1] at this
   cases this
 | succ fuel ih=>
  intro listed e H Hi hfree hr hy hro hA;refine ⟨fun h=>(by rw [h] at hr;cases hr),fun j hj=>?_⟩
  by_cases hji:j=i
  ·subst hji;exact ⟨oi,r,Hi,hi,hy,hro,hA⟩
  ·obtain ⟨oj,q,Hj,hoj,hsj,hroj,hAj⟩:=hA.2 j (ready_mono hj hji);obtain ⟨hjun,oj',hoj',hall⟩:=mem_ready.1 hj;rw [hoj] at hoj';injection hoj' with hoj';subst hoj';have hnot:∀ ed∈oj.after,Region.binds .any ed=true->ed.on≠i:=fun ed he hb heq=>by
    have h1:=hall ed he hb;have h0:=(mem_ready.1 hr).1;rw [heq] at h1;rcases Nat.lt_or_ge i listed.size with h' | h'
    ·simp [h'] at h0 h1;rw [h0] at h1;cases h1
    ·simp [Array.getElem?_eq_none h'] at h1
   obtain ⟨hap,hcm⟩:=hfree j oj hoj hji hjun hnot;obtain ⟨h1,h2,h3⟩:=Oper.apart_spec hap;have ej:=CE (e:=e) (r:=r) h1;have ei:=CE (e:=e) (oi:=oj) (r:=q) h3;have hsj':=hsj.congr ej;have hfree':∀ (k:Nat) (ok:Oper),ops[k]? = some ok->k≠i->(listed.setIfInBounds j true).getD k true=false->(∀ ed∈ok.after,Region.binds .any ed=true->ed.on≠i)->oi.apart ops ok=true/\nW (fp i) (fp k)=true:=fun k ok hk hki hun hno=>by
    refine hfree k ok hk hki ?_ hno
    by_cases hjk:j=k
    ·subst hjk;exact hjun
    ·rw [getD_set_ne true hjk] at hun;exact hun
   have fin:∀ Hj',tJ P ops oj e H q Hj' (fp j).1->((fp j).2=false->Hj'=H)->tJ P ops oi e Hj' r Hj (fp i).1->((fp i).2=false->Hj=Hj')->∃ o r' H',ops[j]? = some o/\tJ P ops o e H r' H' (fp j).1/\((fp j).2=false->H'=H)/\J9 P ops fp Q (fuel+1) (listed.setIfInBounds j true) (uQ e o.dst r') H':=fun Hj' s1 s1' s2 s2'=>by
    refine ⟨oj,q,Hj',hoj,s1,s1',ih (listed.setIfInBounds j true) (uQ e oj.dst q) Hj' Hj hfree' (ready_mono hr (Ne.symm hji)) (s2.congr fun x hx=>(ei x hx).symm) s2' ?_⟩;rw [Array.setIfInBounds_comm _ _ hji,zg (fun d hd=>fun hd'=>h2 d (by simpa using hd') (by simpa using hd))];exact hAj
   simp only [nW,Bool.or_eq_true,bae,Bool.not_eq_true',List.all_eq_true,List.contains_eq_mem,decide_eq_false_iff_not] at hcm;rcases hcm with hdis | ⟨w1,w2⟩
   ·have hag:agree (fp j).1 H Hi:=⟨hy.1.symm,fun b hb=>(hy.2.1 b (fun hbi=>hdis b hbi hb)).symm⟩;obtain ⟨Hj',a1,a2,a3,a4⟩:=hsj'.at_ hag;have hag2:agree (fp i).1 Hj' H:=⟨a1,fun b hb=>a3 b (hdis b hb)⟩;obtain ⟨K,b1,b2,b3,b4⟩:=hy.at_ hag2;have hKH:K=Hj:=by
     apply List.ext_getElem?;intro b
     by_cases hbi:b∈(fp i).1
     ·rw [b2 b hbi,hsj'.2.1 b (hdis b hbi)]
     ·rw [b3 b hbi]
      by_cases hbj:b∈(fp j).1
      ·exact a2 b hbj
      ·rw [a3 b hbj,hsj'.2.1 b hbj,hy.2.1 b hbi]
    subst hKH;refine fin Hj' a4 (fun hw=>?_) b4 (fun hw=>?_)
    ·apply List.ext_getElem?;intro b
     by_cases hbj:b∈(fp j).1
     ·rw [a2 b hbj,hroj hw,hy.2.1 b (fun hbi=>hdis b hbi hbj)]
     ·exact a3 b hbj
    ·apply List.ext_getElem?;intro b
     by_cases hbi:b∈(fp i).1
     ·rw [b2 b hbi,hro hw,a3 b (hdis b hbi)]
     ·exact b3 b hbi
   ·obtain rfl:=hro w1;obtain rfl:=hroj w2;exact fin _ hsj' (fun _=>rfl) hy (fun _=>rfl)
def La (ops:Array Oper) (fp:Nat->Fp):Bool:=
 Region.lexB .any ops &&
 (List.range ops.size).all fun i=>(List.range ops.size).all fun j=>decide (j<=i)||nW (fp i) (fp j)||match ops[j]? with
  | some oj=>oj.after.any fun ed=>Region.binds .any ed&&ed.on==i
  | none=>true
def TG (P:Program) (ops:Array Oper) (fp:Nat->Fp):Nat->List Oper->(Env->AH->Prop)->Env->AH->Prop
 | _,[],K,e,H=>K e H
 | k,o::rest,K,e,H=>∃ r H',tJ P ops o e H r H' (fp k).1/\((fp k).2=false->H'=H)/\TG P ops fp (k+1) rest K (uQ e o.dst r) H'
theorem Hh {ops:Array Oper} {fp:Nat->Fp} {Q:Env->AH->Prop} (hc:La ops fp=true):∀ (l:List Oper) (k:Nat) (listed:Array Bool) (e:Env) (H:AH),(∀ j,l[j]? = ops[k+j]?)->listed.size=ops.size->(∀ j,j<k->listed.getD j true=true) ->
  Region.lexFrom .any ops l.length k listed=true->TG P ops fp k l Q e H->J9 P ops fp Q l.length listed e H
 | [],k,listed,e,H,_,_,_,hB,h=>⟨by simpa [Region.lexFrom] using hB,h⟩
 | o::l,k,listed,e,H,hl,hsz,hbef,hB,h=>by
  have h0:ops[k]? = some o:=by simpa using (hl 0).symm
  have hk:k<ops.size:=(Array.getElem?_eq_some_iff.1 h0).1;simp only [llc,Region.lexFrom,bae] at hB;obtain ⟨⟨hr,hf⟩,hB'⟩:=hB;obtain ⟨r,H',hs,hro,hK⟩:=h;refine EQ h0 l.length listed e H H' (fun j oj hj hne hun hno=>⟨Region.free_spec h0 hf j oj hj hne hun hno,?_⟩) (by simpa using hr) hs hro
   (Hh hc l (k+1) _ _ _ (fun j=>by have := hl (j+1);simpa [Nat.add_assoc,Nat.add_comm 1 j] using this) (by simpa using hsz) (fun j hj=>?_) hB' hK)
  ·have hjs:j<ops.size:=(Array.getElem?_eq_some_iff.1 hj).1;have hkj : ¬ j<=k:=fun hle=>by
    have := hbef j (by omega);rw [this] at hun
    cases hun
   simp only [La,bae,List.all_eq_true,List.mem_range] at hc;have := hc.2 k hk j hjs;simp only [hj,Bool.or_eq_true,dte,hkj,false_or] at this;rcases this with h1 | h1
   ·exact h1
   ·rw [Array.any_eq_true'] at h1;obtain ⟨ed,h2,h3⟩:=h1;simp only [bae,beq_iff_eq] at h3;exact absurd h3.2 (hno ed h2 h3.1)
  ·by_cases e:j=k
   ·subst e;simp [hsz,hk]
   ·rw [getD_set_ne true (Ne.symm e)];exact hbef j (by omega)
theorem xG {nt:Nat} {ops:Array Oper} {fp:Nat->Fp} {Q:Exit->Env->AH->Prop} (hd:Fv nt ops.toList=true):∀ (fuel:Nat) (listed:Array Bool) (e:Env) (H:AH),J9 P ops fp (Q .normal) fuel listed e H ->
  ∀ (c c0:Cx) (a:Act),c.H=H->Ext c0 c->SRel c nt e a->wpAny P .any ops (KY nt c0 Q) fuel listed a c.w
 | 0,listed,e,H,h,c,c0,a,hH,hx,hs=>⟨h.1,trivial,c,e,rfl,hx,hs,hH ▸ h.2⟩
 | fuel+1,listed,e,H,h,c,c0,a,hH,hx,hs=>by
  refine ⟨fun hr=>⟨trivial,c,e,rfl,hx,hs,hH ▸ h.1 hr⟩,fun i hi=>?_⟩;obtain ⟨o,r,H',ho,hst,_,hA⟩:=h.2 i hi;have hm:o∈ops.toList:=by rw [Array.mem_toList_iff];exact Array.mem_of_getElem? ho
  unfold wpOp;simp only [ho];rcases hst.op with ⟨hw,hop⟩ | ⟨hw,rfl,rfl⟩
  ·rw [if_pos (hw.wants nt c a hs)];refine .inl (hop c a _ _ hH hs.heap (fun x _=>hs.rho x) fun v c' hH' hr' hx' hv=>?_);exact xG hd fuel _ _ H' hA c' c0 _ hH' (hx.trans hx') (hs.put o.dst (pX hd hm) hx' hr' hv)
  ·rw [hw.wants nt c a hs];exact xG hd fuel _ _ _ hA c c0 _ hH hx (hs.put o.dst (pX hd hm) (Ext.refl c) hs.heap (.tup (vs:=#[]) rfl (fun i q u hq=>by simp at hq)))
end
section
variable {P:Program} {nt b0:Nat} {Q:Exit->Env->AH->Prop} {e:Env} {H H':AH} {r:AV}
theorem T.drawG {i:Nat} {ops:Array Oper} (fp:Nat->Fp) (hm:P.follows .mixedOrders=true) (hc:La ops fp=true) (h:TG P ops fp 0 ops.toList (Q .normal) e H):T P nt b0 (.region i ops true) Q e H:=by
 intro hok c c0 a hH hb hx hs;simp only [codeOk] at hok;have hc':=hc;simp only [La,bae,Region.lexB] at hc';refine wp_region_any hm ?_;have hlex:=Hh hc ops.toList 0 (Array.replicate ops.size false) e H (fun j=>by simp) (by simp) (fun j hj=>absurd hj (by omega)) (by simpa using hc'.1.2) h;have := xG hok ops.toList.length _ e H hlex c.drew c0 a hH (hx.trans c.drew_ext) ⟨hs.size,hs.defers,fun t=>(hs.rel t).ext hs.heap c.drew_ext,Cx.drew_rel hs.heap⟩;rw [Array.length_toList] at this;exact this
variable {ops:Array Oper} {d:Tmp} {op:Op} {ty:TypeId} {pos:String} {af:Array Edge} {en:List (Nat×AV)} {fp:Nat->Fp} {i:Nat} {K:Env->AH->Prop} {l:List Oper}
theorem TG.nil {k:Nat} (h:K e H):TG P ops fp k [] K e H:=h
theorem rF.y {o:Oper} {j:Nat} {b q:Bool} (hg:o.guard=some (j,b)) (hy:iP ops.toList e j = .v (.bool q)) (hq:q=b):rF ops e o true:=by
 unfold rF;rw [hg];exact .inl ⟨q,hy,by rw [hq];simp⟩
theorem rF.n {o:Oper} {j:Nat} {b q:Bool} (hg:o.guard=some (j,b)) (hy:iP ops.toList e j = .v (.bool q)) (hq:q = !b):rF ops e o false:=by
 unfold rF;rw [hg];exact .inl ⟨q,hy,by rw [hq];cases b <;> rfl⟩
theorem rF.u {o:Oper} {j:Nat} {b:Bool} (hg:o.guard=some (j,b)) (hy:iP ops.toList e j = .tup []):rF ops e o false:=by
 unfold rF;rw [hg];exact .inr ⟨hy,rfl⟩
theorem tN (hc:fp i=([],false)) (hv:Mc P (rho (au en)) op r) (h:TG P ops fp (i+1) l K (au ((d,r)::en)) H):TG P ops fp i (⟨some d,op,ty,pos,af,none⟩::l) K (au en) H:=
 ⟨r,H,by rw [hc];exact .ofF rfl (Da hv),fun _=>rfl,h⟩
theorem tR (F:List Nat) (hc:fp i=(F,false)) (hv:∀ G,agree F G H->EvA P (rho (au en)) op G r G) (h:TG P ops fp (i+1) l K (au ((d,r)::en)) H):TG P ops fp i (⟨some d,op,ty,pos,af,none⟩::l) K (au en) H:=
 ⟨r,H,by rw [hc];exact .ofF rfl (Db hv),fun _=>rfl,h⟩
theorem My {j:Nat} {b q:Bool} (hy:iP ops.toList (au en) j = .v (.bool q)) (hq:q=b) (hc:fp i=([],false)) (hv:Mc P (rho (au en)) op r) (h:TG P ops fp (i+1) l K (au ((d,r)::en)) H):TG P ops fp i (⟨some d,op,ty,pos,af,some (j,b)⟩::l) K (au en) H:=
 ⟨r,H,by rw [hc];exact .ofF (.y rfl hy hq) (Da hv),fun _=>rfl,h⟩
theorem tgR {j:Nat} {b q:Bool} (hy:iP ops.toList (au en) j = .v (.bool q)) (hq:q=b) (F:List Nat) (hc:fp i=(F,false)) (hv:∀ G,agree F G H->EvA P (rho (au en)) op G r G) (h:TG P ops fp (i+1) l K (au ((d,r)::en)) H):TG P ops fp i (⟨some d,op,ty,pos,af,some (j,b)⟩::l) K (au en) H:=
 ⟨r,H,by rw [hc];exact .ofF (.y rfl hy hq) (Db hv),fun _=>rfl,h⟩
theorem MB {j:Nat} {b q:Bool} (hy:iP ops.toList (au en) j = .v (.bool q)) (hq:q = !b) (h:TG P ops fp (i+1) l K (au ((d,.tup [])::en)) H):TG P ops fp i (⟨some d,op,ty,pos,af,some (j,b)⟩::l) K (au en) H:=
 ⟨.tup [],H,.skip (.n rfl hy hq) _,fun _=>rfl,h⟩
theorem tgU {j:Nat} {b:Bool} (hy:iP ops.toList (au en) j = .tup []) (h:TG P ops fp (i+1) l K (au ((d,.tup [])::en)) H):TG P ops fp i (⟨some d,op,ty,pos,af,some (j,b)⟩::l) K (au en) H:=
 ⟨.tup [],H,.skip (.u rfl hy) _,fun _=>rfl,h⟩
end
theorem Ej {p:List (List Mh)} (h:EK p=true):p.length<=1048576/\∀ i,(p.getD i []).length<=1048576:=by
 simp only [EK,bae,dte,List.all_eq_true] at h;refine ⟨h.1,fun i=>?_⟩
 by_cases hi:i<p.length
 ·simpa [hi] using h.2 _ (List.getElem_mem hi)
 ·simp [hi]
theorem AX {n m:Nat} (hn:n<=2097152) (hm:Nat.ble m 1000=true):dW n m=true:=by
 have h1:=nlb hm;have h2:n*m<=2097152*1000:=Nat.mul_le_mul hn h1;exact decide_eq_true ⟨by omega,by omega⟩
theorem Hk (p:List (List Mh)) {i:Nat} (h:i<p.length):p.take (i+1)=p.take i++[p.getD i []]:=by
 have e:p.getD i []=p[i]:=by rw [gdq,geq h];rfl
 rw [e];exact (List.take_append_getElem h).symm
theorem Hl (p:List (List Mh)) (hp:EK p=true):dC Tryz.prog 120 [eL (cL Mh.c) p] [] (Dc 4 97 91 Mh.c (fun x=>x) p 0 []):=by
 obtain ⟨hp1,hp2⟩:=Ej hp;refine dC.mkON Tryz.func120 rfl (by kernel_rfl) rfl (by kernel_rfl) (e0:=au [(0,eL (cL Mh.c) p)]) (Mb rfl Ma) zm Mh.isF ?_;refine T.seq ?_;refine T.region ?_;refine oN (Mc.asg (.nil) rfl) ?_;refine TO.nil ?_;refine T.seq ?_;refine T.region ?_;refine oA (EvA.mkR ([]:List (List AV)) lF rfl rfl rfl rfl) ?_;refine oN (Mc.asg (hS false 0 0 1 0) rfl) ?_;refine TO.nil ?_;refine T.seq ?_;refine T.seq ?_;refine T.region ?_;refine oN (Mc.asg (I 0) rfl) ?_;refine TO.nil ?_;refine T.block ?_;refine T.loop (S:=Nat) (G:=NG×AH×Nat) (E:=Nat) (x:=p.length) (fun i=>if i<p.length then some (.inl (i+1)) else some (.inr i)) (fun i g=>i<=p.length/\NK 1 (some ⟨g.2.2,1,91,cg g.1 4 (p.take i)⟩::g.2.1) g.1 4 97 Mh.c (p.take i))
  (fun i g=>[(4,I i),(3,hS false 0 g.2.2 1 (p.take i).length),(0,eL (cL Mh.c) p)]) (fun i g=>some ⟨g.2.2,1,91,cg g.1 4 (p.take i)⟩::g.2.1) (s0:=0) (fun _=>(false,0,0),[],0)
  (zk (fun i=>i) p.length (fun i hi=>by simp [hi]) (by simp)) ⟨Nat.zero_le _,by exact NK.nil⟩ (yc rfl (Mb rfl (Mb rfl (Mb rfl Ma)))) (fun i g z hz hinv=>?_)
 obtain ⟨gh,K,ver⟩:=g;obtain ⟨hle,hN⟩:=hinv;simp only at hN;generalize hl:p.take i=l at hN ⊢;refine T.seq ?_;refine T.seq ?_;refine T.region ?_;refine oN (Mc.mv (I i) rfl) ?_;refine oN (Mc.mv (eL (cL Mh.c) p) rfl) ?_;refine oN (Mc.lenL lF rfl) ?_;refine oN (Mc.ilt rfl rfl) ?_;refine TO.nil ?_;have hll:l.length=i:=by rw [<- hl,List.length_take];omega
 refine T.cond rfl (fun q=>?_) (fun q=>?_)
 ·have hi:i<p.length:=by have := of_decide_eq_true q;omega
  rw [if_pos hi] at hz;obtain rfl:=osl hz;have hrow:=hp2 i;have htk:=Hk p hi;rw [hl] at htk;generalize hr:p.getD i []=row at hrow htk;refine T.skip ?_;refine T.seq ?_;refine T.block ?_;refine T.region ?_;refine oN (Mc.mv (hS false 0 ver 1 l.length) rfl) ?_;refine oA (EvA.mkO (c:=Mh.c) (b:=K.length+1) ([]:List Mh) [] sG rfl rfl rfl (fun _=>rfl) rfl rfl) ?_;refine oN (Mc.mv (eL (cL Mh.c) p) rfl) ?_;refine oN (Mc.mv (I i) rfl) ?_;refine oN (Mc.ixL lF rfl rfl ⟨by omega,by omega⟩ (fun _=>rfl)) ?_;refine oN (Mc.loadfp (eL Mh.c row) xC rfl (by subst hr;rfl)) ?_;refine oA (EvA.appF (l:=([]:List Mh)) row sG (by kernel_rfl) rfl rfl (Bl (H:=_::K)) (bG.fz (l:=row) rfl (fun _=>rfl)) (AX (by simp;omega) rfl)) ?_;refine TO.clean (H0:=some ⟨ver,1,91,cg gh 4 l⟩::(K++[bE false 1 4 97 (row.map Mh.c)])) (e0:=au [(18,hS false (K.length+1) 1 4 row.length),(12,hS false 0 ver 1 l.length),(4,I i),(0,eL (cL Mh.c) p)]) (Ib (H:=_::K)).symm (Mb rfl (Mb rfl (Mb rfl (Mb rfl Ma)))) ?_;refine oA (EvA.mkR (b:=(K++[bE false 1 4 97 (row.map Mh.c)]).length+1) [[hS false (K.length+1) 1 4 row.length]] lF rfl rfl rfl rfl) ?_;refine oA (EvA.appR (g:=false) (rows:=cg gh 4 l) (rows':=cg gh 4 l++[[hS false (K.length+1) 1 4 row.length]]) (n':=l.length+1) lF (by kernel_rfl) rfl rfl (dD gh 4 l).symm nofun (bG.raw (rows:=[[hS false (K.length+1) 1 4 row.length]]) rfl (Bl (H:=_::(K++[_]))) rfl) (AX (by simp;omega) rfl) rfl rfl) ?_;refine oN (Mc.asg (hS false 0 (ver+1) 1 (l.length+1)) rfl) ?_;refine TO.nil ?_;refine T.region ?_;refine oN (Mc.mv (I i) rfl) ?_;refine oN (Mc.add rfl rfl (IntWalk.i64_in _ ⟨by omega,by omega⟩)) ?_;refine oN (Mc.asg (I (i+1:Nat)) rfl) ?_;refine TO.nil ?_;refine ⟨i+1,(gh.put l.length (false,K.length+1,1),K++[bE false 1 4 97 (row.map Mh.c)]++[some ⟨0,1,91,[[hS false (K.length+1) 1 4 row.length]]⟩],ver+1),rfl,⟨hi,?_⟩,yc ?_ (Mb rfl (Mb ?_ (Mb rfl Ma)))⟩
  ·rw [htk];refine hN.snoc (id:=K.length+1) (by simp) (by omega) (fun b h1 h2=>?_) ?_ nofun
   ·match b,h1 with
    | b+1,_=>
     simp only [llc,Nat.add_lt_add_iff_right] at h2;simp only [List.getElem?_cons_succ,List.append_assoc];exact gal h2
   ·simp only [List.getElem?_cons_succ];exact Cf
  ·show some (ABlk.mk _ _ _ (cg _ 4 (p.take (i+1))))::_=_;rw [htk,<- xd]
   rfl
  ·show hS false 0 (ver+1) 1 (l.length+1)=hS false 0 (ver+1) 1 (p.take (i+1)).length;rw [htk,lla]
   rfl
 ·have hi : ¬ i<p.length:=by have := of_decide_eq_false q;omega
  rw [if_neg hi] at hz;obtain rfl:=osl hz;refine T.exit ?_;refine ⟨_,rfl,fun he=>?_⟩;subst he;rw [List.take_length] at hl;subst hl;refine T.seq ?_;refine T.region ?_;refine oN (Mc.mv (hS false 0 ver 1 p.length) rfl) ?_;refine oN (Mc.asg (hS false 0 ver 1 p.length) rfl) ?_;refine TO.nil ?_;refine T.ret ?_
  repeat first | refine cn ?_ | refine cu ?_
  exact Fin.ret (vs:=[hS false 0 ver 1 p.length]) (.cons (.tmp rfl) .nil) ⟨0,ver,gh,rfl,rfl,⟨fun i hi=>⟨Nat.zero_le _,(hN.at_ i hi).2⟩,hN.zY,hN.sep⟩,fun i hi h0=>absurd (hN.at_ i hi).1 (by omega)⟩
theorem NK.row {r o:Option ABlk} {K:AH} {gh:NG} {w:Nat} {ty:TypeId} {f:Mh->List AV} {l:List (List Mh)} (h:NK 2 (r::o::K) gh w ty f l) {i:Nat} (hi:i<l.length):∃ g k v,gh i=(g,k+2,v)/\k<K.length/\K[k]? = some (bE g v w ty ((l.getD i []).map f))/\(g=true->l.getD i []=[]):=by
 obtain ⟨h1,h2⟩:=h.at_ i hi;have h3:=h.zY i hi;generalize he:gh i=x at h1 h2 h3;obtain ⟨g,id,v⟩:=x;simp only at h1 h2 h3;obtain ⟨k,rfl⟩:∃ k,id=k+2:=⟨id-2,by omega⟩;simp only [List.getElem?_cons_succ] at h2;exact ⟨g,k,v,rfl,(ges h2).1,h2,h3⟩
theorem NK.turn {r o r' o':Option ABlk} {K:AH} {gh:NG} {w:Nat} {ty:TypeId} {f:Mh->List AV} {l:List (List Mh)} (h:NK 2 (r::o::K) gh w ty f l) {i:Nat} (hi:i<l.length) {g:Bool} {k v:Nat} (he:gh i=(g,k+2,v)) {g':Bool} {v':Nat} {x:List Mh} (hg:g'=true->x=[]) :
  NK 2 (r'::o'::K.set k (bE g' v' w ty (x.map f))) (gh.put i (g',k+2,v')) w ty f (l.set i x):=by
 have h1:=h.set hi (g:=g') (ver:=v') (r:=x) hg;rw [he] at h1;refine h1.low fun b hb _=>?_
 match b,hb with
 | b+2,_=>simp [List.getElem?_cons_succ]
abbrev jA:=@TO.nil
abbrev jC:=@T.region
abbrev jE:=@T.block
abbrev jG:=@T.skip
abbrev jH:=@T.seq
abbrev jI:=@T.sr
abbrev jK:=@T.ret
abbrev jM:=@T.exit
abbrev jN:=@T.ifH
abbrev jO:=@T.loop
abbrev jP:=@T.drawF
abbrev jQ:=@Fin.ret
abbrev jR:=@TF.nil
theorem qC {m:Nat} {H:AH} {a:AV} (h:isF 9 a=true):Fz m H a a:=.of_isF 9 _ h
theorem qD {α:Sort _} {β:α->Sort _} {f:(x:α)->β x}:∀ x,f x=f x:=fun _=>rfl
theorem yp (code:LI) {q:ah} (h:kD code=some q):dz Tryz.prog 58 [eL cY code] [] (.hp 0 0 2 0 0) [some ⟨0,2,157,[(ah.c q)]⟩]:=by
 refine aM Tryz.func58 Z (by kernel_rfl) Z (jI (oN as' (jA ?_)));refine T.jU h (fun s1=>[(0,eL cY s1)]) (fun s1=>[]) (fun s1 h=>?_) (fun s1 h=>?_)
 ·refine jI (oN mv (oN (Mc.build [eL cY s1,I U] Tryz.underlying157 Ly yn Z Z) (oA (EvA.bx (cs:=[eL cY s1,I U]) Z Z Z) (oN as' (jA (jK ?_))))));obtain rfl:=Mg h
  repeat (first|refine cn ?_|refine cu ?_)
  exact ⟨au [(2,.hp 0 0 2 0 0)],[some ⟨0,2,157,[(ah.c (⟨s1,U⟩:ah))]⟩],kw Z Z,jQ (vs:=[.hp 0 0 2 0 0]) (.cons (.tmp Z) .nil) ⟨Z,Z⟩⟩
 ·refine jI (oN mv (oN (Mc.lenL Ei Z) (oN (Mc.igt Z Z) (jA ?_))));refine jN Z h (fun q2 h=>?_) (fun q2 h=>?_)
  ·refine jC (oN mv (jD h fun g3 h=>oN (Mc.slL Ei Z .no (.yes Z) g3 qD) (oN as' (jA ?_))))
   cases h
   exact ⟨(),trivial,kw Z Z⟩
  ·refine jG ?_
   cases h
   exact ⟨(),trivial,kw Z Z⟩
set_option maxHeartbeats 4000000 in
theorem aL (r_:ah) (n:Int) (aH:Nat) {q:ah×Int} (h:aG r_ n=some q):dz Tryz.prog 121 [.hp 0 aH 2 0 0,I n] [some ⟨aH,2,157,[(ah.c r_)]⟩] (I q.2) [some ⟨aH,2,157,[(ah.c q.1)]⟩]:=by
 refine aM Tryz.func121 Z (by kernel_rfl) Z (jI (oN as' (jA (jI (oN mv (oN mv (oN (nl Z) (oN (fa yn Z) (oA (lh (I r_.p) Mx Z Z Z) (jW h fun g1 h=>oN (Mc.add Z Z g1) (oN (nl Z) (oN (fa yn Z) (oV (sr [eL cY r_.b,I (r_.p+V)] Mx Z Z Z Z) (jA ?_))))))))))))));refine jH (jI (oN mv (oN (Mc.ilt Z Z) (oN mv ?_))));refine TO.jB h 7 (fun s2=>[(24,Bo s2),(0,.hp 0 aH 2 0 0),(1,I n)]) (fun s2=>[some ⟨aH,2,157,[[eL cY r_.b,I (r_.p+V)]]⟩]) (fun s2 q3 h js2=>?_) (fun s2 q3 h js2=>?_) (fun s2 h=>?_)
 ·refine gS Z q3 (gS Z q3 (gS Z q3 (gS Z q3 (gS Z q3 (gS Z q3 (oN (Mc.pickT Z q3 (Bo true) Z) ?_))))))
  cases h
  exact js2 _ _ (kw Z Z)
 ·refine gN Z q3 mv (gN Z q3 (nl Z) (gN Z q3 (fa yn Z) (gA Z q3 (lh (eL cY r_.b) Jb Z Z Z) (gN Z q3 (Mc.lenL Ei Z) (gN Z q3 (Mc.ieq Z Z) (oN (Mc.pickF Z q3 (Bo ((r_.b.length:Int)==U)) Z) ?_))))))
  cases h
  exact js2 _ _ (kw Z Z)
 ·refine jA ?_;refine jN Z h (fun q4 h=>?_) (fun q4 h=>?_)
  ·refine jI (oN as' (jA (jK ?_)));obtain rfl:=Mg h
   repeat (first|refine cn ?_|refine cu ?_)
   exact ⟨au [(4,I U)],[some ⟨aH,2,157,[(ah.c (⟨r_.b,(r_.p+V)⟩:ah))]⟩],kw Z Z,jQ (vs:=[I U]) (.cons (.tmp Z) .nil) ⟨Z,Z⟩⟩
  ·refine jG (jI (oN mv (oN (nl Z) (oN (fa yn Z) (oA (lh (I (r_.p+V)) Mx Z Z Z) (jW h fun g5 h=>oN (Mc.sub Z Z g5) (oN as' (jA (jH (jI (oN mv (oN mv (oN (nl Z) (oN (fa yn Z) ?_))))))))))))));refine oA (lh (eL cY r_.b) Jb Z Z Z) (oN (Mc.lenL Ei Z) (oN (Mc.ilt Z Z) (jA ?_)));refine jN Z h (fun q6 h=>?_) (fun q6 h=>?_)
   ·refine jI (oN mv (oN (nl Z) (oN (fa yn Z) (oA (lh (eL cY r_.b) Jb Z Z Z) (oN mv (jD h fun g7 h=>oN (Mc.ixL Ei Z Z g7 qD) (oN (lf (Y (J r_.b ((r_.p+V)-V))) ty5 Z) (jW h fun g8 h=>oN (Mc.iconv ty5.und Tryz.underlying3 Z g8) (oN mv (jD h fun g9 h=>oN (Mc.rem Z Z g9) (oN as' (jA ?_))))))))))));refine jK ?_;obtain rfl:=Mg h
    repeat (first|refine cn ?_|refine cu ?_)
    exact ⟨au [(4,I ((J r_.b ((r_.p+V)-V)).tmod n))],[some ⟨aH,2,157,[(ah.c (⟨r_.b,(r_.p+V)⟩:ah))]⟩],kw Z Z,jQ (vs:=[I ((J r_.b ((r_.p+V)-V)).tmod n)]) (.cons (.tmp Z) .nil) ⟨Z,Z⟩⟩
   ·refine jG (jH (jP (dG [dF,dF,dF,([0],false),dF,dF,dF,dF,([0],false),dF,dF,dF,dF,dF,dF,dF,dF,dF,([0],false),dF,dF,dF,dF,dF,dF,([0],false),dF,dF,dF,dF,dF,dF,dF,dF,dF,dF,dF,dF,dF,dF,([0],false),dF,dF,dF,dF,dF]) (by kernel_rfl) (by kernel_rfl) (fN Z mv (fN Z (nl Z) (fN Z (fa yn Z) (fR [0] Z (fun G hG=>EvA.loadhp (eL cY r_.b) Jb Z (hG.a0 Z) Z Z Z Z) (fN Z mv (fN Z mv (fN Z (nl Z) (fN Z (fa yn Z) (fR [0] Z (fun G hG=>EvA.loadhp (eL cY r_.b) Jb Z (hG.a0 Z) Z Z Z Z) (fN Z (Mc.lenL Ei Z) (jD h fun g10 h=>fN Z (Mc.rem Z Z g10) (jD h fun g11 h=>?_))))))))))))));refine fN Z (Mc.ixL Ei Z Z g11 qD) (fN Z (lf (Y (J r_.b (((r_.p+V)-V).tmod (r_.b.length:Int)))) ty5 Z) (jW h fun g12 h=>fN Z (Mc.iconv ty5.und Tryz.underlying3 Z g12) (jW h fun g13 h=>fN Z (Mc.mul Z Z g13) (fN Z mv (fN Z (nl Z) (fN Z (fa yn Z) (fR [0] Z (fun G hG=>EvA.loadhp (eL cY r_.b) Jb Z (hG.a0 Z) Z Z Z Z) (fN Z mv (jW h fun g14 h=>fN Z (Mc.mul Z Z g14) (jW h fun g15 h=>fN Z (Mc.add Z Z g15) (fN Z mv ?_)))))))))));refine fN Z (nl Z) (fN Z (fa yn Z) (fR [0] Z (fun G hG=>EvA.loadhp (eL cY r_.b) Jb Z (hG.a0 Z) Z Z Z Z) (fN Z (Mc.lenL Ei Z) (fN Z (Mc.rem Z Z g10) (jD h fun g16 h=>fN Z (Mc.ixL Ei Z Z g16 qD) (fN Z (lf (Y (J r_.b (((((r_.p+V)-V)*(7:Int))+(3:Int)).tmod (r_.b.length:Int)))) ty5 Z) (jW h fun g17 h=>fN Z (Mc.iconv ty5.und Tryz.underlying3 Z g17) (jW h fun g18 h=>fN Z (Mc.mul Z Z g18) (jW h fun g19 h=>fN Z (Mc.add Z Z g19) (fN Z mv (jW h fun g20 h=>?_)))))))))));refine fN Z (Mc.mul Z Z g20) (jW h fun g21 h=>fN Z (Mc.add Z Z g21) (fN Z mv (fN Z mv (fN Z (nl Z) (fN Z (fa yn Z) (fR [0] Z (fun G hG=>EvA.loadhp (eL cY r_.b) Jb Z (hG.a0 Z) Z Z Z Z) (fN Z (Mc.lenL Ei Z) (jW h fun g22 h=>fN Z (Mc.quo Z Z g10 g22) (jW h fun g23 h=>fN Z (Mc.mul Z Z g23) (jW h fun g24 h=>fN Z (Mc.add Z Z g24) (fN Z as' ?_)))))))))));refine jR (jH (T.clean (H0:=[some ⟨aH,2,157,[[eL cY r_.b,I (r_.p+V)]]⟩]) (e0:=au [(6,I (((((J r_.b (((r_.p+V)-V).tmod (r_.b.length:Int)))*(131:Int))+((J r_.b (((((r_.p+V)-V)*(7:Int))+(3:Int)).tmod (r_.b.length:Int)))*(1117:Int)))+(((r_.p+V)-V)*(29:Int)))+((((r_.p+V)-V).tdiv (r_.b.length:Int))*(53:Int)))),(1,I n)]) Z (Mb Z (Mb Z Ma)) (jC (oN mv (oN mv (jD h fun g25 h=>jW h fun g26 h=>oN (Mc.quo Z Z g25 g26) (jB h fun w27 ew27 h=>?_)))))));replace ew27:=osi ew27;refine oN (Mc.res (Mc.bxor Z Z) (r':=I w27) (fun _ _ hr=>by rw [<- ew27];exact hr)) (oN as' (jA (jI (oN mv (oN mv (jD h fun g28 h=>oN (Mc.rem Z Z g28) (oN as' (jA (jK ?_)))))))));obtain rfl:=Mg h
    repeat (first|refine cn ?_|refine cu ?_)
    exact ⟨au [(4,I (w27.tmod n))],[some ⟨aH,2,157,[(ah.c (⟨r_.b,(r_.p+V)⟩:ah))]⟩],kw Z Z,jQ (vs:=[I (w27.tmod n)]) (.cons (.tmp Z) .nil) ⟨Z,Z⟩⟩
theorem dM (r_:ah) (list:LI) (aH:Nat) {q:ah×Int} (h:bM r_ list=some q):dz Tryz.prog 122 [.hp 0 aH 2 0 0,eL cI list] [some ⟨aH,2,157,[(ah.c r_)]⟩] (I q.2) [some ⟨aH,2,157,[(ah.c q.1)]⟩]:=by
 refine aM Tryz.func122 Z (by kernel_rfl) Z (jI (oN as' (jA (jI (oN mv (oN mv (oN mv (oN (Mc.lenL bf Z) (jB h fun v1 cv1 h=>oA (EvA.call Z Z Z ((aL (⟨r_.b,r_.p⟩:ah) (list.length:Int) aH cv1).one 0 Z (.cons (.hp Z) (.cons (.pF Z) .nil)) (ak Z) (ak Z) Z)) (jD h fun g2 h=>oN (Mc.ixL bf Z Z g2 qD) (oN (lf (I (J list v1.2)) Mx Z) (oN as' (jA ?_)))))))))))));refine jK ?_;obtain rfl:=Mg h
 repeat (first|refine cn ?_|refine cu ?_)
 exact ⟨au [(4,I (J list v1.2))],[some ⟨aH,2,157,[(ah.c (⟨v1.1.b,v1.1.p⟩:ah))]⟩],kw Z Z,jQ (vs:=[I (J list v1.2)]) (.cons (.tmp Z) .nil) ⟨Z,Z⟩⟩
theorem xH (r_:ah) (p:List (List Mh)) (aH:Nat) {q:ah×List (List Mh)} (h:je r_ p=some q):dz Tryz.prog 59 [.hp 0 aH 2 0 0,eL (cL Mh.c) p] [some ⟨aH,2,157,[[eL cY r_.b,I r_.p]]⟩] (eL (cL Mh.c) q.2) [some ⟨aH,2,157,[[eL cY q.1.b,I q.1.p]]⟩]:=by
 refine dz.mkT Tryz.func59 Z (by kernel_rfl) Z (by kernel_rfl) (e0:=au [(0,.hp 0 aH 2 0 0),(1,eL (cL Mh.c) p)]) (Mb Z (Mb Z Ma)) ?_;unfold je at h;obtain ⟨hp,h⟩:=gdL h;obtain ⟨hp1,hp2⟩:=Ej hp;refine jH ?_;refine jC ?_;refine oN (Mc.asg (.nil) Z) ?_;refine jA ?_;refine jH ?_;refine jC ?_;refine oN (Mc.mv (eL (cL Mh.c) p) Z) ?_;refine oGN (m:=1) Z Z Z Z Mh.isF ((Hl p hp).ownN Z Mh.isF zm 1 Z) (fun ver gh K hN hK=>?_);clear hK;replace hN:NK 2 (some ⟨aH,2,157,[[eL cY r_.b,I r_.p]]⟩::some ⟨ver,1,91,cg gh 4 p⟩::K) gh 4 97 Mh.c p:=hN;refine TO.clean (H0:=some ⟨aH,2,157,[[eL cY r_.b,I r_.p]]⟩::some ⟨ver,1,91,cg gh 4 p⟩::K) (e0:=au [(8,hS false 1 ver 1 p.length),(0,.hp 0 aH 2 0 0)]) Z (Mb Z (Mb Z Ma)) ?_;refine oN (Mc.asg (hS false 1 ver 1 p.length) Z) ?_;refine jA ?_;refine jH ?_;refine jH ?_;refine jC ?_;refine oN (Mc.mv (hS false 1 ver 1 p.length) Z) ?_;refine oN (Mc.lenO (g:=false) lF Z nofun) ?_;refine oN (Mc.ieq Z Z) ?_;refine jA ?_;refine T.cond Z (fun qz=>?_) (fun qz=>?_)
 ·have h0:p.length=0:=by have := eq_of_beq qz;omega
  replace h:=CY (show Nat.beq p.length 0=true by rw [h0];rfl) h;refine jH ?_;refine jC ?_;refine oN (Mc.mv (hS false 1 ver 1 p.length) Z) ?_;refine oN (Mc.asg (hS false 1 ver 1 p.length) Z) ?_;refine jA ?_;refine jK ?_;obtain rfl:=osl h
  repeat first | refine cn ?_ | refine cu ?_
  exact ⟨au [(4,eL (cL Mh.c) p)],[some ⟨aH,2,157,[[eL cY r_.b,I r_.p]]⟩],mR Z (.cons (.row (.cons (.fz (qC Z)) (.cons (.fz (qC Z)) .nil))) .nil) (aj (.fz (hN.fzm Z Z Z Z Mh.isF)) aN),jQ (vs:=[eL (cL Mh.c) p]) (.cons (.tmp Z) .nil) ⟨Z,Z⟩⟩
 ·have h0:p.length≠0:=fun h0=>by rw [h0] at qz;exact absurd qz (by decide)
  replace h:=CZ (show Nat.beq p.length 0=false by cases hc:p.length with | zero=>exact absurd hc h0 | succ n=>rfl) h;refine jG ?_;refine jH ?_;refine jC ?_;refine oN (Mc.mv (.hp 0 aH 2 0 0) Z) ?_;refine oN (Mc.mv (hS false 1 ver 1 p.length) Z) ?_;refine oN (Mc.lenO (g:=false) lF Z nofun) ?_;obtain ⟨v1,cv1,h⟩:=Cb h;refine oA (EvA.call Z Z Z ((aL r_ (p.length:Int) aH cv1).one 0 Z (.cons (.hp Z) (.cons (.pF Z) .nil)) (ak Z) (ak Z) Z)) ?_;refine oN (Mc.asg (I v1.2) Z) ?_;refine jA ?_;refine T.joinF (G:=Unit) (fun _=>True) (fun _=>[(5,eL (cL Mh.c) q.2)]) (fun _=>[some ⟨aH,2,157,[[eL cY q.1.b,I q.1.p]]⟩]) (fun _ _=>?_) ?_
  ·clear h;refine jH ?_;refine jC ?_;refine oN (Mc.mv (eL (cL Mh.c) q.2) Z) ?_;refine oN (Mc.asg (eL (cL Mh.c) q.2) Z) ?_;refine jA ?_;refine jK ?_
   repeat first | refine cn ?_ | refine cu ?_
   exact ⟨au [(4,eL (cL Mh.c) q.2)],[some ⟨aH,2,157,[[eL cY q.1.b,I q.1.p]]⟩],yc Z (Mb Z Ma),jQ (vs:=[eL (cL Mh.c) q.2]) (.cons (.tmp Z) .nil) ⟨Z,Z⟩⟩
  ·refine jH ?_;refine jC ?_;refine oN (Mc.mv (.hp 0 aH 2 0 0) Z) ?_;obtain ⟨v2,cv2,h⟩:=Cb h;refine oA (EvA.call Z Z Z ((aL v1.1 (40:Int) aH cv2).one 0 Z (.cons (.hp Z) (.cons (.pF Z) .nil)) (ak Z) (ak Z) Z)) ?_;refine jA ?_;obtain ⟨hi,h⟩:=gdD h;refine T.clean (H0:=some ⟨aH,2,157,[[eL cY v2.1.b,I v2.1.p]]⟩::some ⟨ver,1,91,cg gh 4 p⟩::K) (e0:=au [(18,I v2.2),(6,I v1.2),(5,hS false 1 ver 1 p.length),(0,.hp 0 aH 2 0 0)]) Z (Mb Z (Mb Z (Mb Z (Mb Z Ma)))) ?_
   replace hN:NK 2 (some ⟨aH,2,157,[[eL cY v2.1.b,I v2.1.p]]⟩::some ⟨ver,1,91,cg gh 4 p⟩::K) gh 4 97 Mh.c p:=hN.low fun b hb _=>by match b,hb with | b+2,_=>rfl
   have hin:v1.2.toNat<p.length:=by omega
   clear cv1 cv2 hp;refine jE ?_;refine jH ?_;refine jC ?_;refine oN (Mc.ieq Z Z) ?_;refine oN (Mc.asg (Bo (v2.2==U)) Z) ?_;refine jA ?_;refine T.cond Z (fun q0=>?_) (fun q0=>?_)
   ·replace h:=CY q0 h;obtain ⟨g,k,v,hg,hk,hK,hnil⟩:=hN.row (i:=v1.2.toNat) hin;have hlen:=hp2 v1.2.toNat;unfold Hz at h;generalize hrw:p.getD v1.2.toNat []=row at hK hnil h hlen;refine jP (fun i=>[([],false),([],false),([],false),([],false),([],false),([1],false),([],false),([],false),([0],true),([],false),([],false),([0],true),([],false),([],false),([k+2],true),([],false),([1],true)].getD i ([],false)) (by kernel_rfl) (by kernel_rfl) ?_;refine fN Z (Mc.mv (hS false 1 ver 1 p.length) Z) ?_;refine fN Z (Mc.mv (I v1.2) Z) ?_;refine fN Z (Mc.mv (hS false 1 ver 1 p.length) Z) ?_;refine fN Z (Mc.mv (I v1.2) Z) ?_;refine fN Z (Mc.ixO (g:=false) lF Z Z nofun hi) ?_;refine fR [1] Z (fun G hG=>EvA.loadhp (hS g (k+2) v 4 row.length) xC Z (hG.a0 Z) Z Z (show (cg gh 4 p)[v1.2.toNat]? = some [hS g (k+2) v 4 row.length] by rw [cA hin,BM,hg,hrw]) Z) ?_;refine fN Z (Mc.mv (.hp 0 aH 2 0 0) Z) ?_;refine fN Z (Mc.mkF (c:=cI) ([(0:Int),(6:Int),V,(4:Int)]:LI) [[I U],[I (6:Int)],[I V],[I (4:Int)]] bf Z Z Z qD qD Z) ?_;obtain ⟨a,ca,h⟩:=Cb h;refine fW 0 [] Z Z (fun G hG=>EvA.call Z Z Z ((dM v2.1 ([(0:Int),(6:Int),V,(4:Int)]:LI) aH ca).one 0 (hG.a0 Z) (.cons (.hp Z) (.cons (.pF Z) .nil)) (ak Z) (ak Z) Z)) ?_;refine fN Z (Mc.mv (.hp 0 aH 2 0 0) Z) ?_;refine fN Z (Mc.mkF (c:=cI) ([(0:Int),(3:Int),(-1:Int)]:LI) [[I U],[I (3:Int)],[I (-1:Int)]] bf Z Z Z qD qD Z) ?_;obtain ⟨b,cb,h⟩:=Cb h;refine fW 0 [] Z Z (fun G hG=>EvA.call Z Z Z ((dM a.1 ([(0:Int),(3:Int),(-1:Int)]:LI) aH cb).one 0 (hG.a0 Z) (.cons (.hp Z) (.cons (.pF Z) .nil)) (ak Z) (ak Z) Z)) ?_;refine fN Z (Mc.build [I a.2,I b.2,I U,I U] Tryz.underlying97 xD nE Z Z) ?_;refine fN Z (Mc.mkF (c:=Mh.c) ([(⟨a.2,b.2,U,U⟩:Mh)]:List Mh) [[I a.2,I b.2,I U,I U]] sG Z Z Z qD Mh.isF Z) ?_;refine fW (k+2) [] Z (Nat.ble_eq_true_of_le (by simp;omega)) (fun G hG=>EvA.app1 (g:=g) (l:=row) (⟨a.2,b.2,(0:Int),(0:Int)⟩:Mh) sG (by kernel_rfl) Z Z (hG.a0 hK) hnil (bG.fz (l:=[(⟨a.2,b.2,(0:Int),(0:Int)⟩:Mh)]) Z qD) (AX (by omega) Z)) ?_;refine fN Z (Mc.ixO (g:=false) lF Z Z nofun hi) ?_;refine fV 1 [] Z Z (fun G hG=>EvA.st ⟨ver,1,91,(cg gh 4 p).set v1.2.toNat [hS false (k+2) (v+1) 4 (row++[(⟨a.2,b.2,U,U⟩:Mh)]).length]⟩ xC Z Z (hG.a0 Z) Z Z (show (cg gh 4 p)[v1.2.toNat]? = some [hS g (k+2) v 4 row.length] by rw [cA hin,BM,hg,hrw]) Z Z Z) ?_;refine jR ?_;obtain rfl:=osl h;have hN2:=hN.turn (r':=some ⟨aH,2,157,[[eL cY b.1.b,I b.1.p]]⟩) (o':=some ⟨ver,1,91,cg (gh.put v1.2.toNat (false,k+2,v+1)) 4 (p.set v1.2.toNat (row++[(⟨a.2,b.2,U,U⟩:Mh)]))⟩) hin hg (g':=false) (v':=v+1) (x:=row++[(⟨a.2,b.2,U,U⟩:Mh)]) nofun;rw [<- rq hin] at hN2;refine ⟨(),trivial,mR Z (.cons (.row (.cons (.fz (qC Z)) (.cons (.fz (qC Z)) .nil))) .nil) (aj (.fz (hN2.fzm (to:=91) Z Z ?_ (by simp) Mh.isF)) aN)⟩;rw [<- rq hin]
    rfl
   ·replace h:=CZ q0 h;refine jH ?_;refine jC ?_;refine oN (Mc.ieq Z Z) ?_;refine oN (Mc.asg (Bo (v2.2==V)) Z) ?_;refine jA ?_;refine T.cond Z (fun q1=>?_) (fun q1=>?_)
    ·replace h:=CY q1 h;obtain ⟨g,k,v,hg,hk,hK,hnil⟩:=hN.row (i:=v1.2.toNat) hin;have hlen:=hp2 v1.2.toNat;unfold Hz at h;generalize hrw:p.getD v1.2.toNat []=row at hK hnil h hlen;refine jP (fun i=>[([],false),([],false),([],false),([],false),([],false),([1],false),([],false),([],false),([0],true),([],false),([],false),([k+2],true),([],false),([1],true)].getD i ([],false)) (by kernel_rfl) (by kernel_rfl) ?_;refine fN Z (Mc.mv (hS false 1 ver 1 p.length) Z) ?_;refine fN Z (Mc.mv (I v1.2) Z) ?_;refine fN Z (Mc.mv (hS false 1 ver 1 p.length) Z) ?_;refine fN Z (Mc.mv (I v1.2) Z) ?_;refine fN Z (Mc.ixO (g:=false) lF Z Z nofun hi) ?_;refine fR [1] Z (fun G hG=>EvA.loadhp (hS g (k+2) v 4 row.length) xC Z (hG.a0 Z) Z Z (show (cg gh 4 p)[v1.2.toNat]? = some [hS g (k+2) v 4 row.length] by rw [cA hin,BM,hg,hrw]) Z) ?_;refine fN Z (Mc.mv (.hp 0 aH 2 0 0) Z) ?_;refine fN Z (Mc.mkF (c:=cI) ([(4:Int),(-1:Int),(3:Int)]:LI) [[I (4:Int)],[I (-1:Int)],[I (3:Int)]] bf Z Z Z qD qD Z) ?_;obtain ⟨a,ca,h⟩:=Cb h;refine fW 0 [] Z Z (fun G hG=>EvA.call Z Z Z ((dM v2.1 ([(4:Int),(-1:Int),(3:Int)]:LI) aH ca).one 0 (hG.a0 Z) (.cons (.hp Z) (.cons (.pF Z) .nil)) (ak Z) (ak Z) Z)) ?_;refine fN Z (Mc.build [I (2:Int),I U,I U,I a.2] Tryz.underlying97 xD nE Z Z) ?_;refine fN Z (Mc.mkF (c:=Mh.c) ([(⟨(2:Int),U,U,a.2⟩:Mh)]:List Mh) [[I (2:Int),I U,I U,I a.2]] sG Z Z Z qD Mh.isF Z) ?_;refine fW (k+2) [] Z (Nat.ble_eq_true_of_le (by simp;omega)) (fun G hG=>EvA.app1 (g:=g) (l:=row) (⟨(2:Int),(0:Int),(0:Int),a.2⟩:Mh) sG (by kernel_rfl) Z Z (hG.a0 hK) hnil (bG.fz (l:=[(⟨(2:Int),(0:Int),(0:Int),a.2⟩:Mh)]) Z qD) (AX (by omega) Z)) ?_;refine fN Z (Mc.ixO (g:=false) lF Z Z nofun hi) ?_;refine fV 1 [] Z Z (fun G hG=>EvA.st ⟨ver,1,91,(cg gh 4 p).set v1.2.toNat [hS false (k+2) (v+1) 4 (row++[(⟨(2:Int),U,U,a.2⟩:Mh)]).length]⟩ xC Z Z (hG.a0 Z) Z Z (show (cg gh 4 p)[v1.2.toNat]? = some [hS g (k+2) v 4 row.length] by rw [cA hin,BM,hg,hrw]) Z Z Z) ?_;refine jR ?_;obtain rfl:=osl h;have hN2:=hN.turn (r':=some ⟨aH,2,157,[[eL cY a.1.b,I a.1.p]]⟩) (o':=some ⟨ver,1,91,cg (gh.put v1.2.toNat (false,k+2,v+1)) 4 (p.set v1.2.toNat (row++[(⟨(2:Int),U,U,a.2⟩:Mh)]))⟩) hin hg (g':=false) (v':=v+1) (x:=row++[(⟨(2:Int),U,U,a.2⟩:Mh)]) nofun;rw [<- rq hin] at hN2;refine ⟨(),trivial,mR Z (.cons (.row (.cons (.fz (qC Z)) (.cons (.fz (qC Z)) .nil))) .nil) (aj (.fz (hN2.fzm (to:=91) Z Z ?_ (by simp) Mh.isF)) aN)⟩;rw [<- rq hin]
     rfl
    ·replace h:=CZ q1 h;refine jH ?_;refine jC ?_;refine oN (Mc.ieq Z Z) ?_;refine oN (Mc.asg (Bo (v2.2==(2:Int))) Z) ?_;refine jA ?_;refine T.cond Z (fun q2=>?_) (fun q2=>?_)
     ·replace h:=CY q2 h;refine jE ?_;refine jO (S:=Nat) (G:=NG×AH×Nat) (E:=Nat) (x:=4-p.length) (fun j=>if p.length+j<=3 then some (.inl (j+1)) else some (.inr j)) (fun j g=>j<=4-p.length/\NK 2 (some ⟨aH,2,157,[[eL cY v2.1.b,I v2.1.p]]⟩::some ⟨g.2.2,1,91,cg g.1 4 (p++List.replicate j [])⟩::g.2.1) g.1 4 97 Mh.c (p++List.replicate j [])) (fun j g=>[(5,hS false 1 g.2.2 1 (p++List.replicate j []).length)]) (fun j g=>some ⟨aH,2,157,[[eL cY v2.1.b,I v2.1.p]]⟩::some ⟨g.2.2,1,91,cg g.1 4 (p++List.replicate j [])⟩::g.2.1) (s0:=0) (gh,K,ver) (zk (fun i=>i) (4-p.length) (fun i hi=>by rw [if_pos (by omega)]) (by rw [if_neg (by omega)])) ⟨Nat.zero_le _,by simpa using hN⟩ (yc (by simp) (Mb (by simp;rfl) Ma)) (fun j g z hz hinv=>?_);obtain ⟨gh,K,ver⟩:=g;obtain ⟨hle,hN⟩:=hinv;simp only at hN;have hll:(p++List.replicate j []).length=p.length+j:=by simp
      have htk:p++List.replicate (j+1) []=(p++List.replicate j [])++[([]:List Mh)]:=by rw [List.replicate_succ',List.append_assoc]
      generalize hl:(p++List.replicate j [])=l at hN hll htk ⊢;refine jH ?_;refine jH ?_;refine jC ?_;refine oN (Mc.mv (hS false 1 ver 1 l.length) Z) ?_;refine oN (Mc.lenO (g:=false) lF Z nofun) ?_;refine oN (Mc.ile Z Z) ?_;refine jA ?_;refine T.cond Z (fun qa=>?_) (fun qa=>?_)
      ·have hj:p.length+j<=3:=by have := of_decide_eq_true qa;omega
       rw [if_pos hj] at hz;obtain rfl:=osl hz;refine jG ?_;refine jE ?_;refine jC ?_;refine oN (Mc.mv (hS false 1 ver 1 l.length) Z) ?_;refine oA (EvA.mkO (c:=Mh.c) (b:=K.length+2) ([]:List Mh) [] sG Z Z Z qD Z Z) ?_;refine TO.clean (H0:=some ⟨aH,2,157,[[eL cY v2.1.b,I v2.1.p]]⟩::some ⟨ver,1,91,cg gh 4 l⟩::(K++[bE false 0 4 97 (([]:List Mh).map Mh.c)])) (e0:=au [(58,hS false (K.length+2) 0 4 0),(57,hS false 1 ver 1 l.length)]) Z (Mb Z (Mb Z Ma)) ?_;refine oA (EvA.mkR (b:=(K++[bE false 0 4 97 (([]:List Mh).map Mh.c)]).length+2) [[hS false (K.length+2) 0 4 0]] lF Z Z Z Z) ?_;refine oA (EvA.appR (g:=false) (rows:=cg gh 4 l) (rows':=cg gh 4 l++[[hS false (K.length+2) 0 4 0]]) (n':=l.length+1) lF (by kernel_rfl) Z Z (dD gh 4 l).symm nofun (bG.raw (rows:=[[hS false (K.length+2) 0 4 0]]) Z (Bl (H:=_::_::(K++[_]))) Z) (AX (by simp;omega) Z) Z Z) ?_;refine oN (Mc.asg (hS false 1 (ver+1) 1 (l.length+1)) Z) ?_;refine jA ?_;refine ⟨j+1,(gh.put l.length (false,K.length+2,0),K++[bE false 0 4 97 (([]:List Mh).map Mh.c)]++[some ⟨0,1,91,[[hS false (K.length+2) 0 4 0]]⟩],ver+1),Z,⟨by omega,?_⟩,yc ?_ (Mb ?_ Ma)⟩
       ·rw [htk];refine hN.snoc (id:=K.length+2) (by simp) (by omega) (fun b h1 h2=>?_) ?_ qD
        ·match b,h1 with
         | b+2,_=>
          simp only [llc,Nat.add_lt_add_iff_right] at h2;simp only [List.getElem?_cons_succ,List.append_assoc];exact gal h2
        ·simp only [List.getElem?_cons_succ];exact Cf
       ·show _::some (ABlk.mk _ _ _ (cg _ 4 (p++List.replicate (j+1) [])))::_=_;rw [htk,<- xd]
        rfl
       ·show hS false 1 (ver+1) 1 (l.length+1)=hS false 1 (ver+1) 1 (p++List.replicate (j+1) []).length;rw [htk,lla]
        rfl
      ·have hj : ¬ p.length+j<=3:=by have := of_decide_eq_false qa;omega
       rw [if_neg hj] at hz;obtain rfl:=osl hz;refine jM ?_;refine ⟨_,Z,fun he=>?_⟩;subst he;obtain rfl:=osl h;subst hl;exact ⟨(),trivial,mR Z (.cons (.row (.cons (.fz (qC Z)) (.cons (.fz (qC Z)) .nil))) .nil) (aj (.fz (hN.fzm Z Z Z Z Mh.isF)) aN)⟩
     ·replace h:=CZ q2 h;refine jH ?_;refine jC ?_;refine oN (Mc.ieq Z Z) ?_;refine oN (Mc.asg (Bo (v2.2==(3:Int))) Z) ?_;refine jA ?_;refine T.cond Z (fun q3=>?_) (fun q3=>?_)
      ·replace h:=CY q3 h;have hlen:=hp2 v1.2.toNat;unfold Hz at h;have hset:p.set v1.2.toNat (p.getD v1.2.toNat [])=p:=by simp [hin]
       generalize hrw0:p.getD v1.2.toNat []=row0 at h hlen hset;refine jE ?_;refine jO (S:=Nat) (G:=NG×AH) (E:=Nat) (x:=8-row0.length) (fun j=>if row0.length+j<=7 then some (.inl (j+1)) else some (.inr j)) (fun j g=>j<=8-row0.length/\NK 2 (some ⟨aH,2,157,[[eL cY v2.1.b,I v2.1.p]]⟩::some ⟨ver,1,91,cg g.1 4 (p.set v1.2.toNat (row0++List.replicate j (⟨1,0,0,0⟩:Mh)))⟩::g.2) g.1 4 97 Mh.c (p.set v1.2.toNat (row0++List.replicate j (⟨1,0,0,0⟩:Mh)))) (fun j g=>[(6,I v1.2),(5,hS false 1 ver 1 p.length)]) (fun j g=>some ⟨aH,2,157,[[eL cY v2.1.b,I v2.1.p]]⟩::some ⟨ver,1,91,cg g.1 4 (p.set v1.2.toNat (row0++List.replicate j (⟨1,0,0,0⟩:Mh)))⟩::g.2) (s0:=0) (gh,K) (zk (fun i=>i) (8-row0.length) (fun i hi=>by rw [if_pos (by omega)]) (by rw [if_neg (by omega)])) ⟨Nat.zero_le _,by simpa [hset] using hN⟩ (yc (by simp [hset]) (Mb Z (Mb Z Ma))) (fun j g z hz hinv=>?_);obtain ⟨gh,K⟩:=g;obtain ⟨hle,hN⟩:=hinv;simp only at hN;have hin2:v1.2.toNat<(p.set v1.2.toNat (row0++List.replicate j (⟨1,0,0,0⟩:Mh))).length:=by simp [hin]
       have hgt:(p.set v1.2.toNat (row0++List.replicate j (⟨1,0,0,0⟩:Mh))).getD v1.2.toNat []=(row0++List.replicate j (⟨1,0,0,0⟩:Mh)):=by simp [hin]
       have hrl:(row0++List.replicate j (⟨1,0,0,0⟩:Mh)).length=row0.length+j:=by simp
       have hnx:∀ x,((p.set v1.2.toNat (row0++List.replicate j (⟨1,0,0,0⟩:Mh)))).set v1.2.toNat x=p.set v1.2.toNat x:=fun x=>by simp
       have htk:row0++List.replicate (j+1) (⟨1,0,0,0⟩:Mh)=(row0++List.replicate j (⟨1,0,0,0⟩:Mh))++[(⟨1,0,0,0⟩:Mh)]:=by rw [List.replicate_succ',List.append_assoc]
       obtain ⟨g,k,v,hg,hk,hK,hnil⟩:=hN.row (i:=v1.2.toNat) hin2;rw [hgt] at hK hnil;have hpl:(p.set v1.2.toNat (row0++List.replicate j (⟨1,0,0,0⟩:Mh))).length=p.length:=by simp
       generalize hrw:(row0++List.replicate j (⟨1,0,0,0⟩:Mh))=row at hN hin2 hgt hrl hnx htk hK hnil hpl ⊢;generalize hl:p.set v1.2.toNat row=l at hN hin2 hgt hnx hpl ⊢;refine jH ?_;refine jH ?_;refine jC ?_;refine oN (Mc.mv (hS false 1 ver 1 p.length) Z) ?_;refine oN (Mc.mv (I v1.2) Z) ?_;refine oN (Mc.ixO (g:=false) lF Z Z nofun hi) ?_;refine oA (EvA.loadhp (hS g (k+2) v 4 row.length) xC Z Z Z Z (show (cg gh 4 l)[v1.2.toNat]? = some [hS g (k+2) v 4 row.length] by rw [cA hin2,BM,hg,hgt]) Z) ?_;refine oN (Mc.lenO (g:=g) sG Z (fun x=>by rw [hnil x];rfl)) ?_;refine oN (Mc.ile Z Z) ?_;refine jA ?_;refine T.cond Z (fun qa=>?_) (fun qa=>?_)
       ·have hj:row0.length+j<=7:=by have := of_decide_eq_true qa;omega
        rw [if_pos hj] at hz;obtain rfl:=osl hz;refine jG ?_;refine jE ?_;refine jC ?_;refine oN (Mc.mv (hS false 1 ver 1 p.length) Z) ?_;refine oN (Mc.mv (I v1.2) Z) ?_;refine oN (Mc.mv (hS false 1 ver 1 p.length) Z) ?_;refine oN (Mc.mv (I v1.2) Z) ?_;refine oN (Mc.ixO (g:=false) lF Z Z nofun hi) ?_;refine oA (EvA.loadhp (hS g (k+2) v 4 row.length) xC Z Z Z Z (show (cg gh 4 l)[v1.2.toNat]? = some [hS g (k+2) v 4 row.length] by rw [cA hin2,BM,hg,hgt]) Z) ?_;refine oN (Mc.build [I V,I U,I U,I U] Tryz.underlying97 xD nE Z Z) ?_;refine oN (Mc.mkF (c:=Mh.c) ([(⟨1,0,0,0⟩:Mh)]:List Mh) [[I V,I U,I U,I U]] sG Z Z Z qD Mh.isF Z) ?_;refine oA (EvA.app1 (g:=g) (l:=row) (⟨1,0,0,0⟩:Mh) sG (by kernel_rfl) Z Z hK hnil (bG.fz (l:=[(⟨1,0,0,0⟩:Mh)]) Z qD) (AX (by omega) Z)) ?_;refine oN (Mc.ixO (g:=false) lF Z Z nofun hi) ?_;refine oV (EvA.st ⟨ver,1,91,(cg gh 4 l).set v1.2.toNat [hS false (k+2) (v+1) 4 (row++[(⟨1,0,0,0⟩:Mh)]).length]⟩ xC Z Z Z Z Z (show (cg gh 4 l)[v1.2.toNat]? = some [hS g (k+2) v 4 row.length] by rw [cA hin2,BM,hg,hgt]) Z Z Z) ?_;refine jA ?_;have hN2:=hN.turn (r':=some ⟨aH,2,157,[[eL cY v2.1.b,I v2.1.p]]⟩) (o':=some ⟨ver,1,91,cg (gh.put v1.2.toNat (false,k+2,v+1)) 4 (l.set v1.2.toNat (row++[(⟨1,0,0,0⟩:Mh)]))⟩) hin2 hg (g':=false) (v':=v+1) (x:=row++[(⟨1,0,0,0⟩:Mh)]) nofun;refine ⟨j+1,(gh.put v1.2.toNat (false,k+2,v+1),K.set k (bE false (v+1) 4 97 ((row++[(⟨1,0,0,0⟩:Mh)]).map Mh.c))),Z,⟨by omega,?_⟩,yc ?_ (Mb Z (Mb Z Ma))⟩
        ·rw [hnx] at hN2;rw [htk];exact hN2
        ·show _::some (ABlk.mk _ _ _ (cg _ 4 (p.set v1.2.toNat (row0++List.replicate (j+1) (⟨1,0,0,0⟩:Mh)))))::_=_;rw [htk,<- hnx,<- rq hin2]
         rfl
       ·have hj : ¬ row0.length+j<=7:=by have := of_decide_eq_false qa;omega
        rw [if_neg hj] at hz;obtain rfl:=osl hz;refine jM ?_;refine ⟨_,Z,fun he=>?_⟩;subst he;obtain rfl:=osl h;subst hrw;subst hl;exact ⟨(),trivial,mR Z (.cons (.row (.cons (.fz (qC Z)) (.cons (.fz (qC Z)) .nil))) .nil) (aj (.fz (hN.fzm Z Z Z (by simp) Mh.isF)) aN)⟩
      ·replace h:=CZ q3 h;refine jH ?_;refine jC ?_;refine oN (Mc.ieq Z Z) ?_;refine oN (Mc.asg (Bo (v2.2==(4:Int))) Z) ?_;refine jA ?_;refine T.cond Z (fun q4=>?_) (fun q4=>?_)
       ·replace h:=CY q4 h;refine T.cut (e0:=au [(5,eL (cL Mh.c) p)]) (H0:=[some ⟨aH,2,157,[[eL cY v2.1.b,I v2.1.p]]⟩]) (mR Z (.cons (.row (.cons (.fz (qC Z)) (.cons (.fz (qC Z)) .nil))) .nil) (aj (.fz (hN.fzm Z Z Z Z Mh.isF)) aN)) ?_;refine jC ?_;refine oN (Mc.mv (eL (cL Mh.c) p) Z) ?_;refine oN (Mc.slL lF Z (.yes Z) .no ⟨by omega,by omega,by omega⟩ qD) ?_;refine oN (Mc.asg (eL (cL Mh.c) ((p.drop 1).take (p.length-1))) Z) ?_;refine jA ?_;obtain rfl:=osl h;exact ⟨(),trivial,yc Z (Mb Z Ma)⟩
       ·replace h:=CZ q4 h;refine jG ?_;obtain rfl:=osl h;exact ⟨(),trivial,mR Z (.cons (.row (.cons (.fz (qC Z)) (.cons (.fz (qC Z)) .nil))) .nil) (aj (.fz (hN.fzm Z Z Z Z Mh.isF)) aN)⟩
section
variable {α β:Type} [Inhabited β] {f:α->List Value} {s:Nat} {c:β->List AV} {w:World} {fz:Nat->Prop} {v:Value}
theorem Jc {u x:Value} (h:FRel w fz (.v u) x):x=u:=by
 cases h with
 | v _=>rfl
theorem ER {e:β->α} (hf:∀ x,c x=(f (e x)).map AV.v) (hs:∀ x,(f (e x)).length=s) {l:List β} (h:FRel w fz (eL c l) v):Sl f s w 0 w.heap.size v (l.map e):=by
 unfold eL at h
 cases h with
 | sl us hc hm ha hr hu h1 h=>
  refine ⟨_,_,by rw [llm],by simpa using hc,hm,fun hn=>?_⟩;rw [llm] at hn;obtain ⟨rfl,hg,hlt⟩:=ha hn;refine ⟨_,_,rfl,Nat.zero_le _,hlt,hlt,fun k hk j u hu' => ?_⟩;rw [llm] at hk;rw [List.getElem_map] at hu';have hk0:l.getD k default=l[k]:=by simp [List.getD,hk]
  have hrow:(c (l.getD k default))[j]? = some (.v u):=by rw [hk0,hf,List.getElem?_map,hu'];rfl
  have hs':=hr k hk
  dsimp only at hs'
  rw [hf,llm,hs] at hs';subst hs';have h2:=hu k j _ hk hrow;rw [Jc (h k j _ hk hrow)] at h2;exact h2
theorem yf {e:β->α} (hf:∀ x,c x=(f (e x)).map AV.v) (hs:∀ x,(f (e x)).length=s) {l:List (List β)} (h:FRel w fz (eL (cL c) l) v):Ad f s w 0 w.heap.size v (l.map fun r=>r.map e):=by
 unfold eL at h
 cases h with
 | sl us hc hm ha hr hu h1 h=>
  refine ⟨(List.range l.length).map fun i=>us i 0,?_,by simp,fun k hk hk' => ?_⟩
  ·refine ⟨_,_,by rw [llm,List.length_range],by simpa using hc,hm,fun hn=>?_⟩;rw [llm,List.length_range] at hn;obtain ⟨rfl,hg,hlt⟩:=ha hn;refine ⟨_,_,rfl,Nat.zero_le _,hlt,hlt,fun k hk j u hu' => ?_⟩;rw [llm,List.length_range] at hk;rw [List.getElem_map,List.getElem_range] at hu';have hs':=hr k hk;change 1=_ at hs';subst hs'
   match j with
   | 0=>
    have h2:=hu k 0 _ hk rfl;rw [h2];simpa [Ko] using hu'
   | j+1=>simp [Ko] at hu'
  ·rw [llm,List.length_range] at hk;rw [List.getElem_map,List.getElem_map,List.getElem_range];have h2:=h k 0 _ hk rfl;have hk0:l.getD k default=l[k]:=by simp [List.getD,hk]
   rw [hk0] at h2;exact ER hf hs h2
theorem ES {e:α->β} (hf:∀ x,c (e x)=(f x).map AV.v) (hs:∀ x,(f x).length=s) (hp:∀ x,∀ u∈f x,plain u=true) {l:List α} {hi:Nat} (h:Sl f s w 0 hi v l):FRel w (fun g=>g<w.heap.size) (eL c (l.map e)) v:=by
 obtain ⟨A,cap,rfl,hc,hm,h⟩:=h;have key:∀ (g o:Nat),(0<l.length->A=some ⟨g,o,none⟩/\g<w.heap.size/\∀ (k:Nat) (h:k<l.length) (j:Nat) (u:Value),(f l[k])[j]? = some u->w.cell? ⟨g,o+k*s+j,none⟩=some u)->FRel w (fun g=>g<w.heap.size) (eL c (l.map e)) (.slice A l.length cap):=by
  intro g o hh;have hrow:∀ (i j:Nat) (a:AV),i<l.length->(c ((l.map e).getD i default))[j]? = some a->∃ u,l[i]?.bind (fun x=>(f x)[j]?)=some u/\a = .v u/\plain u=true/\w.cell? ⟨g,o+i*s+j,none⟩=some u:=by
   intro i j a hi ha;have h0:(l.map e).getD i default=e l[i]:=by simp [List.getD,hi]
   rw [h0,hf,List.getElem?_map] at ha
   cases hq:(f l[i])[j]? with
   | none=>rw [hq] at ha;cases ha
   | some u=>
    rw [hq] at ha;refine ⟨u,by rw [geq hi];exact hq,(osl ha).symm,hp _ u (List.mem_of_getElem? hq),(hh (by omega)).2.2 i hi j u hq⟩
  have e0:(l.map e).length=l.length:=by simp
  unfold eL;rw [e0];refine FRel.sl (s:=s) (g:=g) (o:=o) (fun i j=>(l[i]?.bind fun x=>(f x)[j]?).getD (.bool false)) hc hm (fun hn=>⟨(hh hn).1,(hh hn).2.1,(hh hn).2.1⟩) (fun i hi=>?_) (fun i j a hi ha=>?_) (fun i j a hi ha=>?_) (fun i j a hi ha=>?_)
  ·have h0:(l.map e).getD i default=e l[i]:=by simp [List.getD,hi]
   rw [h0,hf,llm,hs]
  ·obtain ⟨u,h1,h2,h3,h4⟩:=hrow i j a hi ha;simp only [h1,Option.getD_some];exact h4
  ·obtain ⟨u,h1,h2,h3,h4⟩:=hrow i j a hi ha;simp only [h1,Option.getD_some];exact BO h3
  ·obtain ⟨u,h1,h2,h3,h4⟩:=hrow i j a hi ha;subst h2;simp only [h1,Option.getD_some];exact .v h3
 by_cases h0:0<l.length
 ·obtain ⟨b,o,hA,_,_,hlt,hcell⟩:=h h0;exact key b o fun _=>⟨hA,hlt,hcell⟩
 ·exact key 0 0 fun h1=>absurd h1 h0
theorem BI {P:Program} {g:FuncId} {ars:List AV} {r:AV} (h:aA P g ars r) (vs:Array Value) (hl:vs.size=ars.length) (hr:∀ (i:Nat) (a:AV) (v:Value),ars[i]? = some a->vs[i]? = some v->FRel w (fun g=>g<w.heap.size) a v) (hgl:Gl w (fun g=>g<w.heap.size):=by exact gl_none) :
  Calls P g vs w fun e w'=>∃ v fz',e = .returned v/\Below w.heap.size w w'/\FRel w' fz' r v:=
 (h.2 w _ vs (fun g hg=>hg) hgl hl hr).mono fun e w' ⟨v,fz',h1,h2,h3,_⟩=>⟨v,fz',h1,h2,h3⟩
theorem LD {a:AV} {u:Value} (h:FRel w fz a u):∀ (i:Nat) (a':AV) (v:Value),[a][i]? = some a' -> #[u][i]? = some v->FRel w fz a' v:=by
 intro i a' v h1 h2
 match i with
 | 0=>
  obtain rfl:=osl h1;obtain rfl:u=v:=by simpa using h2
  exact h
 | i+1=>simp at h1
end
theorem ET {w:World} {v:Value} {hi:Nat} {l:LI} (h:Sl Ez 1 w 0 hi v l):FRel w (fun g=>g<w.heap.size) (eL cY l) v:=by
 have := ES (f:=Ez) (s:=1) (c:=cY) (e:=id) (fun _=>rfl) (fun _=>rfl) (fun x u hu=>by simp [Ez] at hu;subst hu;rfl) h
 rwa [List.map_id] at this
theorem Dz {P:Program} {g:FuncId} {ars:List AV} {w:World} {vs:Array Value} (h:aA P g ars (Bo true)) (hl:vs.size=ars.length) (hr:∀ (i:Nat) (a:AV) (v:Value),ars[i]? = some a->vs[i]? = some v->FRel w (fun g=>g<w.heap.size) a v) (hgl:Gl w (fun g=>g<w.heap.size):=by exact gl_none) :
  Calls P g vs w fun e w'=>e = .returned (.bool true)/\Below w.heap.size w w':=
 (BI h vs hl hr hgl).mono fun e w' ⟨v,fz',h1,h2,h3⟩=>⟨by rw [h1,Jc h3],h2⟩
theorem Jd {vs:Array Value} {a:AV} (hl:vs.size=[a].length):∃ u,vs = #[u]:=by
 obtain ⟨l⟩:=vs
 match l,hl with
 | [u],_=>exact ⟨u,rfl⟩
theorem nR (p:List (List Mh)) {q:Bool} (h:bI p=some q):aA Tryz.prog 41 [eL (cL Mh.c) p] (Bo q):=by
 unfold bI at h;obtain ⟨⟨h1,h2⟩,h⟩:=gdD h;obtain rfl:=osl h;refine ⟨by kernel_rfl,fun w fz vs hlt _ hl hrel=>?_⟩;obtain ⟨u,rfl⟩:=Jd hl;have hs:=yf (f:=Ins.cells) (s:=4) (e:=m5) (fun _=>rfl) (fun _=>rfl) (hrel 0 _ u rfl rfl);refine (tX hs (Nat.le_refl _) (by rw [Ch];exact h2)).mono fun e w' ⟨he,hb⟩ => ?_;exact ⟨_,fz,he,hb,.v Z,fun g hg=>hg,fun g hg => .inl hg,fun g hg=>Nat.lt_of_lt_of_le (hlt g hg) hb.size⟩
theorem jh (p:List (List Mh)) {q:Bool} (h:bg p=some q):aA Tryz.prog 72 [eL (cL Mh.c) p] (Bo q):=by
 unfold bg at h;obtain ⟨⟨h1,h2⟩,h⟩:=gdD h;obtain rfl:=osl h;refine ⟨by kernel_rfl,fun w fz vs hlt _ hl hrel=>?_⟩;obtain ⟨u,rfl⟩:=Jd hl;have hs:=yf (f:=Ins.cells) (s:=4) (e:=m5) (fun _=>rfl) (fun _=>rfl) (hrel 0 _ u rfl rfl);refine (tV hs (Nat.le_refl _) (by rw [Ch];exact h2)).mono fun e w' ⟨he,hb⟩ => ?_;exact ⟨_,fz,he,hb,.v Z,fun g hg=>hg,fun g hg => .inl hg,fun g hg=>Nat.lt_of_lt_of_le (hlt g hg) hb.size⟩
open Go.RowKit Go.WideShapes Go.ChangeShapes Go.Deep
section
variable {H:Type} {enc:TypeId×Value->H} {P:Program}
theorem BJ {f:Func} {s:ChangeSpec} {apart fresh handsOn again:Bool} {W W':World} {args:Array Value} {v:Value} {ds gs:List (DataW H)} {before pa pv:List MemPlace}
  (hW:DataW.Whole enc P f.params.toList s.vars apart W args.toList ds gs before)
  (hres:∀ (b:Nat) (sp:Nat->Bool) (hd:Bool),DataW.TrodAll enc P W' b sp hd f.resultTypes.toList (v.resultList f.resultTypes.size) (s.fn H (ds++gs)).results [])
  (hargs:∀ sp:Nat->Bool,(∀ p∈before,sp p.block=true)->DataW.TrodAll enc P W' 0 sp true f.params.toList args.toList (s.fn H (ds++gs)).args pa)
  (hvars:∀ sp:Nat->Bool,(∀ p∈before,sp p.block=true)->DataW.TrodVars enc P W' sp s.vars (s.fn H (ds++gs)).vars pv)
  (hps:before=pa++pv) (hb:Below W.heap.size W W')
  (hok:∀ (j:Nat) (t:TypeId) (r:Value),f.resultTypes[j]? = some t->(v.resultList f.resultTypes.size)[j]? = some r->Value.okWide P W' .any 0 t r) :
  s.post enc P f apart fresh handsOn again W args v W':=by
 have hlt:∀ p∈before,p.block<W.heap.size:=fun p hp=>hW.lt p hp;have hold:∀ p∈before,(fun b=>decide (b<W.heap.size)) p.block=true:=fun p hp=>by simpa using hlt p hp
 refine ⟨ds,gs,before,[],pa,pv,hW,hres _ _ _,hargs _ hold,hvars _ hold,World.keptBut_mono (fun p hp=>⟨hp,?_⟩) (hb.frame (· ∈ before)),fun _=>?_⟩
 ·rw [hps,List.mem_append] at hp;exact Or.inr hp
 ·obtain ⟨_,_,_,_,_,hz,hn⟩:=hW;refine ⟨hok,_,_,([]++pa)++pv,⟨[]++pa,pv,trodAll_append (hargs _ (fun _ _=>rfl)) (hres _ _ _),hvars _ (fun _ _=>rfl),rfl,?_,?_⟩,?_⟩
  ·intro b off hp;have hin:MemPlace.cell b off∈before:=by rw [hps];simpa using hp
   rw [hb.frozen (hlt _ hin)];exact hz b off hin
  ·intro ha;have := hn ha;rw [hps] at this;simpa using this
  ·intro p hp _;rw [hps];simpa using hp
theorem wJ (hl:laidOutB P=true) {W W':World} (hb:Below W.heap.size W W') {sp:Nat->Bool}:∀ (ts:List TypeId) (vs:List Value) (ds:List (DataW H)) (ps:List MemPlace),
  (∀ t∈ts,P.readableRec t=true/\t<P.types.size)->DataW.TrodAll enc P W 0 (fun _=>true) true ts vs ds ps->(∀ x∈ps,x.block<W.heap.size)->(∀ x∈ps,sp x.block=true) ->
  DataW.TrodAll enc P W' 0 sp true ts vs ds ps
 | [],[],[],_,_,h,_,_=>h
 | t::ts,v::vs,d::ds,ps,hr,⟨p,q,h1,h2,hpq⟩,hlt,hs=>by
  subst hpq;have hp:∀ x∈p,x.block<W.heap.size:=fun x hx=>hlt x (List.mem_append_left _ hx);exact ⟨p,q,WideElems.Trod_stays hl (hr t (by simp)).1 (hr t (by simp)).2 h1 (fun x hx=>hb.same (hp x hx)) (fun x hx=>hs x (List.mem_append_left _ hx)),
   wJ hl hb ts vs ds q (fun t ht=>hr t (List.mem_cons_of_mem _ ht)) h2 (fun x hx=>hlt x (List.mem_append_right _ hx)) (fun x hx=>hs x (List.mem_append_right _ hx)),rfl⟩
 | [],_::_,_,_,_,h,_,_=>(by cases h)
 | [],[],_::_,_,_,h,_,_=>(by cases h)
 | _::_,[],_,_,_,h,_,_=>(by cases h)
 | _::_,_::_,[],_,_,h,_,_=>(by cases h)
variable {w:World} {spare:Nat->Bool} {held:Bool}
theorem IV {α:Type} {f:α->List Value} {s:Nat} {t e:TypeId} (hs:P.cellsOf e=s) (hs0:0<s) (ht:P.underlying t=some (.slice e)) {Good:α->Prop}
  (hel:∀ (fuel:Nat) (cs:List Value) (x:DataW H×List MemPlace),DataW.trod enc P w 0 spare held fuel e cs=some x->∃ a,cs=f a/\Good a) {fuel:Nat} {cs:List Value} {x:DataW H×List MemPlace}
  (h:DataW.trod enc P w 0 spare held fuel t cs=some x):∃ v,cs=[v]/\∃ xs:List α,Sl f s w 0 w.heap.size v xs/\∀ y∈xs,Good y:=by
 rcases open_slice ht h with ⟨rfl,_⟩ | ⟨a,len,cap,m,n,D,Pl,rfl,_,hl,hm,hmm,_,hi⟩
 ·exact ⟨_,rfl,[],Sl.zY _ _ (by omega),fun y hy=>absurd hy (by simp)⟩
 ·refine ⟨_,rfl,?_⟩;have hlm:len<=m:=by rw [hmm];split <;> omega
  have key:∀ i,i<len->∃ y:α,Good y/\∀ (j:Nat) (u:Value),(f y)[j]? = some u->w.cell? ((a.add (i*s)).add j)=some u:=by
   intro i hil;obtain ⟨cs',hc,ht'⟩:=hi i (by omega);obtain ⟨y,rfl,hg⟩:=hel _ _ _ ht';obtain ⟨_,hcl,hat⟩:=World.cells?_some hc;rw [hs] at hat hcl;exact ⟨y,hg,fun j u hu=>by
    have hj:j<s:=by
     have := (ges hu).1;omega
    rw [hat j hj];exact hu⟩
  have key2:∀ i,i<len->∃ cs',w.cells? 0 (a.add (i*s)) s=some cs':=by
   intro i hil;obtain ⟨cs',hc,_⟩:=hi i (by omega);rw [hs] at hc;exact ⟨cs',hc⟩
  clear hi;simp only [maxLen] at hm
  by_cases hn:0<len
  ·obtain ⟨cs0,hc0⟩:=key2 0 hn;obtain ⟨_,hcl,hat⟩:=World.cells?_some hc0;have h00:=hat 0 hs0;rw [geq (by omega)] at h00;have hspot:=World.cell?_spot h00;obtain ⟨b,o,sp⟩:=a;have hsp:sp=none:=by simpa [Addr.add] using hspot
   subst hsp;have hb:b<w.heap.size:=by
    have := World.block_lt_of_cell? w _ h00;simpa [xg] using this
   have hch:∃ F:Nat->α,∀ i,i<len->Good (F i)/\∀ (j:Nat) (u:Value),(f (F i))[j]? = some u->w.cell? (((⟨b,o,none⟩:Addr).add (i*s)).add j)=some u:=by
    obtain ⟨y0,_⟩:=key 0 hn;refine ⟨fun i=>if h:i<len then (key i h).choose else y0,fun i hil=>?_⟩;simp only [dif_pos hil];exact (key i hil).choose_spec
   obtain ⟨F,hF⟩:=hch;refine ⟨(List.range len).map F,⟨_,cap,by simp,by simpa using hl,by omega,fun _=>⟨b,o,rfl,Nat.zero_le _,hb,hb,fun k hk j u hu=>?_⟩⟩,fun y hy=>?_⟩
   ·have hk':k<len:=by simpa using hk
    have := (hF k hk').2 j u (by simpa using hu)
    rwa [xg,xg] at this
   ·rw [List.mem_map] at hy;obtain ⟨i,hi,rfl⟩:=hy;exact (hF i (by simpa using hi)).1
  ·have h0:len=0:=by omega
   subst h0;exact ⟨[],Sl.zY _ _ (by omega),fun y hy=>absurd hy (by simp)⟩
theorem KW {t:TypeId} {k:IntKind} (ht:P.underlying t=some (.int k)) (fuel:Nat) (cs:List Value) (x:DataW H×List MemPlace) (h:DataW.trod enc P w 0 spare held fuel t cs=some x) :
  ∃ a:Int,cs=[.int k a]/\(Lit.int k a).wf=true:=by
 obtain ⟨n,h1,_,h3⟩:=DataW.trod_int ht h;exact ⟨n,h1,h3⟩
end
theorem one_cell {v u:Value} (h:v.cells.toList=[u]) (hv:∃ a len cap,v = .slice a len cap):v=u:=by
 obtain ⟨a,len,cap,rfl⟩:=hv;simpa [Value.cells] using h
open Go.ChangeShapes Go.WideShapes Go.ChangeAt Go.RowKit Go.Sort
theorem zJ {w:World} {blk off g:Nat} {d:Array Int} (h:g≠blk):(putRow (Value.int .i64) w blk off d).heap[g]? = w.heap[g]? := by
 show (w.heap.modify blk _)[g]? = _;rw [Array.getElem?_modify,if_neg (Ne.symm h)]
theorem zK {w:World} {blk off:Nat} {d:Array Int} {cs:Array Value} {t:TypeId} {fr:Nat×Nat} (h:w.heap[blk]? = some (.cells cs t fr)):(putRow (Value.int .i64) w blk off d).heap[blk]? = some (.cells (putCells (Value.int .i64) off d cs) t fr):=by
 show (w.heap.modify blk _)[blk]? = _;rw [Array.getElem?_modify,if_pos rfl,h]
 rfl
theorem qW {off:Nat} {d:Array Int} {cs:Array Value}:(putCells (Value.int .i64) off d cs).size=cs.size:=by simp [putCells]
theorem BK {off:Nat} {d:Array Int} {cs:Array Value} {k:Nat} (h:off+d.size<=cs.size) (hk:k<d.size):(putCells (Value.int .i64) off d cs)[off+k]? = some (.int .i64 d[k]!):=by
 unfold putCells;rw [Array.getElem?_mapIdx,Array.getElem?_eq_getElem (by omega)];simp only [Option.map_some];rw [if_pos (by omega),show off+k-off=k by omega]
theorem IW {c:Cx} (hr:HRel c) {l q:LI} {ver ver':Nat} (hH:c.H=[some ⟨ver,1,3,l.map cI⟩]) {cs:Array Value} {fr0:Nat×Nat} (hB:BRel c 0 ⟨ver,1,3,l.map cI⟩ cs (some fr0)) {d':Array Int} (hd:d'.size=l.length) (hq:q.length<=d'.size)
  (hqe:∀ i (h:i<q.length),d'[i]! = q[i]) {m:Nat} {os:Array Obj} (hv:(ver'=ver/\q.length=l.length)\/ver<ver') :
  ∃ c',c'.w=grow (putRow (Value.int .i64) (Sort.ahead c.w m) (c.φ 0).1 (c.φ 0).2 d') os/\c'.H=[some ⟨ver',1,3,q.map cI⟩]/\HRel c'/\Ext c c'/\c'.φ 0=c.φ 0/\c'.w.heap[(c.φ 0).1]? = some (.cells (putCells (Value.int .i64) (c.φ 0).2 d' cs) 3 fr0):=by
 have hlv:c.live 0 ⟨ver,1,3,l.map cI⟩:=by
  unfold Cx.live;rw [hH]
  rfl
 have hat:c.w.heap[(c.φ 0).1]? = some (.cells cs 3 fr0):=hB.at_;have hblk:(c.φ 0).1<c.w.heap.size:=hr.live_lt hlv;have hfit:(c.φ 0).2+l.length<=cs.size:=by
  have := hB.fits;simpa using this
 have he1:Ext c (c.upd 0 ⟨ver',1,3,q.map cI⟩ ((c.φ 0).1,(c.φ 0).2) (putCells (Value.int .i64) (c.φ 0).2 d' cs)):=Cx.upd_ext hr hlv hB qW (by
  rcases hv with ⟨h1,h2⟩ | h
  ·exact .inl ⟨h1,rfl,by simp [h2],rfl⟩
  ·exact .inr h)
 have hr1:=Cx.upd_rel hr hlv hB (k:=⟨ver',1,3,q.map cI⟩) (o:=(c.φ 0).2) (cs:=putCells (Value.int .i64) (c.φ 0).2 d' cs) qW rfl he1 Nat.one_pos (by rw [qW];simp;omega) (fun i row h=>by
  obtain ⟨x,_,rfl⟩:=by simpa [List.getElem?_map,Option.map_eq_some_iff] using h
  rfl) (fun i row j a h1 h2=>by
  have hi:i<q.length:=by simpa using (ges h1).1
  have hrw:row=cI q[i]:=by
   have := (ges h1).2;rw [<- this];simp
  subst hrw
  match j,h2 with
  | 0,h2=>
   obtain rfl:=osl h2;refine ⟨.int .i64 d'[i]!,?_,rfl,?_⟩
   ·have := BK (off:=(c.φ 0).2) (d:=d') (cs:=cs) (k:=i) (by omega) (by omega);simpa using this
   ·rw [hqe i hi];exact .fr (.v rfl)
  | j+1,h2=>simp [cI] at h2)
 have hbl:Below (c.upd 0 ⟨ver',1,3,q.map cI⟩ ((c.φ 0).1,(c.φ 0).2) (putCells (Value.int .i64) (c.φ 0).2 d' cs)).w.heap.size (c.upd 0 ⟨ver',1,3,q.map cI⟩ ((c.φ 0).1,(c.φ 0).2) (putCells (Value.int .i64) (c.φ 0).2 d' cs)).w (grow (putRow (Value.int .i64) (Sort.ahead c.w m) (c.φ 0).1 (c.φ 0).2 d') os):=by
  have hz:(c.upd 0 ⟨ver',1,3,q.map cI⟩ ((c.φ 0).1,(c.φ 0).2) (putCells (Value.int .i64) (c.φ 0).2 d' cs)).w.heap.size=c.w.heap.size:=by simp [Cx.upd]
  have hs:(putRow (Value.int .i64) (Sort.ahead c.w m) (c.φ 0).1 (c.φ 0).2 d').heap.size=c.w.heap.size:=by rw [size_putRow];rfl
  refine ⟨rfl,rfl,rfl,?_,fun g hg=>?_⟩
  ·rw [hz];show _<=((putRow (Value.int .i64) (Sort.ahead c.w m) (c.φ 0).1 (c.φ 0).2 d').heap++os).size;rw [Array.size_append,hs];omega
  ·rw [hz] at hg;show ((putRow (Value.int .i64) (Sort.ahead c.w m) (c.φ 0).1 (c.φ 0).2 d').heap++os)[g]? = (c.w.setRow (c.φ 0).1 (putCells (Value.int .i64) (c.φ 0).2 d' cs)).heap[g]?;rw [Array.getElem?_append_left (by rw [hs];exact hg)]
   by_cases e:g=(c.φ 0).1
   ·subst e;rw [zK (w:=Sort.ahead c.w m) hat,setRow_heap _ _ _ _ _ _ hat]
   ·rw [zJ e,setRow_other _ _ _ _ e]
    rfl
 obtain ⟨g1,g2⟩:=zh hr1 hbl (fz':=fun _=>False) (fun _ h=>h.elim) (fun _ h=>h.elim) (fun _ _ _ h=>h);refine ⟨_,rfl,?_,g1,he1.trans g2,?_,?_⟩
 ·show c.H.set 0 _=_;rw [hH]
  rfl
 ·rfl
 ·have hz:(c.upd 0 ⟨ver',1,3,q.map cI⟩ ((c.φ 0).1,(c.φ 0).2) (putCells (Value.int .i64) (c.φ 0).2 d' cs)).w.heap.size=c.w.heap.size:=by simp [Cx.upd]
  have := hbl.block (c.φ 0).1 (by rw [hz];exact hblk);refine this.trans ?_;show (c.w.setRow (c.φ 0).1 (putCells (Value.int .i64) (c.φ 0).2 d' cs)).heap[_]? = _;exact setRow_heap _ _ _ _ _ _ hat
theorem IX {c:Cx} (hr:HRel c) {l:LI} {ver:Nat} (hH:c.H=[some ⟨ver,1,3,l.map cI⟩]) {u:Value} (hu:c.rel (.hs 0 ver 1 0 l.length) u) (hn:0<l.length) :
  ∃ cs fr0 cap,BRel c 0 ⟨ver,1,3,l.map cI⟩ cs (some fr0)/\u = .slice (some ⟨(c.φ 0).1,(c.φ 0).2,none⟩) l.length cap/\l.length<=cap/\cap<=9223372036854775807/\(c.φ 0).2+cap<=cs.size/\Holds (Value.int .i64) c.w (c.φ 0).1 (c.φ 0).2 l.toArray/\(c.φ 0).1<c.w.heap.size:=by
 have hlv:c.live 0 ⟨ver,1,3,l.map cI⟩:=by
  unfold Cx.live;rw [hH]
  rfl
 obtain ⟨cs,fr0,hB⟩:=hr.blk 0 _ hlv
 cases hu with
 | fr h=>cases h
 | @hs _ _ _ _ _ cap A hb hc hm h0 h=>
 obtain ⟨f,rfl,hat,hhd⟩:=hB.cells hlv (fun x hx=>(h x hx).1);obtain ⟨_,_,h3,h4⟩:=h _ hhd;have hA:=h3 (by omega);simp only [Nat.zero_mul,Nat.add_zero,Nat.mul_one] at hA h4;refine ⟨cs,f,cap,hB,by rw [hA],hc,hm,h4,fun j hj=>?_,hr.live_lt hlv⟩;have hj:j<l.length:=by simpa using hj
 have hj2:(c.φ 0).2+j<cs.size:=by omega
 obtain ⟨u,g1,g2,g3⟩:=hB.rel j (cI l[j]) 0 (I l[j]) (by simp [hj]) rfl;refine ⟨?_,?_⟩
 ·simp only [World.cell?,hat];have := ia g3;simp only [Nat.mul_one,Nat.add_zero] at g1;rw [g1];obtain ⟨rfl,_⟩:=this;simp [hj]
 ·have := hB.free f rfl _ hj2;obtain ⟨lo,hi'⟩:=f;simp only [World.frozen?,hat,Bool.and_eq_false_iff,decide_eq_false_iff_not];simp only at this;omega
open Go.Shelf Go.RowKit Go.Lib Go.Sort

open Go.ChangeShapes Go.WideShapes Go.ChangeAt Go.RowKit Go.Shelf Go.Sort

def KX:Go.Shelf.Ren:=⟨fun | 5=>57 | 8=>119 | 7=>118 | 19=>183 | 20=>184 | 10=>174 | 11=>175 | 12=>176 | 13=>177 | 14=>178 | 15=>179 | 16=>180 | 17=>181 | 18=>182 | 30=>231 | 31=>232 | 32=>233 | 33=>234 | 34=>235 | 35=>236 | 40=>268 | n=>n,fun | 23=>24 | 25=>3 | 3=>3 | 32=>155 | 22=>24 | 0=>0 | 44=>208 | 46=>210 | 4=>4 | 36=>203 | 35=>202 | 41=>39 | 5=>5 | 9=>9 | 53=>246 | 57=>250 | 63=>269 | 64=>270 | n=>n,fun | n=>n⟩
theorem Je:Go.Proofs.SlLaysM.n5 Tryz.prog KX where
 mixed:=by kernel_rfl
 f5 := ⟨"slices.Sort[[]int,int]",by decide,Tryz.func57.trans (congrArg some (by kernel_rfl))⟩
 f7 := ⟨"slices.pdqsortOrdered[int]",by decide,Tryz.func118.trans (congrArg some (by kernel_rfl))⟩
 f8:=Tryz.func119.trans (congrArg some (by kernel_rfl))
 f10 := ⟨"slices.insertionSortOrdered[int]",by decide,Tryz.func174.trans (congrArg some (by kernel_rfl))⟩
 f11 := ⟨"slices.heapSortOrdered[int]",by decide,Tryz.func175.trans (congrArg some (by kernel_rfl))⟩
 f12 := ⟨"slices.breakPatternsOrdered[int]",by decide,Tryz.func176.trans (congrArg some (by kernel_rfl))⟩
 f13 := ⟨"slices.choosePivotOrdered[int]",by decide,Tryz.func177.trans (congrArg some (by kernel_rfl))⟩
 f14 := ⟨"slices.reverseRangeOrdered[int]",by decide,Tryz.func178.trans (congrArg some (by kernel_rfl))⟩
 f15 := ⟨"slices.partialInsertionSortOrdered[int]",by decide,Tryz.func179.trans (congrArg some (by kernel_rfl))⟩
 f16 := ⟨"cmp.Less[int]",by decide,Tryz.func180.trans (congrArg some (by kernel_rfl))⟩
 f17 := ⟨"slices.partitionEqualOrdered[int]",by decide,Tryz.func181.trans (congrArg some (by kernel_rfl))⟩
 f18 := ⟨"slices.partitionOrdered[int]",by decide,Tryz.func182.trans (congrArg some (by kernel_rfl))⟩
 f19:=Tryz.func183.trans (congrArg some (by kernel_rfl))
 f20:=Tryz.func184.trans (congrArg some (by kernel_rfl))
 f30 := ⟨"slices.siftDownOrdered[int]",by decide,Tryz.func231.trans (congrArg some (by kernel_rfl))⟩
 f31:=Tryz.func232.trans (congrArg some (by kernel_rfl))
 f32:=Tryz.func233.trans (congrArg some (by kernel_rfl))
 f33 := ⟨"slices.medianAdjacentOrdered[int]",by decide,Tryz.func234.trans (congrArg some (by kernel_rfl))⟩
 f34 := ⟨"slices.medianOrdered[int]",by decide,Tryz.func235.trans (congrArg some (by kernel_rfl))⟩
 f35 := ⟨"cmp.isNaN[int]",by decide,Tryz.func236.trans (congrArg some (by kernel_rfl))⟩
 f40 := ⟨"slices.order2Ordered[int]",by decide,Tryz.func268.trans (congrArg some (by kernel_rfl))⟩
 t0:=Tryz.underlying0
 a0:=Tryz.isAgg0
 z0:=Tryz.sizeOf0
 v0:=Tryz.zeroValue0
 t3:=Tryz.underlying3
 a3:=Tryz.isAgg3
 z3:=Tryz.sizeOf3
 v3:=Tryz.zeroValue3
 t4:=Tryz.underlying4
 a4:=Tryz.isAgg4
 z4:=Tryz.sizeOf4
 v4:=Tryz.zeroValue4
 t5:=Tryz.underlying5
 a5:=Tryz.isAgg5
 z5:=Tryz.sizeOf5
 v5:=Tryz.zeroValue5
 t9:=Tryz.underlying9
 a9:=Tryz.isAgg9
 z9:=Tryz.sizeOf9
 v9:=Tryz.zeroValue9
 t22:=Tryz.underlying24
 a22:=Tryz.isAgg24
 z22:=Tryz.sizeOf24
 v22:=Tryz.zeroValue24
 t23:=Tryz.underlying24
 a23:=Tryz.isAgg24
 z23:=Tryz.sizeOf24
 v23:=Tryz.zeroValue24
 t25:=Tryz.underlying3
 a25:=Tryz.isAgg3
 z25:=Tryz.sizeOf3
 v25:=Tryz.zeroValue3
 t32:=Tryz.underlying155
 a32:=Tryz.isAgg155
 z32:=Tryz.sizeOf155
 v32:=Tryz.zeroValue155
 t35:=Tryz.underlying202
 a35:=Tryz.isAgg202
 z35:=Tryz.sizeOf202
 v35:=Tryz.zeroValue202
 t36:=Tryz.underlying203
 a36:=Tryz.isAgg203
 z36:=Tryz.sizeOf203
 v36:=Tryz.zeroValue203
 t41:=Tryz.underlying39
 a41:=Tryz.isAgg39
 z41:=Tryz.sizeOf39
 v41:=Tryz.zeroValue39
 t44:=Tryz.underlying208
 a44:=Tryz.isAgg208
 z44:=Tryz.sizeOf208
 v44:=Tryz.zeroValue208
 t46:=Tryz.underlying210
 a46:=Tryz.isAgg210
 z46:=Tryz.sizeOf210
 v46:=Tryz.zeroValue210
 t53:=Tryz.underlying246
 a53:=Tryz.isAgg246
 z53:=Tryz.sizeOf246
 v53:=Tryz.zeroValue246
 t57:=Tryz.underlying250
 a57:=Tryz.isAgg250
 z57:=Tryz.sizeOf250
 v57:=Tryz.zeroValue250
 t63:=Tryz.underlying269
 a63:=Tryz.isAgg269
 z63:=Tryz.sizeOf269
 v63:=Tryz.zeroValue269
 t64:=Tryz.underlying270
 a64:=Tryz.isAgg270
 z64:=Tryz.sizeOf270
 v64:=Tryz.zeroValue270
theorem zL (l:LI) (g:Bool) (ver:Nat) (hg:g=true->l=[]) {q:LI} (h:oZ l=some q) :
  dz Tryz.prog 57 [hS g 0 ver 1 l.length] [bE g ver 1 3 (l.map cI)] (.tup []) [bE g ver 1 3 (q.map cI)]:=by
 obtain ⟨hl,h⟩:=gdD h;obtain rfl:=osl h;refine ⟨by kernel_rfl,fun c vs hH hr hall=>?_⟩;obtain ⟨hsz,hrel⟩:=hall;obtain ⟨u,rfl⟩:∃ u,vs = #[u]:=by
  match vs,hsz with
  | ⟨[u]⟩,_=>exact ⟨u,rfl⟩
 have hu:=hrel 0 _ u rfl rfl
 by_cases hn:0<l.length
 ·obtain rfl:g=false:=by
   cases g with
   | false=>rfl
   | true=>
    rw [hg rfl] at hn;exact absurd hn (by simp)
  have hH:c.H=[some ⟨ver,1,3,l.map cI⟩]:=hH;obtain ⟨cs,fr0,cap,hB,rfl,hc,hm,hcs,hHo,hblk⟩:=IX hr hH hu hn;have hcon:=AnyM.slices_Sort_int Je (c.φ 0).1 (c.φ 0).2 cap l c.w hHo hblk hl;refine (show Calls Tryz.prog 57 _ _ _ from hcon).mono ?_;rintro e w' ⟨rfl,m,os,rfl⟩;have hll:(Ik l).length=l.length:=(pY l).length_eq;obtain ⟨c',w1,w2,w3,w4,w5,w6⟩:=IW hr hH hB (q:=Ik l) (ver':=ver) (d':=(Ik l).toArray) (by simpa using hll) (by simp) (fun k hk=>by
   rw [getElem!_pos _ k (by simpa using hk)];simp) (m:=m) (os:=os) (.inl ⟨rfl,hll⟩)
  exact ⟨_,c',Z,w1,w2,w3,w4,.tup Z (fun i x y hx=>by simp at hx)⟩
 ·obtain rfl:l=[]:=List.eq_nil_of_length_eq_zero (by omega);obtain ⟨A,cap,rfl⟩:∃ A cap,u = .slice A 0 cap:=by
   cases g with
   | true=>
    cases hu with
    | fr h=>cases h;exact ⟨_,_,rfl⟩
   | false=>
    obtain ⟨A,cap,h6,_⟩:=pR hu;exact ⟨A,cap,h6⟩
  refine (show Calls Tryz.prog 57 _ _ _ from AnyM.slices_Sort_int_none Je A cap c.w).mono ?_;rintro e w' ⟨rfl,rfl⟩;refine ⟨_,c,Z,Z,?_,hr,Ext.refl c,.tup Z (fun i x y hx=>by simp at hx)⟩;rw [hH,(pY []).eq_nil]

def Rd1 (w:World) (fz:Nat->Prop):Type:={ p:Value×LI // p.1.oneCell'=true/\FRel w fz (eL cI p.2) p.1 }
theorem Hm (w:World) (fz:Nat->Prop):FRel w fz (eL cI ([]:LI)) (.slice none 0 0):=
 .sl (s:=1) (g:=0) (o:=0) (fun _ _ => .bool false) (Nat.le_refl _) (by decide) (fun h=>absurd h (by simp)) (fun i h=>absurd h (by simp)) (fun i j a h=>absurd h (by simp)) (fun i j a h=>absurd h (by simp)) (fun i j a h=>absurd h (by simp))
instance {w:World} {fz:Nat->Prop}:Inhabited (Rd1 w fz):=⟨⟨(.slice none 0 0,[]),rfl,Hm w fz⟩⟩
end
end Go.Proofs.YtcmimhffgmckjaaGreatDoor
