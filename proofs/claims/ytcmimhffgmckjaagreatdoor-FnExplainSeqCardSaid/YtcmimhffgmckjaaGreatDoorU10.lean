/- Texts joined. No conditions. -/
import Derived.Test.YtcmimhffgmckjaaGreatDoorProg
import Derived.ChangeSame
import Derived.ChangeSlices
import Derived.WideKeyArgs
import Derived.Carry
import Derived.Deep.Slices
import Derived.Deep.Fields
import Derived.ProofKit
import Derived.OpenShut
import Derived.BigRegion
import Derived.Sort.Row
import Derived.Sort.Grow
import Derived.Shelf.Slices.Delete
import Derived.Shelf.SortM.Plain
import Derived.Shelf.SortM.SortNone
import Derived.Shelf.SlSortCmp.NoneTotal
import Derived.Test.YtcmimhffgmckjaaGreatDoorU9
namespace Go.Proofs.YtcmimhffgmckjaaGreatDoor
noncomputable section
open Go.RowKit
set_option maxRecDepth 100000
def jT (p:List (List LD)):((LI)×Int×Int)->Option (((LI)×Int×Int) ⊕ ((LI)×Int)):=fun s5=>bif decide (s5.2.1<(p.length:Int)) then gd (decide (0<=s5.2.1/\s5.2.1<(p.length:Int))) <|gd (ez (s5.1.length+1) 8) <|gd (Ly .i64 (s5.2.2+((p.getD s5.2.1.toNat default).length:Int))) <|gd (Ly .i64 (s5.2.1+(1:Int))) <|some (.inl ((s5.1++[((p.getD s5.2.1.toNat default).length:Int)]),(s5.2.1+(1:Int)),(s5.2.2+((p.getD s5.2.1.toNat default).length:Int)))) else some (.inr (s5.1,s5.2.2))
def nH (p:List (List LD)) (s19:(LI)×Int×(LI)×(LI)):Int->Option (Int ⊕ Int):=fun s28=>gd (decide (0<=s28/\s28<(s19.2.2.1.length:Int))) <|bif ((s19.2.2.1.getD s28.toNat default)==(0:Int)) then gd (Ly .i64 (s28+(1:Int))) <|gd (decide ((p.length:Int)≠0)) <|some (.inl ((s28+(1:Int)).tmod (p.length:Int))) else some (.inr s28)
def jc (p:List (List LD)) (s1:(LI)×Int):((LI)×Int×(LI)×(LI))->Option (((LI)×Int×(LI)×(LI)) ⊕ ((LI)×Int×(LI)×(LI))):=fun s19=>bif decide ((s19.2.2.2.length:Int)<s1.2) then Option.bind (aG (⟨s19.1,s19.2.1⟩:ah) (p.length:Int)) fun v24=>Option.bind (aY (nH p s19) v24.2) fun s25=>gd (decide (0<=s25/\s25<(s19.2.2.1.length:Int))) <|gd (Ly .i64 ((s19.2.2.1.getD s25.toNat default)-(1:Int))) <|gd (ez (s19.2.2.2.length+1) 8) <|some (.inl (v24.1.b,v24.1.p,(s19.2.2.1.set s25.toNat ((s19.2.2.1.getD s25.toNat default)-(1:Int))),(s19.2.2.2++[s25]))) else some (.inr (s19.1,s19.2.1,s19.2.2.1,s19.2.2.2))
def jr (r_:ah) (p:List (List LD)):Option (ah×(LI)):= Option.bind (aY (jT p) (([]:LI),(0:Int),(0:Int))) fun s1=>Option.bind (aY (jc p s1) (r_.b,r_.p,s1.1,([]:LI))) fun s14=>Option.bind (Option.bind (aG (⟨s14.1,s14.2.1⟩:ah) (16:Int)) fun v40=>bif (v40.2==(0:Int)) then Option.bind (bK (⟨v40.1.b,v40.1.p⟩:ah) ([(0:Int),(3:Int),(-1:Int)]:LI)) fun v42=>gd (ez (s14.2.2.2.length+1) 8) <|some (v42.1.b,v42.1.p,(s14.2.2.2++[v42.2])) else bif (v40.2==(1:Int)) then bif decide ((0:Int)<(s14.2.2.2.length:Int)) then gd (decide (0<=(1:Int)/\(1:Int)<=(s14.2.2.2.length:Int)/\(s14.2.2.2.length:Int)<=(s14.2.2.2.length:Int))) <|some (v40.1.b,v40.1.p,((s14.2.2.2.drop (1:Int).toNat).take ((s14.2.2.2.length:Int).toNat-(1:Int).toNat))) else some (v40.1.b,v40.1.p,s14.2.2.2) else some (v40.1.b,v40.1.p,s14.2.2.2)) fun s39=>some ((⟨s39.1,s39.2.1⟩:ah),s39.2.2)
def iF (code:LI):Option ((List (List LD))×(LI)):= Option.bind (ko code) fun v1=>Option.bind (oQ (⟨v1.b,v1.p⟩:ah)) fun v2=>Option.bind (jb (⟨v2.1.b,v2.1.p⟩:ah) v2.2) fun v3=>Option.bind (jr (⟨v3.1.b,v3.1.p⟩:ah) v2.2) fun v4=>some (v3.2,v4.2)
def ju (code:LI):Option ((List (List LD))×(LI)):= Option.bind (iF code) fun v1=>some (v1.1,v1.2)
def eH (code:LI):Option Bool:= bif decide ((1048576:Int)<(code.length:Int)) then some true else Option.bind (ju code) fun v2=>Option.bind (lH v2.1 v2.2) fun v3=>Option.bind (lQ v2.1 v2.2) fun v4=>Option.bind (j5 (⟨#[115,101,113]⟩:ByteArray)) fun v5=>Option.bind (bif (!(v3.2==v4.2)) then some true else Option.bind (f9 (⟨v3.1.From,v3.1.Order⟩:LF) (⟨v4.1.From,v4.1.Order⟩:LF)) fun v8=>some (!v8)) fun s6=>Option.bind (bif s6 then some true else some (!v3.2)) fun s9=>bif s9 then Option.bind (bif (v3.2==v4.2) then Option.bind (f9 (⟨v3.1.From,v3.1.Order⟩:LF) (⟨v4.1.From,v4.1.Order⟩:LF)) fun v14=>some v14 else some false) fun s12=>some s12 else Option.bind (bif v5.2 then Option.bind (iL v2.1 (⟨v3.1.From,v3.1.Order⟩:LF) v5.1) fun v17=>some (decide (v17=(⟨#[97,108,108,111,119,101,100]⟩:ByteArray))) else some false) fun s15=>some s15
theorem Dv:∀ {l:LI} {i:Nat} (v:Int),i<l.length->(l.set i v).sum=l.sum-l.getD i default+v
 | [],_,_,h=>absurd h (by simp)
 | a::l,0,v,_=>by
  show v+l.sum=a+l.sum-a+v;omega
 | a::l,i+1,v,h=>by
  have := Dv (l:=l) (i:=i) v (by simpa using h);show a+(l.set i v).sum=a+l.sum-l.getD i default+v;omega
theorem Dw:∀ {l:LI},0<l.sum->∃ j,j<l.length/\l.getD j default≠0
 | [],h=>absurd h (by simp)
 | a::l,h=>by
  by_cases e:a=0
  ·subst e;obtain ⟨j,h1,h2⟩:=Dw (l:=l) (by simpa using h);exact ⟨j+1,by simpa using h1,h2⟩
  ·exact ⟨0,by simp,e⟩
theorem Gu {k:Int} {r:ah} (h:Rd k r) (hk:k<=100000) {p:List (List LD)} (hp:smP p=true):LM (jr r p) fun v=>v.2.length<=100:=by
 rw [tF] at hp;obtain ⟨hp4,hp8⟩:=hp;unfold jr;refine LM.bind (P:=fun s:List Int×Int=>s.1.length=p.length/\(∀ v∈s.1,0<=v/\v<=8)/\s.1.sum=s.2/\s.2<=32) ?_ fun s1 ⟨a1,a2,a3,a4⟩ => ?_
 ·refine LM.loop (fun s=>∃ n:Nat,n<=p.length/\s.2.1=(n:Int)/\s.1.length=n/\(∀ v∈s.1,0<=v/\v<=8)/\s.1.sum=s.2.2/\0<=s.2.2/\s.2.2<=((8*n:Nat):Int)) (fun s=>((p.length:Int)-s.2.1).toNat) ⟨0,by omega,rfl,rfl,by simp,rfl,Int.le_refl _,Int.le_refl _⟩ fun s ⟨n,h1,h2,h3,h4,h5,h6,h7⟩ => ?_;obtain ⟨l,i,c⟩:=s;simp only at h2 h3 h4 h5 h6 h7;subst h2;unfold jT;refine .bifD (fun hk=>?_) fun hk => .pure ?_
  ·simp only [tnn] at hk ⊢;have hn:n<p.length:=by omega
   have e:p.getD n default=p[n]:=by rw [gdq,geq hn];rfl
   have hr:=(hp8 _ (List.getElem_mem hn)).1;rw [<- e] at hr;refine .gdD ⟨by omega,hk⟩ (.gd (dU (by omega) rfl) (.gdI (by omega) (.gdI (by omega) (.pure ⟨⟨n+1,by omega,rfl,by simp [h3],fun v hv=>?_,?_,by simp only [];omega,by simp only [];omega⟩,by simp only [];omega⟩))))
   ·rcases List.mem_append.1 hv with hv | hv
    ·exact h4 v hv
    ·rw [List.mem_singleton] at hv;subst hv;omega
   ·simp only [List.sum_append,List.sum_cons,List.sum_nil];omega
  ·simp only [] at hk;exact ⟨by simp only [];omega,h4,h5,by simp only [];omega⟩
 ·refine LM.bind (P:=fun z:List Int×Int×List Int×LI=>Rd (k+32) ⟨z.1,z.2.1⟩/\z.2.2.2.length<=32) ?_ fun z ⟨b1,b2⟩ => ?_
  ·refine LM.loop (fun z=>Rd (k+(z.2.2.2.length:Int)) ⟨z.1,z.2.1⟩/\z.2.2.1.length=p.length/\(∀ v∈z.2.2.1,0<=v/\v<=8)/\z.2.2.1.sum=s1.2-(z.2.2.2.length:Int)/\((z.2.2.2.length:Int)<=s1.2\/z.2.2.2=[])) (fun z=>(s1.2-(z.2.2.2.length:Int)).toNat) ⟨by simpa using h,a1,a2,by simpa using a3,.inr rfl⟩ fun z ⟨c1,c2,c3,c4,c5⟩ => ?_;have c6:z.2.2.2.length<=32:=by
    rcases c5 with c5 | c5
    ·omega
    ·rw [c5];exact Nat.zero_le _
   unfold jc;refine .bifD (fun hlt=>?_) fun hge => .pure ⟨c1.mono (by omega),c6⟩;refine (jo c1.mk' (by omega) _).bind fun v ⟨d1,d2,d3⟩ => ?_;obtain ⟨j,j1,j2⟩:=Dw (l:=z.2.2.1) (by omega);have hv:v.2<(p.length:Int):=by omega
   refine LM.bind (P:=fun t:Int=>0<=t/\t<(p.length:Int)/\z.2.2.1.getD t.toNat default≠0) ?_ fun t ⟨t1,t2,t3⟩ => ?_
   ·refine LM.loop (fun t=>0<=t/\t<(p.length:Int)) (fun t=>if t<=(j:Int) then ((j:Int)-t).toNat else ((j:Int)+(p.length:Int)-t).toNat) ⟨d2,hv⟩ fun t ⟨t1,t2⟩ => ?_;unfold nH;refine .gdD ⟨t1,by omega⟩ (.bif (fun h0 => .gdI (by omega) (.gdD (by omega) (.pure ?_))) fun h0 => .pure ⟨t1,t2,by simpa using h0⟩);have h0:z.2.2.1.getD t.toNat default=0:=by simpa using h0
    have hne:t≠(j:Int):=by
     rintro rfl;rw [tnn] at h0;exact j2 h0
    have hm:(t+1).tmod (p.length:Int)=if t+1=(p.length:Int) then 0 else t+1:=by
     rw [Int.tmod_eq_emod_of_nonneg (by omega)]
     split
     ·rename_i e;rw [e,Int.emod_self]
     ·exact Int.emod_eq_of_lt (by omega) (by omega)
    show (0<=(t+1).tmod (p.length:Int)/\(t+1).tmod (p.length:Int)<(p.length:Int))/\(if (t+1).tmod (p.length:Int)<=(j:Int) then ((j:Int)-(t+1).tmod (p.length:Int)).toNat else ((j:Int)+(p.length:Int)-(t+1).tmod (p.length:Int)).toNat)<(if t<=(j:Int) then ((j:Int)-t).toNat else ((j:Int)+(p.length:Int)-t).toNat);rw [hm]
    split <;> (refine ⟨by omega,?_⟩;split <;> split <;> omega)
   ·have tn:t.toNat<z.2.2.1.length:=by omega
    have tb:=c3 _ (vS tn);refine .gdD ⟨t1,by omega⟩ (.gdI (by omega) (.gd (dU (by omega) rfl) (.pure ⟨⟨?_,by simp only [List.length_set];exact c2,AR c3 (by omega),?_,.inl (by simp;omega)⟩,by simp;omega⟩)))
    ·simp only [lla,List.length_singleton];exact d1.mono (by omega)
    ·simp only [];rw [Dv _ tn,lla,List.length_singleton];omega
  ·refine LM.bind (P:=fun z:List Int×Int×LI=>z.2.2.length<=33) ?_ fun w hw => .pure (by simp only [];omega);refine (jo b1.mk' (by omega) _).bind fun v ⟨d1,_,_⟩ => .bif (fun _=>?_) fun _ => .bif (fun _ => .bifD (fun hpos => .gdD (by omega) (.pure ?_)) fun _ => .pure ?_) fun _ => .pure ?_
   ·exact (wY d1.mk' (by omega) _ (by simp)).bind fun u _ => .gd (dU (by omega) rfl) (.pure (by simp;omega))
   ·simp only [List.length_take,List.length_drop];omega
   ·simp only [];omega
   ·simp only [];omega
theorem KS {b:LI} (hb:Bts b):LM (ju b) fun v=>Sm v.1/\v.2.length<=100:=by
 unfold ju;refine LM.bind (P:=fun v:List (List LD)×LI=>Sm v.1/\v.2.length<=100) ?_ fun v hv => .pure hv;unfold iF;exact (H8 hb).bind fun r h=>(Eg h.mk' (by omega) H9).bind fun v ⟨a1,a2⟩=>(BS a1.mk' (by omega) a2).bind fun u ⟨b1,b2⟩=>(Gu b1.mk' (by omega) a2).bind fun x hx => .pure ⟨b2,hx⟩
section
variable {p:List (List LD)} {s:LI} {k:Nat}
variable (hk:k+1<s.length) (hne:s.getD k default≠s.getD (k+1) default)
include hk
include hne
end
section
variable {p:List (List LD)}
end
section
variable {p:List (List LD)} {x:XS} {F:LI}
theorem Dx (hp:PV p) (C:Cand p x (J2 p)):Chk p x:=by
 have operm:∀ l:Nat,l<3->(x.2.getD l default).Perm (wrs p (l:Int)):=fun l hl=>by
  have O:=C.ods (l:Int) (by omega);unfold od at O;rw [tnn] at O;refine (List.perm_ext_iff_of_nodup O.nd (J3 _)).2 fun n=>?_;rw [O.mem];unfold wrs;rw [List.mem_filter];unfold Wl;rw [bae,dte];exact Iff.rfl
 refine ⟨C.flen,C.olen,fun n hn=>?_,fun l hl=>⟨operm l hl,?_⟩⟩
 ·have hm:(n:Int)∈J2 p:=(C.mem _).2 ⟨by omega,by omega⟩
  split
  ·rename_i hr;have h1:=C.rdc _ hm hr;have h2:=C.ne _ hm hr;have hl:=xE hp (n:=(n:Int)) (by omega) (by omega);have hpm:=operm (ev p (n:Int)).Loc.toNat (by omega);rw [Int.toNat_of_nonneg hl.1] at hpm;rw [tnn] at h1 h2;exact ⟨hpm.mem_iff.1 h1,h2⟩
  ·rename_i hr;have := C.frN _ hm (by simpa using hr)
   rwa [tnn] at this
 ·obtain ⟨t,ht⟩:=C.hd l hl;unfold od at ht;rw [tnn] at ht;show (x.2.getD l []).getD 0 default=l;rw [ht]
  rfl
theorem Gv (hp:PV p) (hv:fU (toI p)=true) (hsz:p.length<=1048576/\total p<=1048576) (C:Cand p x (J2 p)):LM (iw p ⟨x.1,x.2⟩) (· = true):=by
 have hX:=Lc hp C;refine (J6 hp hv hsz fun r hr=>?_).mono fun b hb=>hb.2 (Dx hp C);obtain ⟨i,hi,rfl⟩:=List.getElem_of_mem hr;have O:(x.2.getD i default).Perm (wrs p (i:Int)):=((Dx hp C).ords i (by rw [C.olen] at hi;exact hi)).1;rw [gdq,geq hi] at O;have h1:=O.length_eq;have h2:=IA (p:=p) (i:Int);have h3:=nZ hp.vs;show x.2[i].length<=_;have h4:(some x.2[i]).getD default=x.2[i]:=rfl;rw [h4] at h1;omega
end
section
variable {p:List (List LD)} {s:LI}
theorem Ba (hw:Whole p s) (hsz:p.length<=1048576/\total p<=1048576):LM (iL p (Dj p s true) Jr) (· = ⟨#[97,108,108,111,119,101,100]⟩):=by
 have hv:=hw.1;have hp:=PV.of hv;have R:=BM hp hw;have C:=D9 hw;unfold iL;refine (Gv hp hv hsz C).bind fun v hv' => ?_;subst hv';refine LM.bind (P:=(· = false)) (.bif (fun h=>by cases h) fun _=>(LM.of (P:=(· = true)) H5 rfl).bind fun v hv => .pure (by rw [hv];rfl)) fun v hv2=>?_;subst hv2;refine .bif (fun h=>by cases h) fun _=>LM.bind (P:=(· = ⟨#[97,108,108,111,119,101,100]⟩)) ?_ fun v hv => .pure hv;unfold qw;refine (HZ hp C).bind fun v ⟨v1,v2⟩ => .bif (fun h=>?_) fun h=>(Eb hp hv C).bind fun w ⟨w1,w2⟩ => .bifD (fun _ => .pure rfl) fun hn=>absurd (w1.2 (Gp hp R)) hn;exfalso;obtain ⟨i,i1,i2,i3⟩:=v2 (by simpa using h);obtain ⟨v,hv⟩:=Du hp R _ (i:Int) ((R.mem _).2 ⟨by omega,by omega⟩) (Nat.lt_succ_self _);exact hv.not_cyc i3
end
theorem KT {code:LI} (hb:Bts code):eH code=some true:=by
 refine LM.eq ?_;unfold eH;refine .bif (fun _ => .pure rfl) fun _=>(KS hb).bind fun v ⟨hsm,hsl⟩ => ?_;obtain ⟨p,s⟩:=v;simp only at hsm hsl ⊢;have hsz:=hsm.sz;obtain ⟨b,x1,x2,x3,hw⟩:=D8 p hsz (s:=s) (by omega);have hss:LM (f9 (Dj p s b) (Dj p s b)) (· = true):=(FP x3).mono fun v hv=>by rw [hv];simp [same]
 refine (LM.of (P:=(· = (Dj p s b,b))) x1 rfl).bind fun v5 h5=>(LM.of (P:=(· = (Dj p s b,b))) x2 rfl).bind fun v6 h6=>(LM.of (P:=(· = (Jr,true))) H4 rfl).bind fun v7 h7=>?_;subst h5 h6 h7;refine LM.bind (P:=(· = false)) (.bif (fun h=>by simp at h) fun _=>hss.bind fun v hv => .pure (by rw [hv];rfl)) fun s7 h7=>?_;subst h7;refine LM.bind (P:=(· = !b)) (.bif (fun h=>by cases h) fun _ => .pure rfl) fun s10 h10=>?_;subst h10;refine .bif (fun _=>?_) fun h=>?_
 ·exact LM.bind (P:=(· = true)) (.bif (fun _=>hss.bind fun v hv => .pure hv) fun h=>by simp at h) fun v hv => .pure hv
 ·obtain rfl:b=true:=by simpa using h
  exact LM.bind (P:=(· = true)) (.bif (fun _=>(Ba (hw.1 rfl) hsz).bind fun v hv => .pure (decide_eq_true hv)) fun h=>by cases h) fun v hv => .pure hv
theorem LR:TyF Tryz.prog 3 false 1:=⟨by kernel_rfl,by kernel_rfl,by kernel_rfl,by kernel_rfl⟩
theorem zs3:TyZ Tryz.prog 3 [I (0:Int)]:=⟨by kernel_rfl,by kernel_rfl⟩
theorem ty4:TyF Tryz.prog 4 false 1:=⟨by kernel_rfl,by kernel_rfl,by kernel_rfl,by kernel_rfl⟩
theorem zs4:TyZ Tryz.prog 4 [Bo false]:=⟨by kernel_rfl,by kernel_rfl⟩
theorem bt4:uM Tryz.prog 4=true:=by kernel_rfl
theorem ty5:TyF Tryz.prog 5 false 1:=⟨by kernel_rfl,by kernel_rfl,by kernel_rfl,by kernel_rfl⟩
theorem zs5:TyZ Tryz.prog 5 [Y (0:Int)]:=⟨by kernel_rfl,by kernel_rfl⟩
theorem ty9:TyF Tryz.prog 9 false 1:=⟨by kernel_rfl,by kernel_rfl,by kernel_rfl,by kernel_rfl⟩
theorem zs9:TyZ Tryz.prog 9 [St (⟨#[]⟩:ByteArray)]:=⟨by kernel_rfl,by kernel_rfl⟩
theorem IE:TyF Tryz.prog 22 false 1:=⟨by kernel_rfl,by kernel_rfl,by kernel_rfl,by kernel_rfl⟩
theorem Ib:TyF Tryz.prog 23 false 1:=⟨by kernel_rfl,by kernel_rfl,by kernel_rfl,by kernel_rfl⟩
theorem o5:TyF Tryz.prog 24 false 1:=⟨by kernel_rfl,by kernel_rfl,by kernel_rfl,by kernel_rfl⟩
theorem Lm:TyZ Tryz.prog 24 [.nil]:=⟨by kernel_rfl,by kernel_rfl⟩
theorem Dy:TyF Tryz.prog 27 false 1:=⟨by kernel_rfl,by kernel_rfl,by kernel_rfl,by kernel_rfl⟩
theorem tG:TyF Tryz.prog 29 true 2:=⟨by kernel_rfl,by kernel_rfl,by kernel_rfl,by kernel_rfl⟩
theorem Es:TyZ Tryz.prog 29 [.nil,.nil]:=⟨by kernel_rfl,by kernel_rfl⟩
theorem xa:TyS Tryz.prog 29 [(0,1),(1,1)]:=⟨by kernel_rfl⟩
theorem Jv:TyF Tryz.prog 71 false 1:=⟨by kernel_rfl,by kernel_rfl,by kernel_rfl,by kernel_rfl⟩
theorem Lp:TyZ Tryz.prog 71 [.nil]:=⟨by kernel_rfl,by kernel_rfl⟩
theorem zN:TyF Tryz.prog 74 true 5:=⟨by kernel_rfl,by kernel_rfl,by kernel_rfl,by kernel_rfl⟩
theorem Eh:TyZ Tryz.prog 74 [I (0:Int),I (0:Int),I (0:Int),Bo false,Bo false]:=⟨by kernel_rfl,by kernel_rfl⟩
theorem qh:TyS Tryz.prog 74 [(0,1),(1,1),(2,1),(3,1),(4,1)]:=⟨by kernel_rfl⟩
theorem xG:TyF Tryz.prog 91 false 1:=⟨by kernel_rfl,by kernel_rfl,by kernel_rfl,by kernel_rfl⟩
theorem Lr:TyZ Tryz.prog 91 [.nil]:=⟨by kernel_rfl,by kernel_rfl⟩
theorem m8:TyF Tryz.prog 97 true 4:=⟨by kernel_rfl,by kernel_rfl,by kernel_rfl,by kernel_rfl⟩
theorem xb:TyZ Tryz.prog 97 [I (0:Int),I (0:Int),I (0:Int),I (0:Int)]:=⟨by kernel_rfl,by kernel_rfl⟩
theorem nA:TyS Tryz.prog 97 [(0,1),(1,1),(2,1),(3,1)]:=⟨by kernel_rfl⟩
theorem KU:TyZ Tryz.prog 100 [I (0:Int),I (0:Int),I (0:Int)]:=⟨by kernel_rfl,by kernel_rfl⟩
theorem rP:TyF Tryz.prog 103 true 4:=⟨by kernel_rfl,by kernel_rfl,by kernel_rfl,by kernel_rfl⟩
theorem Bb:TyZ Tryz.prog 103 [.nil,.nil,.nil,.nil]:=⟨by kernel_rfl,by kernel_rfl⟩
theorem sJ:TyS Tryz.prog 103 [(0,1),(1,1),(2,1),(3,1)]:=⟨by kernel_rfl⟩
theorem Gw:TyF Tryz.prog 109 true 3:=⟨by kernel_rfl,by kernel_rfl,by kernel_rfl,by kernel_rfl⟩
theorem KV:TyZ Tryz.prog 112 [.nil,Y (0:Int),Y (0:Int),Y (0:Int),Y (0:Int),Y (0:Int),Y (0:Int),Y (0:Int),Y (0:Int),Y (0:Int),Y (0:Int),Y (0:Int),Y (0:Int),Y (0:Int),Y (0:Int),Y (0:Int)]:=⟨by kernel_rfl,by kernel_rfl⟩
theorem zO:TyS Tryz.prog 112 [(0,1),(1,3),(4,9),(13,3)]:=⟨by kernel_rfl⟩
theorem Km:TyF Tryz.prog 121 true 16:=⟨by kernel_rfl,by kernel_rfl,by kernel_rfl,by kernel_rfl⟩
theorem Kn:TyZ Tryz.prog 121 [.nil,Y (0:Int),Y (0:Int),Y (0:Int),Y (0:Int),Y (0:Int),Y (0:Int),Y (0:Int),Y (0:Int),Y (0:Int),Y (0:Int),Y (0:Int),Y (0:Int),Y (0:Int),Y (0:Int),Y (0:Int)]:=⟨by kernel_rfl,by kernel_rfl⟩
theorem Gx:TyS Tryz.prog 121 [(0,16)]:=⟨by kernel_rfl⟩
theorem CO:TyF Tryz.prog 127 false 1:=⟨by kernel_rfl,by kernel_rfl,by kernel_rfl,by kernel_rfl⟩
theorem fw:TyF Tryz.prog 129 true 3:=⟨by kernel_rfl,by kernel_rfl,by kernel_rfl,by kernel_rfl⟩
theorem uX:TyZ Tryz.prog 129 [I (0:Int),St (⟨#[]⟩:ByteArray),.nil]:=⟨by kernel_rfl,by kernel_rfl⟩
theorem o6:TyS Tryz.prog 129 [(0,1),(1,1),(2,1)]:=⟨by kernel_rfl⟩
theorem Ei:TyF Tryz.prog 133 true 4:=⟨by kernel_rfl,by kernel_rfl,by kernel_rfl,by kernel_rfl⟩
theorem Ic:TyZ Tryz.prog 133 [I (0:Int),I (0:Int),St (⟨#[]⟩:ByteArray),.nil]:=⟨by kernel_rfl,by kernel_rfl⟩
theorem Ej:TyS Tryz.prog 133 [(0,1),(1,3)]:=⟨by kernel_rfl⟩
theorem KW:TyF Tryz.prog 155 false 1:=⟨by kernel_rfl,by kernel_rfl,by kernel_rfl,by kernel_rfl⟩
theorem KX:TyZ Tryz.prog 157 [.nil,I (0:Int)]:=⟨by kernel_rfl,by kernel_rfl⟩
theorem xN:TyS Tryz.prog 157 [(0,1),(1,1)]:=⟨by kernel_rfl⟩
theorem Ie:TyF Tryz.prog 183 false 1:=⟨by kernel_rfl,by kernel_rfl,by kernel_rfl,by kernel_rfl⟩
theorem KY:TyZ Tryz.prog 185 [.nil,.nil,.nil,.nil,.nil,.nil]:=⟨by kernel_rfl,by kernel_rfl⟩
theorem uY:TyS Tryz.prog 185 [(0,1),(1,2),(3,1),(4,1),(5,1)]:=⟨by kernel_rfl⟩
theorem KZ:TyZ Tryz.prog 193 [St (⟨#[]⟩:ByteArray),Bo false]:=⟨by kernel_rfl,by kernel_rfl⟩
theorem uq:TyS Tryz.prog 193 [(0,1),(1,1)]:=⟨by kernel_rfl⟩
theorem K3:TyF Tryz.prog 210 false 1:=⟨by kernel_rfl,by kernel_rfl,by kernel_rfl,by kernel_rfl⟩
theorem Dz:SlT Tryz.prog 22 5 false 1 [Y (0:Int)] 1:=⟨Tryz.underlying22,ty5,zs5,rfl,rfl,by kernel_rfl⟩
theorem mE:SlT Tryz.prog 23 91 false 1 [.nil] 24:=⟨Tryz.underlying23,xG,Lr,rfl,rfl,by kernel_rfl⟩
theorem bh:SlT Tryz.prog 24 3 false 1 [I (0:Int)] 8:=⟨Tryz.underlying24,LR,zs3,rfl,rfl,by kernel_rfl⟩
theorem xO:SlT Tryz.prog 27 24 false 1 [.nil] 24:=⟨Tryz.underlying27,o5,Lm,rfl,rfl,by kernel_rfl⟩
theorem GU:SlT Tryz.prog 36 133 true 4 [I (0:Int),I (0:Int),St (⟨#[]⟩:ByteArray),.nil] 56:=⟨Tryz.underlying36,Ei,Ic,rfl,rfl,by kernel_rfl⟩
theorem zg:SlT Tryz.prog 58 9 false 1 [St (⟨#[]⟩:ByteArray)] 16:=⟨Tryz.underlying58,ty9,zs9,rfl,rfl,by kernel_rfl⟩
theorem vX:SlT Tryz.prog 71 74 true 5 [I (0:Int),I (0:Int),I (0:Int),Bo false,Bo false] 32:=⟨Tryz.underlying71,zN,Eh,rfl,rfl,by kernel_rfl⟩
theorem sj:SlT Tryz.prog 91 97 true 4 [I (0:Int),I (0:Int),I (0:Int),I (0:Int)] 32:=⟨Tryz.underlying91,m8,xb,rfl,rfl,by kernel_rfl⟩
theorem zh:SlT Tryz.prog 127 129 true 3 [I (0:Int),St (⟨#[]⟩:ByteArray),.nil] 48:=⟨Tryz.underlying127,fw,uX,rfl,rfl,by kernel_rfl⟩
theorem Ig:SlT Tryz.prog 183 4 false 1 [Bo false] 1:=⟨Tryz.underlying183,ty4,zs4,rfl,rfl,by kernel_rfl⟩
def qV (ops:Array Oper) (e:Env) (o:Oper) (w:Bool):Prop:=match o.guard with
 | none=>w=true
 | some (j,b)=>(∃ q,iM ops.toList e j = .v (.bool q)/\w=(q==b))\/(iM ops.toList e j = .tup []/\w=false)
theorem qV.wants {ops:Array Oper} {e:Env} {o:Oper} {w:Bool} (h:qV ops e o w):wH ops e o w:=by
 unfold qV at h
 cases hg:o.guard with
 | none=>
  rw [hg] at h;subst h;exact .free hg
 | some x=>
  obtain ⟨j,b⟩:=x;rw [hg] at h;rcases h with ⟨q,h1,h2⟩ | ⟨h1,h2⟩
  ·subst h2
   by_cases e1:q=b
   ·subst e1;rw [beq_self_eq_true];exact .yes hg h1 rfl
   ·have e2:(q==b)=false:=by simpa using e1
    rw [e2];exact .no hg h1 (by cases q <;> cases b <;> simp_all)
  ·subst h2;exact .un hg h1
theorem qV.congr {ops:Array Oper} {e e':Env} {o:Oper} {w:Bool} (h:qV ops e o w) (he:∀ t∈o.looksAt ops,e t=e' t):qV ops e' o w:=by
 unfold qV at h ⊢
 cases hg:o.guard with
 | none=>rw [hg] at h;exact h
 | some x=>
  obtain ⟨j,b⟩:=x;rw [hg] at h;have hy:iM ops.toList e' j=iM ops.toList e j:=by
   unfold iM
   cases hd:(ops.toList[j]?).bind (·.dst) with
   | none=>rfl
   | some d=>
    refine (he d ?_).symm;unfold Oper.looksAt;rw [hg];refine List.mem_append_right _ ?_;have : (ops[j]?).bind (·.dst)=some d:=by simpa using hd
    show d∈((ops[j]?).bind (·.dst)).toList;rw [this];simp
  simp only [hy];exact h
theorem Gy {ops:Array Oper} {e e':Env} {o:Oper} (he:∀ t∈o.looksAt ops,e t=e' t):∀ x∈o.op.operands,rho e x=rho e' x:=by
 intro x hx
 cases x with
 | tmp t=>exact he t (List.mem_append_left _ (List.mem_filterMap.2 ⟨.tmp t,by simpa using hx,rfl⟩))
 | _=>rfl
theorem BU {ops:Array Oper} {e:Env} {oi oj:Oper} {r:AV} (h:∀ d,oi.dst=some d->d∉oj.looksAt ops):∀ t∈oj.looksAt ops,uB e oi.dst r t=e t:=by
 intro t ht
 cases hd:oi.dst with
 | none=>rfl
 | some d=>
  rw [vB];show (if t=d then r else e t)=e t;have hne:t≠d:=by
   rintro rfl;exact h t hd ht
  rw [if_neg hne]
def Ko (P:Program) (ops:Array Oper) (o:Oper) (e:Env) (H:AH) (r:AV) (H':AH):Prop:=(qV ops e o true/\Lt P o (rho e) H r H')\/(qV ops e o false/\r = .tup []/\H'=H)
theorem Ko.congr {P:Program} {ops:Array Oper} {o:Oper} {e e':Env} {H H':AH} {r:AV} (h:Ko P ops o e H r H') (he:∀ t∈o.looksAt ops,e t=e' t):Ko P ops o e' H r H':=by
 rcases h with ⟨h1,h2⟩ | ⟨h1,h2⟩
 ·exact .inl ⟨h1.congr he,h2.congr (Gy he)⟩
 ·exact .inr ⟨h1.congr he,h2⟩
def sK (P:Program) (ops:Array Oper) (o:Oper) (e:Env) (H:AH) (r:AV) (H':AH) (F:List Nat):Prop:=
 H'.length=H.length/\(∀ b,b∉F->H'[b]? = H[b]?)/\∀ G,agree F G H->∃ G',G'.length=G.length/\(∀ b∈F,G'[b]? = H'[b]?)/\(∀ b,b∉F->G'[b]? = G[b]?)/\Ko P ops o e G r G'
section
variable {P:Program} {ops:Array Oper} {o:Oper} {e:Env} {H H':AH} {r:AV} {F:List Nat}
theorem sK.op (h:sK P ops o e H r H' F):Ko P ops o e H r H':=by
 obtain ⟨h1,h2,h3⟩:=h;obtain ⟨G',g1,g2,g3,g4⟩:=h3 H ⟨rfl,fun _ _=>rfl⟩;have : G'=H':=by
  apply List.ext_getElem?;intro b
  by_cases hb:b∈F
  ·exact g2 b hb
  ·rw [g3 b hb,h2 b hb]
 exact this ▸ g4
theorem sK.congr {e':Env} (h:sK P ops o e H r H' F) (he:∀ t∈o.looksAt ops,e t=e' t):sK P ops o e' H r H' F:=by
 obtain ⟨h1,h2,h3⟩:=h;refine ⟨h1,h2,fun G hG=>?_⟩;obtain ⟨G',g1,g2,g3,g4⟩:=h3 G hG;exact ⟨G',g1,g2,g3,g4.congr he⟩
theorem sK.at_ {G:AH} (h:sK P ops o e H r H' F) (hG:agree F G H):∃ G',G'.length=G.length/\(∀ b∈F,G'[b]? = H'[b]?)/\(∀ b,b∉F->G'[b]? = G[b]?)/\sK P ops o e G r G' F:=by
 obtain ⟨h1,h2,h3⟩:=h;obtain ⟨G',g1,g2,g3,g4⟩:=h3 G hG;refine ⟨G',g1,g2,g3,g1,g3,fun K hK=>?_⟩;obtain ⟨K',k1,k2,k3,k4⟩:=h3 K ⟨hK.1.trans hG.1,fun b hb=>(hK.2 b hb).trans (hG.2 b hb)⟩;exact ⟨K',k1,fun b hb=>(k2 b hb).trans (g2 b hb).symm,k3,k4⟩
theorem sK.ofF (hw:qV ops e o true) (h:p8 P o (rho e) H r H' F):sK P ops o e H r H' F:=by
 obtain ⟨h1,h2,h3⟩:=h;refine ⟨h1,h2,fun G hG=>?_⟩;obtain ⟨G',g1,g2,g3,g4⟩:=h3 G hG;exact ⟨G',g1,g2,g3,.inl ⟨hw,g4⟩⟩
theorem sK.skip (hw:qV ops e o false) (F:List Nat):sK P ops o e H (.tup []) H F:=⟨rfl,fun _ _=>rfl,fun G hG=>⟨G,rfl,hG.2,fun _ _=>rfl,.inr ⟨hw,rfl,rfl⟩⟩⟩
def JG (P:Program) (ops:Array Oper) (fp:Nat->Fp) (Q:Env->AH->Prop):Nat->Array Bool->Env->AH->Prop
 | 0,listed,e,H=>Region.ready .any ops listed=[]/\Q e H
 | fuel+1,listed,e,H=>(Region.ready .any ops listed=[]->Q e H) /\
  ∀ i∈Region.ready .any ops listed,∃ o r H',ops[i]? = some o/\sK P ops o e H r H' (fp i).1/\((fp i).2=false->H'=H)/\JG P ops fp Q fuel (listed.setIfInBounds i true) (uB e o.dst r) H'
theorem Ek {ops:Array Oper} {fp:Nat->Fp} {Q:Env->AH->Prop} {i:Nat} {oi:Oper} {r:AV} (hi:ops[i]? = some oi) :
  ∀ (fuel:Nat) (listed:Array Bool) (e:Env) (H Hi:AH),
   (∀ (j:Nat) (oj:Oper),ops[j]? = some oj->j≠i->listed.getD j true=false->(∀ ed∈oj.after,Region.binds .any ed=true->ed.on≠i)->oi.apart ops oj=true/\nN (fp i) (fp j)=true) ->
   i∈Region.ready .any ops listed->sK P ops oi e H r Hi (fp i).1->((fp i).2=false->Hi=H)->JG P ops fp Q fuel (listed.setIfInBounds i true) (uB e oi.dst r) Hi->JG P ops fp Q (fuel+1) listed e H:=by
 intro fuel
 induction fuel with
 | zero=>
  intro listed e H Hi _ hr hy hro hA;refine ⟨fun h=>(by rw [h] at hr;cases hr),fun j hj=>?_⟩
  by_cases hji:j=i
  ·subst hji;exact ⟨oi,r,Hi,hi,hy,hro,hA⟩
  ·have := ready_mono hj hji;rw [hA.1] at this
   cases this
 | succ fuel ih=>
  intro listed e H Hi hfree hr hy hro hA;refine ⟨fun h=>(by rw [h] at hr;cases hr),fun j hj=>?_⟩
  by_cases hji:j=i
  ·subst hji;exact ⟨oi,r,Hi,hi,hy,hro,hA⟩
  ·obtain ⟨oj,q,Hj,hoj,hsj,hroj,hAj⟩:=hA.2 j (ready_mono hj hji);obtain ⟨hjun,oj',hoj',hall⟩:=mem_ready.1 hj;rw [hoj] at hoj';injection hoj' with hoj';subst hoj';have hnot:∀ ed∈oj.after,Region.binds .any ed=true->ed.on≠i:=fun ed he hb heq=>by
    have h1:=hall ed he hb;have h0:=(mem_ready.1 hr).1;rw [heq] at h1;rcases Nat.lt_or_ge i listed.size with h' | h'
    ·simp [h'] at h0 h1;rw [h0] at h1;cases h1
    ·simp [Array.getElem?_eq_none h'] at h1
   obtain ⟨hap,hcm⟩:=hfree j oj hoj hji hjun hnot;obtain ⟨h1,h2,h3⟩:=Oper.apart_spec hap;have ej:=BU (e:=e) (r:=r) h1;have ei:=BU (e:=e) (oi:=oj) (r:=q) h3;have hsj':=hsj.congr ej;have hfree':∀ (k:Nat) (ok:Oper),ops[k]? = some ok->k≠i->(listed.setIfInBounds j true).getD k true=false->(∀ ed∈ok.after,Region.binds .any ed=true->ed.on≠i)->oi.apart ops ok=true/\nN (fp i) (fp k)=true:=fun k ok hk hki hun hno=>by
    refine hfree k ok hk hki ?_ hno
    by_cases hjk:j=k
    ·subst hjk;exact hjun
    ·rw [getD_set_ne true hjk] at hun;exact hun
   have fin:∀ Hj',sK P ops oj e H q Hj' (fp j).1->((fp j).2=false->Hj'=H)->sK P ops oi e Hj' r Hj (fp i).1->((fp i).2=false->Hj=Hj')->∃ o r' H',ops[j]? = some o/\sK P ops o e H r' H' (fp j).1/\((fp j).2=false->H'=H)/\JG P ops fp Q (fuel+1) (listed.setIfInBounds j true) (uB e o.dst r') H':=fun Hj' s1 s1' s2 s2'=>by
    refine ⟨oj,q,Hj',hoj,s1,s1',ih (listed.setIfInBounds j true) (uB e oj.dst q) Hj' Hj hfree' (ready_mono hr (Ne.symm hji)) (s2.congr fun x hx=>(ei x hx).symm) s2' ?_⟩;rw [Array.setIfInBounds_comm _ _ hji,yL (fun d hd=>fun hd'=>h2 d (by simpa using hd') (by simpa using hd))];exact hAj
   simp only [nN,Bool.or_eq_true,bae,Bool.not_eq_true',List.all_eq_true,List.contains_eq_mem,decide_eq_false_iff_not] at hcm;rcases hcm with hdis | ⟨w1,w2⟩
   ·have hag:agree (fp j).1 H Hi:=⟨hy.1.symm,fun b hb=>(hy.2.1 b (fun hbi=>hdis b hbi hb)).symm⟩;obtain ⟨Hj',a1,a2,a3,a4⟩:=hsj'.at_ hag;have hag2:agree (fp i).1 Hj' H:=⟨a1,fun b hb=>a3 b (hdis b hb)⟩;obtain ⟨K,b1,b2,b3,b4⟩:=hy.at_ hag2;have hKH:K=Hj:=by
     apply List.ext_getElem?;intro b
     by_cases hbi:b∈(fp i).1
     ·rw [b2 b hbi,hsj'.2.1 b (hdis b hbi)]
     ·rw [b3 b hbi]
      by_cases hbj:b∈(fp j).1
      ·exact a2 b hbj
      ·rw [a3 b hbj,hsj'.2.1 b hbj,hy.2.1 b hbi]
    subst hKH;refine fin Hj' a4 (fun hw=>?_) b4 (fun hw=>?_)
    ·apply List.ext_getElem?;intro b
     by_cases hbj:b∈(fp j).1
     ·rw [a2 b hbj,hroj hw,hy.2.1 b (fun hbi=>hdis b hbi hbj)]
     ·exact a3 b hbj
    ·apply List.ext_getElem?;intro b
     by_cases hbi:b∈(fp i).1
     ·rw [b2 b hbi,hro hw,a3 b (hdis b hbi)]
     ·exact b3 b hbi
   ·obtain rfl:=hro w1;obtain rfl:=hroj w2;exact fin _ hsj' (fun _=>rfl) hy (fun _=>rfl)
def KD (ops:Array Oper) (fp:Nat->Fp):Bool:=
 Region.lexB .any ops &&
 (List.range ops.size).all fun i=>(List.range ops.size).all fun j=>decide (j<=i)||nN (fp i) (fp j)||match ops[j]? with
  | some oj=>oj.after.any fun ed=>Region.binds .any ed&&ed.on==i
  | none=>true
def TG (P:Program) (ops:Array Oper) (fp:Nat->Fp):Nat->List Oper->(Env->AH->Prop)->Env->AH->Prop
 | _,[],K,e,H=>K e H
 | k,o::rest,K,e,H=>∃ r H',sK P ops o e H r H' (fp k).1/\((fp k).2=false->H'=H)/\TG P ops fp (k+1) rest K (uB e o.dst r) H'
theorem Gz {ops:Array Oper} {fp:Nat->Fp} {Q:Env->AH->Prop} (hc:KD ops fp=true):∀ (l:List Oper) (k:Nat) (listed:Array Bool) (e:Env) (H:AH),(∀ j,l[j]? = ops[k+j]?)->listed.size=ops.size->(∀ j,j<k->listed.getD j true=true) ->
  Region.lexFrom .any ops l.length k listed=true->TG P ops fp k l Q e H->JG P ops fp Q l.length listed e H
 | [],k,listed,e,H,_,_,_,hB,h=>⟨by simpa [Region.lexFrom] using hB,h⟩
 | o::l,k,listed,e,H,hl,hsz,hbef,hB,h=>by
  have h0:ops[k]? = some o:=by simpa using (hl 0).symm
  have hk:k<ops.size:=(Array.getElem?_eq_some_iff.1 h0).1;simp only [llc,Region.lexFrom,bae] at hB;obtain ⟨⟨hr,hf⟩,hB'⟩:=hB;obtain ⟨r,H',hs,hro,hK⟩:=h;refine Ek h0 l.length listed e H H' (fun j oj hj hne hun hno=>⟨Region.free_spec h0 hf j oj hj hne hun hno,?_⟩) (by simpa using hr) hs hro
   (Gz hc l (k+1) _ _ _ (fun j=>by have := hl (j+1);simpa [Nat.add_assoc,Nat.add_comm 1 j] using this) (by simpa using hsz) (fun j hj=>?_) hB' hK)
  ·have hjs:j<ops.size:=(Array.getElem?_eq_some_iff.1 hj).1;have hkj : ¬ j<=k:=fun hle=>by
    have := hbef j (by omega);rw [this] at hun
    cases hun
   simp only [KD,bae,List.all_eq_true,List.mem_range] at hc;have := hc.2 k hk j hjs;simp only [hj,Bool.or_eq_true,dte,hkj,false_or] at this;rcases this with h1 | h1
   ·exact h1
   ·rw [Array.any_eq_true'] at h1;obtain ⟨ed,h2,h3⟩:=h1;simp only [bae,beq_iff_eq] at h3;exact absurd h3.2 (hno ed h2 h3.1)
  ·by_cases e:j=k
   ·subst e;simp [hsz,hk]
   ·rw [getD_set_ne true (Ne.symm e)];exact hbef j (by omega)
theorem xc {nt:Nat} {ops:Array Oper} {fp:Nat->Fp} {Q:Exit->Env->AH->Prop} (hd:EL nt ops.toList=true):∀ (fuel:Nat) (listed:Array Bool) (e:Env) (H:AH),JG P ops fp (Q .normal) fuel listed e H ->
  ∀ (c c0:Cx) (a:Act),c.H=H->Ext c0 c->SRel c nt e a->wpAny P .any ops (Ks nt c0 Q) fuel listed a c.w
 | 0,listed,e,H,h,c,c0,a,hH,hx,hs=>⟨h.1,trivial,c,e,rfl,hx,hs,hH ▸ h.2⟩
 | fuel+1,listed,e,H,h,c,c0,a,hH,hx,hs=>by
  refine ⟨fun hr=>⟨trivial,c,e,rfl,hx,hs,hH ▸ h.1 hr⟩,fun i hi=>?_⟩;obtain ⟨o,r,H',ho,hst,_,hA⟩:=h.2 i hi;have hm:o∈ops.toList:=by rw [Array.mem_toList_iff];exact Array.mem_of_getElem? ho
  unfold wpOp;simp only [ho];rcases hst.op with ⟨hw,hop⟩ | ⟨hw,rfl,rfl⟩
  ·rw [if_pos (hw.wants nt c a hs)];refine .inl (hop c a _ _ hH hs.heap (fun x _=>hs.rho x) fun v c' hH' hr' hx' hv=>?_);exact xc hd fuel _ _ H' hA c' c0 _ hH' (hx.trans hx') (hs.put o.dst (pz hd hm) hx' hr' hv)
  ·rw [hw.wants nt c a hs];exact xc hd fuel _ _ _ hA c c0 _ hH hx (hs.put o.dst (pz hd hm) (Ext.refl c) hs.heap (.tup (vs:=#[]) rfl (fun i q u hq=>by simp at hq)))
end
section
variable {P:Program} {nt b0:Nat} {Q:Exit->Env->AH->Prop} {e:Env} {H H':AH} {r:AV}
theorem T.drawG {i:Nat} {ops:Array Oper} (fp:Nat->Fp) (hm:P.follows .mixedOrders=true) (hc:KD ops fp=true) (h:TG P ops fp 0 ops.toList (Q .normal) e H):T P nt b0 (.region i ops true) Q e H:=by
 intro hok c c0 a hH hb hx hs;simp only [codeOk] at hok;have hc':=hc;simp only [KD,bae,Region.lexB] at hc';refine wp_region_any hm ?_;have hlex:=Gz hc ops.toList 0 (Array.replicate ops.size false) e H (fun j=>by simp) (by simp) (fun j hj=>absurd hj (by omega)) (by simpa using hc'.1.2) h;have := xc hok ops.toList.length _ e H hlex c.drew c0 a hH (hx.trans c.drew_ext) ⟨hs.size,hs.defers,fun t=>(hs.rel t).ext hs.heap c.drew_ext,Cx.drew_rel hs.heap⟩;rw [Array.length_toList] at this;exact this
variable {ops:Array Oper} {d:Tmp} {op:Op} {ty:TypeId} {pos:String} {af:Array Edge} {en:List (Nat×AV)} {fp:Nat->Fp} {i:Nat} {K:Env->AH->Prop} {l:List Oper}
theorem TG.nil {k:Nat} (h:K e H):TG P ops fp k [] K e H:=h
theorem qV.y {o:Oper} {j:Nat} {b q:Bool} (hg:o.guard=some (j,b)) (hy:iM ops.toList e j = .v (.bool q)) (hq:q=b):qV ops e o true:=by
 unfold qV;rw [hg];exact .inl ⟨q,hy,by rw [hq];simp⟩
theorem qV.n {o:Oper} {j:Nat} {b q:Bool} (hg:o.guard=some (j,b)) (hy:iM ops.toList e j = .v (.bool q)) (hq:q = !b):qV ops e o false:=by
 unfold qV;rw [hg];exact .inl ⟨q,hy,by rw [hq];cases b <;> rfl⟩
theorem qV.u {o:Oper} {j:Nat} {b:Bool} (hg:o.guard=some (j,b)) (hy:iM ops.toList e j = .tup []):qV ops e o false:=by
 unfold qV;rw [hg];exact .inr ⟨hy,rfl⟩
theorem tN (hc:fp i=([],false)) (hv:Lx P (rho (au en)) op r) (h:TG P ops fp (i+1) l K (au ((d,r)::en)) H):TG P ops fp i (⟨some d,op,ty,pos,af,none⟩::l) K (au en) H:=
 ⟨r,H,by rw [hc];exact .ofF rfl (Ct hv),fun _=>rfl,h⟩
theorem tR (F:List Nat) (hc:fp i=(F,false)) (hv:∀ G,agree F G H->EvA P (rho (au en)) op G r G) (h:TG P ops fp (i+1) l K (au ((d,r)::en)) H):TG P ops fp i (⟨some d,op,ty,pos,af,none⟩::l) K (au en) H:=
 ⟨r,H,by rw [hc];exact .ofF rfl (Cu hv),fun _=>rfl,h⟩
theorem LS {j:Nat} {b q:Bool} (hy:iM ops.toList (au en) j = .v (.bool q)) (hq:q=b) (hc:fp i=([],false)) (hv:Lx P (rho (au en)) op r) (h:TG P ops fp (i+1) l K (au ((d,r)::en)) H):TG P ops fp i (⟨some d,op,ty,pos,af,some (j,b)⟩::l) K (au en) H:=
 ⟨r,H,by rw [hc];exact .ofF (.y rfl hy hq) (Ct hv),fun _=>rfl,h⟩
theorem tgR {j:Nat} {b q:Bool} (hy:iM ops.toList (au en) j = .v (.bool q)) (hq:q=b) (F:List Nat) (hc:fp i=(F,false)) (hv:∀ G,agree F G H->EvA P (rho (au en)) op G r G) (h:TG P ops fp (i+1) l K (au ((d,r)::en)) H):TG P ops fp i (⟨some d,op,ty,pos,af,some (j,b)⟩::l) K (au en) H:=
 ⟨r,H,by rw [hc];exact .ofF (.y rfl hy hq) (Cu hv),fun _=>rfl,h⟩
theorem LU {j:Nat} {b q:Bool} (hy:iM ops.toList (au en) j = .v (.bool q)) (hq:q = !b) (h:TG P ops fp (i+1) l K (au ((d,.tup [])::en)) H):TG P ops fp i (⟨some d,op,ty,pos,af,some (j,b)⟩::l) K (au en) H:=
 ⟨.tup [],H,.skip (.n rfl hy hq) _,fun _=>rfl,h⟩
theorem tgU {j:Nat} {b:Bool} (hy:iM ops.toList (au en) j = .tup []) (h:TG P ops fp (i+1) l K (au ((d,.tup [])::en)) H):TG P ops fp i (⟨some d,op,ty,pos,af,some (j,b)⟩::l) K (au en) H:=
 ⟨.tup [],H,.skip (.u rfl hy) _,fun _=>rfl,h⟩
end
theorem DC {p:List (List LD)} (h:Ee p=true):p.length<=1048576/\∀ i,(p.getD i []).length<=1048576:=by
 simp only [Ee,bae,dte,List.all_eq_true] at h;refine ⟨h.1,fun i=>?_⟩
 by_cases hi:i<p.length
 ·simpa [hi] using h.2 _ (List.getElem_mem hi)
 ·simp [hi]
theorem Ah {n m:Nat} (hn:n<=2097152) (hm:Nat.ble m 1000=true):ez n m=true:=by
 have h1:=nlb hm;have h2:n*m<=2097152*1000:=Nat.mul_le_mul hn h1;exact decide_eq_true ⟨by omega,by omega⟩
theorem GA (p:List (List LD)) {i:Nat} (h:i<p.length):p.take (i+1)=p.take i++[p.getD i []]:=by
 have e:p.getD i []=p[i]:=by rw [gdq,geq h];rfl
 rw [e];exact (List.take_append_getElem h).symm
theorem GD (p:List (List LD)) (hp:Ee p=true):dx Tryz.prog 120 [eL (cL LD.c) p] [] (Cv 4 97 91 LD.c (fun x=>x) p 0 []):=by
 obtain ⟨hp1,hp2⟩:=DC hp;refine dx.mkON Tryz.func120 rfl (by kernel_rfl) rfl (by kernel_rfl) (e0:=au [(0,eL (cL LD.c) p)]) (Lv rfl Lu) yP LD.isF ?_;refine T.seq ?_;refine T.region ?_;refine oN (Lx.asg (.nil) rfl) ?_;refine TO.nil ?_;refine T.seq ?_;refine T.region ?_;refine oA (EvA.mkR ([]:List (List AV)) mE rfl rfl rfl rfl) ?_;refine oN (Lx.asg (hS false 0 0 1 0) rfl) ?_;refine TO.nil ?_;refine T.seq ?_;refine T.seq ?_;refine T.region ?_;refine oN (Lx.asg (I 0) rfl) ?_;refine TO.nil ?_;refine T.block ?_;refine T.loop (S:=Nat) (G:=NG×AH×Nat) (E:=Nat) (x:=p.length) (fun i=>if i<p.length then some (.inl (i+1)) else some (.inr i)) (fun i g=>i<=p.length/\NK 1 (some ⟨g.2.2,1,91,bY g.1 4 (p.take i)⟩::g.2.1) g.1 4 97 LD.c (p.take i))
  (fun i g=>[(4,I i),(3,hS false 0 g.2.2 1 (p.take i).length),(0,eL (cL LD.c) p)]) (fun i g=>some ⟨g.2.2,1,91,bY g.1 4 (p.take i)⟩::g.2.1) (s0:=0) (fun _=>(false,0,0),[],0)
  (yO (fun i=>i) p.length (fun i hi=>by simp [hi]) (by simp)) ⟨Nat.zero_le _,by exact NK.nil⟩ (xD rfl (Lv rfl (Lv rfl (Lv rfl Lu)))) (fun i g z hz hinv=>?_)
 obtain ⟨gh,K,ver⟩:=g;obtain ⟨hle,hN⟩:=hinv;simp only at hN;generalize hl:p.take i=l at hN ⊢;refine T.seq ?_;refine T.seq ?_;refine T.region ?_;refine oN (Lx.mv (I i) rfl) ?_;refine oN (Lx.mv (eL (cL LD.c) p) rfl) ?_;refine oN (Lx.lenL mE rfl) ?_;refine oN (Lx.ilt rfl rfl) ?_;refine TO.nil ?_;have hll:l.length=i:=by rw [<- hl,List.length_take];omega
 refine T.cond rfl (fun q=>?_) (fun q=>?_)
 ·have hi:i<p.length:=by have := of_decide_eq_true q;omega
  rw [if_pos hi] at hz;obtain rfl:=osl hz;have hrow:=hp2 i;have htk:=GA p hi;rw [hl] at htk;generalize hr:p.getD i []=row at hrow htk;refine T.skip ?_;refine T.seq ?_;refine T.block ?_;refine T.region ?_;refine oN (Lx.mv (hS false 0 ver 1 l.length) rfl) ?_;refine oA (EvA.mkO (c:=LD.c) (b:=K.length+1) ([]:List LD) [] sj rfl rfl rfl (fun _=>rfl) rfl rfl) ?_;refine oN (Lx.mv (eL (cL LD.c) p) rfl) ?_;refine oN (Lx.mv (I i) rfl) ?_;refine oN (Lx.ixL mE rfl rfl ⟨by omega,by omega⟩ (fun _=>rfl)) ?_;refine oN (Lx.loadfp (eL LD.c row) xG rfl (by subst hr;rfl)) ?_;refine oA (EvA.appF (l:=([]:List LD)) row sj (by kernel_rfl) rfl rfl (AB (H:=_::K)) (bL.fz (l:=row) rfl (fun _=>rfl)) (Ah (by simp;omega) rfl)) ?_;refine TO.clean (H0:=some ⟨ver,1,91,bY gh 4 l⟩::(K++[bE false 1 4 97 (row.map LD.c)])) (e0:=au [(18,hS false (K.length+1) 1 4 row.length),(12,hS false 0 ver 1 l.length),(4,I i),(0,eL (cL LD.c) p)]) (Hb (H:=_::K)).symm (Lv rfl (Lv rfl (Lv rfl (Lv rfl Lu)))) ?_;refine oA (EvA.mkR (b:=(K++[bE false 1 4 97 (row.map LD.c)]).length+1) [[hS false (K.length+1) 1 4 row.length]] mE rfl rfl rfl rfl) ?_;refine oA (EvA.appR (g:=false) (rows:=bY gh 4 l) (rows':=bY gh 4 l++[[hS false (K.length+1) 1 4 row.length]]) (n':=l.length+1) mE (by kernel_rfl) rfl rfl (dz gh 4 l).symm nofun (bL.raw (rows:=[[hS false (K.length+1) 1 4 row.length]]) rfl (AB (H:=_::(K++[_]))) rfl) (Ah (by simp;omega) rfl) rfl rfl) ?_;refine oN (Lx.asg (hS false 0 (ver+1) 1 (l.length+1)) rfl) ?_;refine TO.nil ?_;refine T.region ?_;refine oN (Lx.mv (I i) rfl) ?_;refine oN (Lx.add rfl rfl (IntWalk.i64_in _ ⟨by omega,by omega⟩)) ?_;refine oN (Lx.asg (I (i+1:Nat)) rfl) ?_;refine TO.nil ?_;refine ⟨i+1,(gh.put l.length (false,K.length+1,1),K++[bE false 1 4 97 (row.map LD.c)]++[some ⟨0,1,91,[[hS false (K.length+1) 1 4 row.length]]⟩],ver+1),rfl,⟨hi,?_⟩,xD ?_ (Lv rfl (Lv ?_ (Lv rfl Lu)))⟩
  ·rw [htk];refine hN.snoc (id:=K.length+1) (by simp) (by omega) (fun b h1 h2=>?_) ?_ nofun
   ·match b,h1 with
    | b+1,_=>
     simp only [llc,Nat.add_lt_add_iff_right] at h2;simp only [List.getElem?_cons_succ,List.append_assoc];exact gal h2
   ·simp only [List.getElem?_cons_succ];exact BB
  ·show some (ABlk.mk _ _ _ (bY _ 4 (p.take (i+1))))::_=_;rw [htk,<- wM]
   rfl
  ·show hS false 0 (ver+1) 1 (l.length+1)=hS false 0 (ver+1) 1 (p.take (i+1)).length;rw [htk,lla]
   rfl
 ·have hi : ¬ i<p.length:=by have := of_decide_eq_false q;omega
  rw [if_neg hi] at hz;obtain rfl:=osl hz;refine T.exit ?_;refine ⟨_,rfl,fun he=>?_⟩;subst he;rw [List.take_length] at hl;subst hl;refine T.seq ?_;refine T.region ?_;refine oN (Lx.mv (hS false 0 ver 1 p.length) rfl) ?_;refine oN (Lx.asg (hS false 0 ver 1 p.length) rfl) ?_;refine TO.nil ?_;refine T.ret ?_
  repeat first | refine cN ?_ | refine cO ?_
  exact Fin.ret (vs:=[hS false 0 ver 1 p.length]) (.cons (.tmp rfl) .nil) ⟨0,ver,gh,rfl,rfl,⟨fun i hi=>⟨Nat.zero_le _,(hN.at_ i hi).2⟩,hN.zB,hN.sep⟩,fun i hi h0=>absurd (hN.at_ i hi).1 (by omega)⟩
theorem NK.row {r o:Option ABlk} {K:AH} {gh:NG} {w:Nat} {ty:TypeId} {f:LD->List AV} {l:List (List LD)} (h:NK 2 (r::o::K) gh w ty f l) {i:Nat} (hi:i<l.length):∃ g k v,gh i=(g,k+2,v)/\k<K.length/\K[k]? = some (bE g v w ty ((l.getD i []).map f))/\(g=true->l.getD i []=[]):=by
 obtain ⟨h1,h2⟩:=h.at_ i hi;have h3:=h.zB i hi;generalize he:gh i=x at h1 h2 h3;obtain ⟨g,id,v⟩:=x;simp only at h1 h2 h3;obtain ⟨k,rfl⟩:∃ k,id=k+2:=⟨id-2,by omega⟩;simp only [List.getElem?_cons_succ] at h2;exact ⟨g,k,v,rfl,(ges h2).1,h2,h3⟩
theorem NK.turn {r o r' o':Option ABlk} {K:AH} {gh:NG} {w:Nat} {ty:TypeId} {f:LD->List AV} {l:List (List LD)} (h:NK 2 (r::o::K) gh w ty f l) {i:Nat} (hi:i<l.length) {g:Bool} {k v:Nat} (he:gh i=(g,k+2,v)) {g':Bool} {v':Nat} {x:List LD} (hg:g'=true->x=[]) :
  NK 2 (r'::o'::K.set k (bE g' v' w ty (x.map f))) (gh.put i (g',k+2,v')) w ty f (l.set i x):=by
 have h1:=h.set hi (g:=g') (ver:=v') (r:=x) hg;rw [he] at h1;refine h1.low fun b hb _=>?_
 match b,hb with
 | b+2,_=>simp [List.getElem?_cons_succ]
abbrev jA:=@TO.nil
abbrev jC:=@T.region
abbrev jE:=@T.block
abbrev jG:=@T.skip
abbrev jH:=@T.seq
abbrev jI:=@T.sr
abbrev jK:=@T.ret
abbrev jM:=@T.exit
abbrev jN:=@T.ifH
abbrev jO:=@T.loop
abbrev jP:=@T.drawF
abbrev jQ:=@Fin.ret
abbrev jR:=@TF.nil
theorem qC {m:Nat} {H:AH} {a:AV} (h:isF 9 a=true):Fz m H a a:=.of_isF 9 _ h
theorem qD {α:Sort _} {β:α->Sort _} {f:(x:α)->β x}:∀ x,f x=f x:=fun _=>rfl
theorem xP (code:LI) {q:ah} (h:ko code=some q):dw Tryz.prog 58 [eL cY code] [] (.hp 0 0 2 0 0) [some ⟨0,2,157,[(ah.c q)]⟩]:=by
 refine aM Tryz.func58 Z (by kernel_rfl) Z (jI (oN as' (jA ?_)));refine T.jU h (fun s1=>[(0,eL cY s1)]) (fun s1=>[]) (fun s1 h=>?_) (fun s1 h=>?_)
 ·refine jI (oN mv (oN (Lx.build [eL cY s1,I U] Tryz.underlying157 KX xN Z Z) (oA (EvA.bx (cs:=[eL cY s1,I U]) Z Z Z) (oN as' (jA (jK ?_))))));obtain rfl:=LC h
  repeat (first|refine cN ?_|refine cO ?_)
  exact ⟨au [(2,.hp 0 0 2 0 0)],[some ⟨0,2,157,[(ah.c (⟨s1,U⟩:ah))]⟩],kw Z Z,jQ (vs:=[.hp 0 0 2 0 0]) (.cons (.tmp Z) .nil) ⟨Z,Z⟩⟩
 ·refine jI (oN mv (oN (Lx.lenL Dz Z) (oN (Lx.igt Z Z) (jA ?_))));refine jN Z h (fun q2 h=>?_) (fun q2 h=>?_)
  ·refine jC (oN mv (jD h fun g3 h=>oN (Lx.slL Dz Z .no (.yes Z) g3 qD) (oN as' (jA ?_))))
   cases h
   exact ⟨(),trivial,kw Z Z⟩
  ·refine jG ?_
   cases h
   exact ⟨(),trivial,kw Z Z⟩
set_option maxHeartbeats 4000000 in
theorem aL (r_:ah) (n:Int) (aI:Nat) {q:ah×Int} (h:aG r_ n=some q):dw Tryz.prog 121 [.hp 0 aI 2 0 0,I n] [some ⟨aI,2,157,[(ah.c r_)]⟩] (I q.2) [some ⟨aI,2,157,[(ah.c q.1)]⟩]:=by
 refine aM Tryz.func121 Z (by kernel_rfl) Z (jI (oN as' (jA (jI (oN mv (oN mv (oN (nl Z) (oN (fa xN Z) (oA (lh (I r_.p) LR Z Z Z) (jW h fun g1 h=>oN (Lx.add Z Z g1) (oN (nl Z) (oN (fa xN Z) (oV (sr [eL cY r_.b,I (r_.p+V)] LR Z Z Z Z) (jA ?_))))))))))))));refine jH (jI (oN mv (oN (Lx.ilt Z Z) (oN mv ?_))));refine TO.jB h 7 (fun s2=>[(24,Bo s2),(0,.hp 0 aI 2 0 0),(1,I n)]) (fun s2=>[some ⟨aI,2,157,[[eL cY r_.b,I (r_.p+V)]]⟩]) (fun s2 q3 h js2=>?_) (fun s2 q3 h js2=>?_) (fun s2 h=>?_)
 ·refine gS Z q3 (gS Z q3 (gS Z q3 (gS Z q3 (gS Z q3 (gS Z q3 (oN (Lx.pickT Z q3 (Bo true) Z) ?_))))))
  cases h
  exact js2 _ _ (kw Z Z)
 ·refine gN Z q3 mv (gN Z q3 (nl Z) (gN Z q3 (fa xN Z) (gA Z q3 (lh (eL cY r_.b) IE Z Z Z) (gN Z q3 (Lx.lenL Dz Z) (gN Z q3 (Lx.ieq Z Z) (oN (Lx.pickF Z q3 (Bo ((r_.b.length:Int)==U)) Z) ?_))))))
  cases h
  exact js2 _ _ (kw Z Z)
 ·refine jA ?_;refine jN Z h (fun q4 h=>?_) (fun q4 h=>?_)
  ·refine jI (oN as' (jA (jK ?_)));obtain rfl:=LC h
   repeat (first|refine cN ?_|refine cO ?_)
   exact ⟨au [(4,I U)],[some ⟨aI,2,157,[(ah.c (⟨r_.b,(r_.p+V)⟩:ah))]⟩],kw Z Z,jQ (vs:=[I U]) (.cons (.tmp Z) .nil) ⟨Z,Z⟩⟩
  ·refine jG (jI (oN mv (oN (nl Z) (oN (fa xN Z) (oA (lh (I (r_.p+V)) LR Z Z Z) (jW h fun g5 h=>oN (Lx.sub Z Z g5) (oN as' (jA (jH (jI (oN mv (oN mv (oN (nl Z) (oN (fa xN Z) ?_))))))))))))));refine oA (lh (eL cY r_.b) IE Z Z Z) (oN (Lx.lenL Dz Z) (oN (Lx.ilt Z Z) (jA ?_)));refine jN Z h (fun q6 h=>?_) (fun q6 h=>?_)
   ·refine jI (oN mv (oN (nl Z) (oN (fa xN Z) (oA (lh (eL cY r_.b) IE Z Z Z) (oN mv (jD h fun g7 h=>oN (Lx.ixL Dz Z Z g7 qD) (oN (lf (Y (J r_.b ((r_.p+V)-V))) ty5 Z) (jW h fun g8 h=>oN (Lx.iconv ty5.und Tryz.underlying3 Z g8) (oN mv (jD h fun g9 h=>oN (Lx.rem Z Z g9) (oN as' (jA ?_))))))))))));refine jK ?_;obtain rfl:=LC h
    repeat (first|refine cN ?_|refine cO ?_)
    exact ⟨au [(4,I ((J r_.b ((r_.p+V)-V)).tmod n))],[some ⟨aI,2,157,[(ah.c (⟨r_.b,(r_.p+V)⟩:ah))]⟩],kw Z Z,jQ (vs:=[I ((J r_.b ((r_.p+V)-V)).tmod n)]) (.cons (.tmp Z) .nil) ⟨Z,Z⟩⟩
   ·refine jG (jH (jP (dG [dF,dF,dF,([0],false),dF,dF,dF,dF,([0],false),dF,dF,dF,dF,dF,dF,dF,dF,dF,([0],false),dF,dF,dF,dF,dF,dF,([0],false),dF,dF,dF,dF,dF,dF,dF,dF,dF,dF,dF,dF,dF,dF,([0],false),dF,dF,dF,dF,dF]) (by kernel_rfl) (by kernel_rfl) (fN Z mv (fN Z (nl Z) (fN Z (fa xN Z) (fR [0] Z (fun G hG=>EvA.loadhp (eL cY r_.b) IE Z (hG.a0 Z) Z Z Z Z) (fN Z mv (fN Z mv (fN Z (nl Z) (fN Z (fa xN Z) (fR [0] Z (fun G hG=>EvA.loadhp (eL cY r_.b) IE Z (hG.a0 Z) Z Z Z Z) (fN Z (Lx.lenL Dz Z) (jD h fun g10 h=>fN Z (Lx.rem Z Z g10) (jD h fun g11 h=>?_))))))))))))));refine fN Z (Lx.ixL Dz Z Z g11 qD) (fN Z (lf (Y (J r_.b (((r_.p+V)-V).tmod (r_.b.length:Int)))) ty5 Z) (jW h fun g12 h=>fN Z (Lx.iconv ty5.und Tryz.underlying3 Z g12) (jW h fun g13 h=>fN Z (Lx.mul Z Z g13) (fN Z mv (fN Z (nl Z) (fN Z (fa xN Z) (fR [0] Z (fun G hG=>EvA.loadhp (eL cY r_.b) IE Z (hG.a0 Z) Z Z Z Z) (fN Z mv (jW h fun g14 h=>fN Z (Lx.mul Z Z g14) (jW h fun g15 h=>fN Z (Lx.add Z Z g15) (fN Z mv ?_)))))))))));refine fN Z (nl Z) (fN Z (fa xN Z) (fR [0] Z (fun G hG=>EvA.loadhp (eL cY r_.b) IE Z (hG.a0 Z) Z Z Z Z) (fN Z (Lx.lenL Dz Z) (fN Z (Lx.rem Z Z g10) (jD h fun g16 h=>fN Z (Lx.ixL Dz Z Z g16 qD) (fN Z (lf (Y (J r_.b (((((r_.p+V)-V)*(7:Int))+(3:Int)).tmod (r_.b.length:Int)))) ty5 Z) (jW h fun g17 h=>fN Z (Lx.iconv ty5.und Tryz.underlying3 Z g17) (jW h fun g18 h=>fN Z (Lx.mul Z Z g18) (jW h fun g19 h=>fN Z (Lx.add Z Z g19) (fN Z mv (jW h fun g20 h=>?_)))))))))));refine fN Z (Lx.mul Z Z g20) (jW h fun g21 h=>fN Z (Lx.add Z Z g21) (fN Z mv (fN Z mv (fN Z (nl Z) (fN Z (fa xN Z) (fR [0] Z (fun G hG=>EvA.loadhp (eL cY r_.b) IE Z (hG.a0 Z) Z Z Z Z) (fN Z (Lx.lenL Dz Z) (jW h fun g22 h=>fN Z (Lx.quo Z Z g10 g22) (jW h fun g23 h=>fN Z (Lx.mul Z Z g23) (jW h fun g24 h=>fN Z (Lx.add Z Z g24) (fN Z as' ?_)))))))))));refine jR (jH (T.clean (H0:=[some ⟨aI,2,157,[[eL cY r_.b,I (r_.p+V)]]⟩]) (e0:=au [(6,I (((((J r_.b (((r_.p+V)-V).tmod (r_.b.length:Int)))*(131:Int))+((J r_.b (((((r_.p+V)-V)*(7:Int))+(3:Int)).tmod (r_.b.length:Int)))*(1117:Int)))+(((r_.p+V)-V)*(29:Int)))+((((r_.p+V)-V).tdiv (r_.b.length:Int))*(53:Int)))),(1,I n)]) Z (Lv Z (Lv Z Lu)) (jC (oN mv (oN mv (jD h fun g25 h=>jW h fun g26 h=>oN (Lx.quo Z Z g25 g26) (jB h fun w27 ew27 h=>?_)))))));replace ew27:=osi ew27;refine oN (Lx.res (Lx.bxor Z Z) (r':=I w27) (fun _ _ hr=>by rw [<- ew27];exact hr)) (oN as' (jA (jI (oN mv (oN mv (jD h fun g28 h=>oN (Lx.rem Z Z g28) (oN as' (jA (jK ?_)))))))));obtain rfl:=LC h
    repeat (first|refine cN ?_|refine cO ?_)
    exact ⟨au [(4,I (w27.tmod n))],[some ⟨aI,2,157,[(ah.c (⟨r_.b,(r_.p+V)⟩:ah))]⟩],kw Z Z,jQ (vs:=[I (w27.tmod n)]) (.cons (.tmp Z) .nil) ⟨Z,Z⟩⟩
theorem dI (r_:ah) (list:LI) (aI:Nat) {q:ah×Int} (h:bK r_ list=some q):dw Tryz.prog 122 [.hp 0 aI 2 0 0,eL cI list] [some ⟨aI,2,157,[(ah.c r_)]⟩] (I q.2) [some ⟨aI,2,157,[(ah.c q.1)]⟩]:=by
 refine aM Tryz.func122 Z (by kernel_rfl) Z (jI (oN as' (jA (jI (oN mv (oN mv (oN mv (oN (Lx.lenL bh Z) (jB h fun v1 cv1 h=>oA (EvA.call Z Z Z ((aL (⟨r_.b,r_.p⟩:ah) (list.length:Int) aI cv1).one 0 Z (.cons (.hp Z) (.cons (.pF Z) .nil)) (ak Z) (ak Z) Z)) (jD h fun g2 h=>oN (Lx.ixL bh Z Z g2 qD) (oN (lf (I (J list v1.2)) LR Z) (oN as' (jA ?_)))))))))))));refine jK ?_;obtain rfl:=LC h
 repeat (first|refine cN ?_|refine cO ?_)
 exact ⟨au [(4,I (J list v1.2))],[some ⟨aI,2,157,[(ah.c (⟨v1.1.b,v1.1.p⟩:ah))]⟩],kw Z Z,jQ (vs:=[I (J list v1.2)]) (.cons (.tmp Z) .nil) ⟨Z,Z⟩⟩
theorem xd (r_:ah) (p:List (List LD)) (aI:Nat) {q:ah×List (List LD)} (h:jb r_ p=some q):dw Tryz.prog 59 [.hp 0 aI 2 0 0,eL (cL LD.c) p] [some ⟨aI,2,157,[[eL cY r_.b,I r_.p]]⟩] (eL (cL LD.c) q.2) [some ⟨aI,2,157,[[eL cY q.1.b,I q.1.p]]⟩]:=by
 refine dw.mkT Tryz.func59 Z (by kernel_rfl) Z (by kernel_rfl) (e0:=au [(0,.hp 0 aI 2 0 0),(1,eL (cL LD.c) p)]) (Lv Z (Lv Z Lu)) ?_;unfold jb at h;obtain ⟨hp,h⟩:=gdL h;obtain ⟨hp1,hp2⟩:=DC hp;refine jH ?_;refine jC ?_;refine oN (Lx.asg (.nil) Z) ?_;refine jA ?_;refine jH ?_;refine jC ?_;refine oN (Lx.mv (eL (cL LD.c) p) Z) ?_;refine oGN (m:=1) Z Z Z Z LD.isF ((GD p hp).ownN Z LD.isF yP 1 Z) (fun ver gh K hN hK=>?_);clear hK;replace hN:NK 2 (some ⟨aI,2,157,[[eL cY r_.b,I r_.p]]⟩::some ⟨ver,1,91,bY gh 4 p⟩::K) gh 4 97 LD.c p:=hN;refine TO.clean (H0:=some ⟨aI,2,157,[[eL cY r_.b,I r_.p]]⟩::some ⟨ver,1,91,bY gh 4 p⟩::K) (e0:=au [(8,hS false 1 ver 1 p.length),(0,.hp 0 aI 2 0 0)]) Z (Lv Z (Lv Z Lu)) ?_;refine oN (Lx.asg (hS false 1 ver 1 p.length) Z) ?_;refine jA ?_;refine jH ?_;refine jH ?_;refine jC ?_;refine oN (Lx.mv (hS false 1 ver 1 p.length) Z) ?_;refine oN (Lx.lenO (g:=false) mE Z nofun) ?_;refine oN (Lx.ieq Z Z) ?_;refine jA ?_;refine T.cond Z (fun qz=>?_) (fun qz=>?_)
 ·have h0:p.length=0:=by have := eq_of_beq qz;omega
  replace h:=Cn (show Nat.beq p.length 0=true by rw [h0];rfl) h;refine jH ?_;refine jC ?_;refine oN (Lx.mv (hS false 1 ver 1 p.length) Z) ?_;refine oN (Lx.asg (hS false 1 ver 1 p.length) Z) ?_;refine jA ?_;refine jK ?_;obtain rfl:=osl h
  repeat first | refine cN ?_ | refine cO ?_
  exact ⟨au [(4,eL (cL LD.c) p)],[some ⟨aI,2,157,[[eL cY r_.b,I r_.p]]⟩],nB Z (.cons (.row (.cons (.fz (qC Z)) (.cons (.fz (qC Z)) .nil))) .nil) (aj (.fz (hN.fzm Z Z Z Z LD.isF)) aS),jQ (vs:=[eL (cL LD.c) p]) (.cons (.tmp Z) .nil) ⟨Z,Z⟩⟩
 ·have h0:p.length≠0:=fun h0=>by rw [h0] at qz;exact absurd qz (by decide)
  replace h:=Co (show Nat.beq p.length 0=false by cases hc:p.length with | zero=>exact absurd hc h0 | succ n=>rfl) h;refine jG ?_;refine jH ?_;refine jC ?_;refine oN (Lx.mv (.hp 0 aI 2 0 0) Z) ?_;refine oN (Lx.mv (hS false 1 ver 1 p.length) Z) ?_;refine oN (Lx.lenO (g:=false) mE Z nofun) ?_;obtain ⟨v1,cv1,h⟩:=Bx h;refine oA (EvA.call Z Z Z ((aL r_ (p.length:Int) aI cv1).one 0 Z (.cons (.hp Z) (.cons (.pF Z) .nil)) (ak Z) (ak Z) Z)) ?_;refine oN (Lx.asg (I v1.2) Z) ?_;refine jA ?_;refine T.joinF (G:=Unit) (fun _=>True) (fun _=>[(5,eL (cL LD.c) q.2)]) (fun _=>[some ⟨aI,2,157,[[eL cY q.1.b,I q.1.p]]⟩]) (fun _ _=>?_) ?_
  ·clear h;refine jH ?_;refine jC ?_;refine oN (Lx.mv (eL (cL LD.c) q.2) Z) ?_;refine oN (Lx.asg (eL (cL LD.c) q.2) Z) ?_;refine jA ?_;refine jK ?_
   repeat first | refine cN ?_ | refine cO ?_
   exact ⟨au [(4,eL (cL LD.c) q.2)],[some ⟨aI,2,157,[[eL cY q.1.b,I q.1.p]]⟩],xD Z (Lv Z Lu),jQ (vs:=[eL (cL LD.c) q.2]) (.cons (.tmp Z) .nil) ⟨Z,Z⟩⟩
  ·refine jH ?_;refine jC ?_;refine oN (Lx.mv (.hp 0 aI 2 0 0) Z) ?_;obtain ⟨v2,cv2,h⟩:=Bx h;refine oA (EvA.call Z Z Z ((aL v1.1 (40:Int) aI cv2).one 0 Z (.cons (.hp Z) (.cons (.pF Z) .nil)) (ak Z) (ak Z) Z)) ?_;refine jA ?_;obtain ⟨hi,h⟩:=gdD h;refine T.clean (H0:=some ⟨aI,2,157,[[eL cY v2.1.b,I v2.1.p]]⟩::some ⟨ver,1,91,bY gh 4 p⟩::K) (e0:=au [(18,I v2.2),(6,I v1.2),(5,hS false 1 ver 1 p.length),(0,.hp 0 aI 2 0 0)]) Z (Lv Z (Lv Z (Lv Z (Lv Z Lu)))) ?_
   replace hN:NK 2 (some ⟨aI,2,157,[[eL cY v2.1.b,I v2.1.p]]⟩::some ⟨ver,1,91,bY gh 4 p⟩::K) gh 4 97 LD.c p:=hN.low fun b hb _=>by match b,hb with | b+2,_=>rfl
   have hin:v1.2.toNat<p.length:=by omega
   clear cv1 cv2 hp;refine jE ?_;refine jH ?_;refine jC ?_;refine oN (Lx.ieq Z Z) ?_;refine oN (Lx.asg (Bo (v2.2==U)) Z) ?_;refine jA ?_;refine T.cond Z (fun q0=>?_) (fun q0=>?_)
   ·replace h:=Cn q0 h;obtain ⟨g,k,v,hg,hk,hK,hnil⟩:=hN.row (i:=v1.2.toNat) hin;have hlen:=hp2 v1.2.toNat;unfold GR at h;generalize hrw:p.getD v1.2.toNat []=row at hK hnil h hlen;refine jP (fun i=>[([],false),([],false),([],false),([],false),([],false),([1],false),([],false),([],false),([0],true),([],false),([],false),([0],true),([],false),([],false),([k+2],true),([],false),([1],true)].getD i ([],false)) (by kernel_rfl) (by kernel_rfl) ?_;refine fN Z (Lx.mv (hS false 1 ver 1 p.length) Z) ?_;refine fN Z (Lx.mv (I v1.2) Z) ?_;refine fN Z (Lx.mv (hS false 1 ver 1 p.length) Z) ?_;refine fN Z (Lx.mv (I v1.2) Z) ?_;refine fN Z (Lx.ixO (g:=false) mE Z Z nofun hi) ?_;refine fR [1] Z (fun G hG=>EvA.loadhp (hS g (k+2) v 4 row.length) xG Z (hG.a0 Z) Z Z (show (bY gh 4 p)[v1.2.toNat]? = some [hS g (k+2) v 4 row.length] by rw [cg hin,Bg,hg,hrw]) Z) ?_;refine fN Z (Lx.mv (.hp 0 aI 2 0 0) Z) ?_;refine fN Z (Lx.mkF (c:=cI) ([(0:Int),(6:Int),V,(4:Int)]:LI) [[I U],[I (6:Int)],[I V],[I (4:Int)]] bh Z Z Z qD qD Z) ?_;obtain ⟨a,ca,h⟩:=Bx h;refine fW 0 [] Z Z (fun G hG=>EvA.call Z Z Z ((dI v2.1 ([(0:Int),(6:Int),V,(4:Int)]:LI) aI ca).one 0 (hG.a0 Z) (.cons (.hp Z) (.cons (.pF Z) .nil)) (ak Z) (ak Z) Z)) ?_;refine fN Z (Lx.mv (.hp 0 aI 2 0 0) Z) ?_;refine fN Z (Lx.mkF (c:=cI) ([(0:Int),(3:Int),(-1:Int)]:LI) [[I U],[I (3:Int)],[I (-1:Int)]] bh Z Z Z qD qD Z) ?_;obtain ⟨b,cb,h⟩:=Bx h;refine fW 0 [] Z Z (fun G hG=>EvA.call Z Z Z ((dI a.1 ([(0:Int),(3:Int),(-1:Int)]:LI) aI cb).one 0 (hG.a0 Z) (.cons (.hp Z) (.cons (.pF Z) .nil)) (ak Z) (ak Z) Z)) ?_;refine fN Z (Lx.build [I a.2,I b.2,I U,I U] Tryz.underlying97 xb nA Z Z) ?_;refine fN Z (Lx.mkF (c:=LD.c) ([(⟨a.2,b.2,U,U⟩:LD)]:List LD) [[I a.2,I b.2,I U,I U]] sj Z Z Z qD LD.isF Z) ?_;refine fW (k+2) [] Z (Nat.ble_eq_true_of_le (by simp;omega)) (fun G hG=>EvA.app1 (g:=g) (l:=row) (⟨a.2,b.2,(0:Int),(0:Int)⟩:LD) sj (by kernel_rfl) Z Z (hG.a0 hK) hnil (bL.fz (l:=[(⟨a.2,b.2,(0:Int),(0:Int)⟩:LD)]) Z qD) (Ah (by omega) Z)) ?_;refine fN Z (Lx.ixO (g:=false) mE Z Z nofun hi) ?_;refine fV 1 [] Z Z (fun G hG=>EvA.st ⟨ver,1,91,(bY gh 4 p).set v1.2.toNat [hS false (k+2) (v+1) 4 (row++[(⟨a.2,b.2,U,U⟩:LD)]).length]⟩ xG Z Z (hG.a0 Z) Z Z (show (bY gh 4 p)[v1.2.toNat]? = some [hS g (k+2) v 4 row.length] by rw [cg hin,Bg,hg,hrw]) Z Z Z) ?_;refine jR ?_;obtain rfl:=osl h;have hN2:=hN.turn (r':=some ⟨aI,2,157,[[eL cY b.1.b,I b.1.p]]⟩) (o':=some ⟨ver,1,91,bY (gh.put v1.2.toNat (false,k+2,v+1)) 4 (p.set v1.2.toNat (row++[(⟨a.2,b.2,U,U⟩:LD)]))⟩) hin hg (g':=false) (v':=v+1) (x:=row++[(⟨a.2,b.2,U,U⟩:LD)]) nofun;rw [<- qL hin] at hN2;refine ⟨(),trivial,nB Z (.cons (.row (.cons (.fz (qC Z)) (.cons (.fz (qC Z)) .nil))) .nil) (aj (.fz (hN2.fzm (to:=91) Z Z ?_ (by simp) LD.isF)) aS)⟩;rw [<- qL hin]
    rfl
   ·replace h:=Co q0 h;refine jH ?_;refine jC ?_;refine oN (Lx.ieq Z Z) ?_;refine oN (Lx.asg (Bo (v2.2==V)) Z) ?_;refine jA ?_;refine T.cond Z (fun q1=>?_) (fun q1=>?_)
    ·replace h:=Cn q1 h;obtain ⟨g,k,v,hg,hk,hK,hnil⟩:=hN.row (i:=v1.2.toNat) hin;have hlen:=hp2 v1.2.toNat;unfold GR at h;generalize hrw:p.getD v1.2.toNat []=row at hK hnil h hlen;refine jP (fun i=>[([],false),([],false),([],false),([],false),([],false),([1],false),([],false),([],false),([0],true),([],false),([],false),([k+2],true),([],false),([1],true)].getD i ([],false)) (by kernel_rfl) (by kernel_rfl) ?_;refine fN Z (Lx.mv (hS false 1 ver 1 p.length) Z) ?_;refine fN Z (Lx.mv (I v1.2) Z) ?_;refine fN Z (Lx.mv (hS false 1 ver 1 p.length) Z) ?_;refine fN Z (Lx.mv (I v1.2) Z) ?_;refine fN Z (Lx.ixO (g:=false) mE Z Z nofun hi) ?_;refine fR [1] Z (fun G hG=>EvA.loadhp (hS g (k+2) v 4 row.length) xG Z (hG.a0 Z) Z Z (show (bY gh 4 p)[v1.2.toNat]? = some [hS g (k+2) v 4 row.length] by rw [cg hin,Bg,hg,hrw]) Z) ?_;refine fN Z (Lx.mv (.hp 0 aI 2 0 0) Z) ?_;refine fN Z (Lx.mkF (c:=cI) ([(4:Int),(-1:Int),(3:Int)]:LI) [[I (4:Int)],[I (-1:Int)],[I (3:Int)]] bh Z Z Z qD qD Z) ?_;obtain ⟨a,ca,h⟩:=Bx h;refine fW 0 [] Z Z (fun G hG=>EvA.call Z Z Z ((dI v2.1 ([(4:Int),(-1:Int),(3:Int)]:LI) aI ca).one 0 (hG.a0 Z) (.cons (.hp Z) (.cons (.pF Z) .nil)) (ak Z) (ak Z) Z)) ?_;refine fN Z (Lx.build [I (2:Int),I U,I U,I a.2] Tryz.underlying97 xb nA Z Z) ?_;refine fN Z (Lx.mkF (c:=LD.c) ([(⟨(2:Int),U,U,a.2⟩:LD)]:List LD) [[I (2:Int),I U,I U,I a.2]] sj Z Z Z qD LD.isF Z) ?_;refine fW (k+2) [] Z (Nat.ble_eq_true_of_le (by simp;omega)) (fun G hG=>EvA.app1 (g:=g) (l:=row) (⟨(2:Int),(0:Int),(0:Int),a.2⟩:LD) sj (by kernel_rfl) Z Z (hG.a0 hK) hnil (bL.fz (l:=[(⟨(2:Int),(0:Int),(0:Int),a.2⟩:LD)]) Z qD) (Ah (by omega) Z)) ?_;refine fN Z (Lx.ixO (g:=false) mE Z Z nofun hi) ?_;refine fV 1 [] Z Z (fun G hG=>EvA.st ⟨ver,1,91,(bY gh 4 p).set v1.2.toNat [hS false (k+2) (v+1) 4 (row++[(⟨(2:Int),U,U,a.2⟩:LD)]).length]⟩ xG Z Z (hG.a0 Z) Z Z (show (bY gh 4 p)[v1.2.toNat]? = some [hS g (k+2) v 4 row.length] by rw [cg hin,Bg,hg,hrw]) Z Z Z) ?_;refine jR ?_;obtain rfl:=osl h;have hN2:=hN.turn (r':=some ⟨aI,2,157,[[eL cY a.1.b,I a.1.p]]⟩) (o':=some ⟨ver,1,91,bY (gh.put v1.2.toNat (false,k+2,v+1)) 4 (p.set v1.2.toNat (row++[(⟨(2:Int),U,U,a.2⟩:LD)]))⟩) hin hg (g':=false) (v':=v+1) (x:=row++[(⟨(2:Int),U,U,a.2⟩:LD)]) nofun;rw [<- qL hin] at hN2;refine ⟨(),trivial,nB Z (.cons (.row (.cons (.fz (qC Z)) (.cons (.fz (qC Z)) .nil))) .nil) (aj (.fz (hN2.fzm (to:=91) Z Z ?_ (by simp) LD.isF)) aS)⟩;rw [<- qL hin]
     rfl
    ·replace h:=Co q1 h;refine jH ?_;refine jC ?_;refine oN (Lx.ieq Z Z) ?_;refine oN (Lx.asg (Bo (v2.2==(2:Int))) Z) ?_;refine jA ?_;refine T.cond Z (fun q2=>?_) (fun q2=>?_)
     ·replace h:=Cn q2 h;refine jE ?_;refine jO (S:=Nat) (G:=NG×AH×Nat) (E:=Nat) (x:=4-p.length) (fun j=>if p.length+j<=3 then some (.inl (j+1)) else some (.inr j)) (fun j g=>j<=4-p.length/\NK 2 (some ⟨aI,2,157,[[eL cY v2.1.b,I v2.1.p]]⟩::some ⟨g.2.2,1,91,bY g.1 4 (p++List.replicate j [])⟩::g.2.1) g.1 4 97 LD.c (p++List.replicate j [])) (fun j g=>[(5,hS false 1 g.2.2 1 (p++List.replicate j []).length)]) (fun j g=>some ⟨aI,2,157,[[eL cY v2.1.b,I v2.1.p]]⟩::some ⟨g.2.2,1,91,bY g.1 4 (p++List.replicate j [])⟩::g.2.1) (s0:=0) (gh,K,ver) (yO (fun i=>i) (4-p.length) (fun i hi=>by rw [if_pos (by omega)]) (by rw [if_neg (by omega)])) ⟨Nat.zero_le _,by simpa using hN⟩ (xD (by simp) (Lv (by simp;rfl) Lu)) (fun j g z hz hinv=>?_);obtain ⟨gh,K,ver⟩:=g;obtain ⟨hle,hN⟩:=hinv;simp only at hN;have hll:(p++List.replicate j []).length=p.length+j:=by simp
      have htk:p++List.replicate (j+1) []=(p++List.replicate j [])++[([]:List LD)]:=by rw [List.replicate_succ',List.append_assoc]
      generalize hl:(p++List.replicate j [])=l at hN hll htk ⊢;refine jH ?_;refine jH ?_;refine jC ?_;refine oN (Lx.mv (hS false 1 ver 1 l.length) Z) ?_;refine oN (Lx.lenO (g:=false) mE Z nofun) ?_;refine oN (Lx.ile Z Z) ?_;refine jA ?_;refine T.cond Z (fun qa=>?_) (fun qa=>?_)
      ·have hj:p.length+j<=3:=by have := of_decide_eq_true qa;omega
       rw [if_pos hj] at hz;obtain rfl:=osl hz;refine jG ?_;refine jE ?_;refine jC ?_;refine oN (Lx.mv (hS false 1 ver 1 l.length) Z) ?_;refine oA (EvA.mkO (c:=LD.c) (b:=K.length+2) ([]:List LD) [] sj Z Z Z qD Z Z) ?_;refine TO.clean (H0:=some ⟨aI,2,157,[[eL cY v2.1.b,I v2.1.p]]⟩::some ⟨ver,1,91,bY gh 4 l⟩::(K++[bE false 0 4 97 (([]:List LD).map LD.c)])) (e0:=au [(58,hS false (K.length+2) 0 4 0),(57,hS false 1 ver 1 l.length)]) Z (Lv Z (Lv Z Lu)) ?_;refine oA (EvA.mkR (b:=(K++[bE false 0 4 97 (([]:List LD).map LD.c)]).length+2) [[hS false (K.length+2) 0 4 0]] mE Z Z Z Z) ?_;refine oA (EvA.appR (g:=false) (rows:=bY gh 4 l) (rows':=bY gh 4 l++[[hS false (K.length+2) 0 4 0]]) (n':=l.length+1) mE (by kernel_rfl) Z Z (dz gh 4 l).symm nofun (bL.raw (rows:=[[hS false (K.length+2) 0 4 0]]) Z (AB (H:=_::_::(K++[_]))) Z) (Ah (by simp;omega) Z) Z Z) ?_;refine oN (Lx.asg (hS false 1 (ver+1) 1 (l.length+1)) Z) ?_;refine jA ?_;refine ⟨j+1,(gh.put l.length (false,K.length+2,0),K++[bE false 0 4 97 (([]:List LD).map LD.c)]++[some ⟨0,1,91,[[hS false (K.length+2) 0 4 0]]⟩],ver+1),Z,⟨by omega,?_⟩,xD ?_ (Lv ?_ Lu)⟩
       ·rw [htk];refine hN.snoc (id:=K.length+2) (by simp) (by omega) (fun b h1 h2=>?_) ?_ qD
        ·match b,h1 with
         | b+2,_=>
          simp only [llc,Nat.add_lt_add_iff_right] at h2;simp only [List.getElem?_cons_succ,List.append_assoc];exact gal h2
        ·simp only [List.getElem?_cons_succ];exact BB
       ·show _::some (ABlk.mk _ _ _ (bY _ 4 (p++List.replicate (j+1) [])))::_=_;rw [htk,<- wM]
        rfl
       ·show hS false 1 (ver+1) 1 (l.length+1)=hS false 1 (ver+1) 1 (p++List.replicate (j+1) []).length;rw [htk,lla]
        rfl
      ·have hj : ¬ p.length+j<=3:=by have := of_decide_eq_false qa;omega
       rw [if_neg hj] at hz;obtain rfl:=osl hz;refine jM ?_;refine ⟨_,Z,fun he=>?_⟩;subst he;obtain rfl:=osl h;subst hl;exact ⟨(),trivial,nB Z (.cons (.row (.cons (.fz (qC Z)) (.cons (.fz (qC Z)) .nil))) .nil) (aj (.fz (hN.fzm Z Z Z Z LD.isF)) aS)⟩
     ·replace h:=Co q2 h;refine jH ?_;refine jC ?_;refine oN (Lx.ieq Z Z) ?_;refine oN (Lx.asg (Bo (v2.2==(3:Int))) Z) ?_;refine jA ?_;refine T.cond Z (fun q3=>?_) (fun q3=>?_)
      ·replace h:=Cn q3 h;have hlen:=hp2 v1.2.toNat;unfold GR at h;have hset:p.set v1.2.toNat (p.getD v1.2.toNat [])=p:=by simp [hin]
       generalize hrw0:p.getD v1.2.toNat []=row0 at h hlen hset;refine jE ?_;refine jO (S:=Nat) (G:=NG×AH) (E:=Nat) (x:=8-row0.length) (fun j=>if row0.length+j<=7 then some (.inl (j+1)) else some (.inr j)) (fun j g=>j<=8-row0.length/\NK 2 (some ⟨aI,2,157,[[eL cY v2.1.b,I v2.1.p]]⟩::some ⟨ver,1,91,bY g.1 4 (p.set v1.2.toNat (row0++List.replicate j (⟨1,0,0,0⟩:LD)))⟩::g.2) g.1 4 97 LD.c (p.set v1.2.toNat (row0++List.replicate j (⟨1,0,0,0⟩:LD)))) (fun j g=>[(6,I v1.2),(5,hS false 1 ver 1 p.length)]) (fun j g=>some ⟨aI,2,157,[[eL cY v2.1.b,I v2.1.p]]⟩::some ⟨ver,1,91,bY g.1 4 (p.set v1.2.toNat (row0++List.replicate j (⟨1,0,0,0⟩:LD)))⟩::g.2) (s0:=0) (gh,K) (yO (fun i=>i) (8-row0.length) (fun i hi=>by rw [if_pos (by omega)]) (by rw [if_neg (by omega)])) ⟨Nat.zero_le _,by simpa [hset] using hN⟩ (xD (by simp [hset]) (Lv Z (Lv Z Lu))) (fun j g z hz hinv=>?_);obtain ⟨gh,K⟩:=g;obtain ⟨hle,hN⟩:=hinv;simp only at hN;have hin2:v1.2.toNat<(p.set v1.2.toNat (row0++List.replicate j (⟨1,0,0,0⟩:LD))).length:=by simp [hin]
       have hgt:(p.set v1.2.toNat (row0++List.replicate j (⟨1,0,0,0⟩:LD))).getD v1.2.toNat []=(row0++List.replicate j (⟨1,0,0,0⟩:LD)):=by simp [hin]
       have hrl:(row0++List.replicate j (⟨1,0,0,0⟩:LD)).length=row0.length+j:=by simp
       have hnx:∀ x,((p.set v1.2.toNat (row0++List.replicate j (⟨1,0,0,0⟩:LD)))).set v1.2.toNat x=p.set v1.2.toNat x:=fun x=>by simp
       have htk:row0++List.replicate (j+1) (⟨1,0,0,0⟩:LD)=(row0++List.replicate j (⟨1,0,0,0⟩:LD))++[(⟨1,0,0,0⟩:LD)]:=by rw [List.replicate_succ',List.append_assoc]
       obtain ⟨g,k,v,hg,hk,hK,hnil⟩:=hN.row (i:=v1.2.toNat) hin2;rw [hgt] at hK hnil;have hpl:(p.set v1.2.toNat (row0++List.replicate j (⟨1,0,0,0⟩:LD))).length=p.length:=by simp
       generalize hrw:(row0++List.replicate j (⟨1,0,0,0⟩:LD))=row at hN hin2 hgt hrl hnx htk hK hnil hpl ⊢;generalize hl:p.set v1.2.toNat row=l at hN hin2 hgt hnx hpl ⊢;refine jH ?_;refine jH ?_;refine jC ?_;refine oN (Lx.mv (hS false 1 ver 1 p.length) Z) ?_;refine oN (Lx.mv (I v1.2) Z) ?_;refine oN (Lx.ixO (g:=false) mE Z Z nofun hi) ?_;refine oA (EvA.loadhp (hS g (k+2) v 4 row.length) xG Z Z Z Z (show (bY gh 4 l)[v1.2.toNat]? = some [hS g (k+2) v 4 row.length] by rw [cg hin2,Bg,hg,hgt]) Z) ?_;refine oN (Lx.lenO (g:=g) sj Z (fun x=>by rw [hnil x];rfl)) ?_;refine oN (Lx.ile Z Z) ?_;refine jA ?_;refine T.cond Z (fun qa=>?_) (fun qa=>?_)
       ·have hj:row0.length+j<=7:=by have := of_decide_eq_true qa;omega
        rw [if_pos hj] at hz;obtain rfl:=osl hz;refine jG ?_;refine jE ?_;refine jC ?_;refine oN (Lx.mv (hS false 1 ver 1 p.length) Z) ?_;refine oN (Lx.mv (I v1.2) Z) ?_;refine oN (Lx.mv (hS false 1 ver 1 p.length) Z) ?_;refine oN (Lx.mv (I v1.2) Z) ?_;refine oN (Lx.ixO (g:=false) mE Z Z nofun hi) ?_;refine oA (EvA.loadhp (hS g (k+2) v 4 row.length) xG Z Z Z Z (show (bY gh 4 l)[v1.2.toNat]? = some [hS g (k+2) v 4 row.length] by rw [cg hin2,Bg,hg,hgt]) Z) ?_;refine oN (Lx.build [I V,I U,I U,I U] Tryz.underlying97 xb nA Z Z) ?_;refine oN (Lx.mkF (c:=LD.c) ([(⟨1,0,0,0⟩:LD)]:List LD) [[I V,I U,I U,I U]] sj Z Z Z qD LD.isF Z) ?_;refine oA (EvA.app1 (g:=g) (l:=row) (⟨1,0,0,0⟩:LD) sj (by kernel_rfl) Z Z hK hnil (bL.fz (l:=[(⟨1,0,0,0⟩:LD)]) Z qD) (Ah (by omega) Z)) ?_;refine oN (Lx.ixO (g:=false) mE Z Z nofun hi) ?_;refine oV (EvA.st ⟨ver,1,91,(bY gh 4 l).set v1.2.toNat [hS false (k+2) (v+1) 4 (row++[(⟨1,0,0,0⟩:LD)]).length]⟩ xG Z Z Z Z Z (show (bY gh 4 l)[v1.2.toNat]? = some [hS g (k+2) v 4 row.length] by rw [cg hin2,Bg,hg,hgt]) Z Z Z) ?_;refine jA ?_;have hN2:=hN.turn (r':=some ⟨aI,2,157,[[eL cY v2.1.b,I v2.1.p]]⟩) (o':=some ⟨ver,1,91,bY (gh.put v1.2.toNat (false,k+2,v+1)) 4 (l.set v1.2.toNat (row++[(⟨1,0,0,0⟩:LD)]))⟩) hin2 hg (g':=false) (v':=v+1) (x:=row++[(⟨1,0,0,0⟩:LD)]) nofun;refine ⟨j+1,(gh.put v1.2.toNat (false,k+2,v+1),K.set k (bE false (v+1) 4 97 ((row++[(⟨1,0,0,0⟩:LD)]).map LD.c))),Z,⟨by omega,?_⟩,xD ?_ (Lv Z (Lv Z Lu))⟩
        ·rw [hnx] at hN2;rw [htk];exact hN2
        ·show _::some (ABlk.mk _ _ _ (bY _ 4 (p.set v1.2.toNat (row0++List.replicate (j+1) (⟨1,0,0,0⟩:LD)))))::_=_;rw [htk,<- hnx,<- qL hin2]
         rfl
       ·have hj : ¬ row0.length+j<=7:=by have := of_decide_eq_false qa;omega
        rw [if_neg hj] at hz;obtain rfl:=osl hz;refine jM ?_;refine ⟨_,Z,fun he=>?_⟩;subst he;obtain rfl:=osl h;subst hrw;subst hl;exact ⟨(),trivial,nB Z (.cons (.row (.cons (.fz (qC Z)) (.cons (.fz (qC Z)) .nil))) .nil) (aj (.fz (hN.fzm Z Z Z (by simp) LD.isF)) aS)⟩
      ·replace h:=Co q3 h;refine jH ?_;refine jC ?_;refine oN (Lx.ieq Z Z) ?_;refine oN (Lx.asg (Bo (v2.2==(4:Int))) Z) ?_;refine jA ?_;refine T.cond Z (fun q4=>?_) (fun q4=>?_)
       ·replace h:=Cn q4 h;refine T.cut (e0:=au [(5,eL (cL LD.c) p)]) (H0:=[some ⟨aI,2,157,[[eL cY v2.1.b,I v2.1.p]]⟩]) (nB Z (.cons (.row (.cons (.fz (qC Z)) (.cons (.fz (qC Z)) .nil))) .nil) (aj (.fz (hN.fzm Z Z Z Z LD.isF)) aS)) ?_;refine jC ?_;refine oN (Lx.mv (eL (cL LD.c) p) Z) ?_;refine oN (Lx.slL mE Z (.yes Z) .no ⟨by omega,by omega,by omega⟩ qD) ?_;refine oN (Lx.asg (eL (cL LD.c) ((p.drop 1).take (p.length-1))) Z) ?_;refine jA ?_;obtain rfl:=osl h;exact ⟨(),trivial,xD Z (Lv Z Lu)⟩
       ·replace h:=Co q4 h;refine jG ?_;obtain rfl:=osl h;exact ⟨(),trivial,nB Z (.cons (.row (.cons (.fz (qC Z)) (.cons (.fz (qC Z)) .nil))) .nil) (aj (.fz (hN.fzm Z Z Z Z LD.isF)) aS)⟩
section
variable {α β:Type} [Inhabited β] {f:α->List Value} {s:Nat} {c:β->List AV} {w:World} {fz:Nat->Prop} {v:Value}
theorem IG {u x:Value} (h:FRel w fz (.v u) x):x=u:=by
 cases h with
 | v _=>rfl
theorem El {e:β->α} (hf:∀ x,c x=(f (e x)).map AV.v) (hs:∀ x,(f (e x)).length=s) {l:List β} (h:FRel w fz (eL c l) v):Sl f s w 0 w.heap.size v (l.map e):=by
 unfold eL at h
 cases h with
 | sl us hc hm ha hr hu h1 h=>
  refine ⟨_,_,by rw [llm],by simpa using hc,hm,fun hn=>?_⟩;rw [llm] at hn;obtain ⟨rfl,hg,hlt⟩:=ha hn;refine ⟨_,_,rfl,Nat.zero_le _,hlt,hlt,fun k hk j u hu' => ?_⟩;rw [llm] at hk;rw [List.getElem_map] at hu';have hk0:l.getD k default=l[k]:=by simp [List.getD,hk]
  have hrow:(c (l.getD k default))[j]? = some (.v u):=by rw [hk0,hf,List.getElem?_map,hu'];rfl
  have hs':=hr k hk
  dsimp only at hs'
  rw [hf,llm,hs] at hs';subst hs';have h2:=hu k j _ hk hrow;rw [IG (h k j _ hk hrow)] at h2;exact h2
theorem xH {e:β->α} (hf:∀ x,c x=(f (e x)).map AV.v) (hs:∀ x,(f (e x)).length=s) {l:List (List β)} (h:FRel w fz (eL (cL c) l) v):zJ f s w 0 w.heap.size v (l.map fun r=>r.map e):=by
 unfold eL at h
 cases h with
 | sl us hc hm ha hr hu h1 h=>
  refine ⟨(List.range l.length).map fun i=>us i 0,?_,by simp,fun k hk hk' => ?_⟩
  ·refine ⟨_,_,by rw [llm,List.length_range],by simpa using hc,hm,fun hn=>?_⟩;rw [llm,List.length_range] at hn;obtain ⟨rfl,hg,hlt⟩:=ha hn;refine ⟨_,_,rfl,Nat.zero_le _,hlt,hlt,fun k hk j u hu' => ?_⟩;rw [llm,List.length_range] at hk;rw [List.getElem_map,List.getElem_range] at hu';have hs':=hr k hk;change 1=_ at hs';subst hs'
   match j with
   | 0=>
    have h2:=hu k 0 _ hk rfl;rw [h2];simpa [JS] using hu'
   | j+1=>simp [JS] at hu'
  ·rw [llm,List.length_range] at hk;rw [List.getElem_map,List.getElem_map,List.getElem_range];have h2:=h k 0 _ hk rfl;have hk0:l.getD k default=l[k]:=by simp [List.getD,hk]
   rw [hk0] at h2;exact El hf hs h2
theorem Em {e:α->β} (hf:∀ x,c (e x)=(f x).map AV.v) (hs:∀ x,(f x).length=s) (hp:∀ x,∀ u∈f x,plain u=true) {l:List α} {hi:Nat} (h:Sl f s w 0 hi v l):FRel w (fun g=>g<w.heap.size) (eL c (l.map e)) v:=by
 obtain ⟨A,cap,rfl,hc,hm,h⟩:=h;have key:∀ (g o:Nat),(0<l.length->A=some ⟨g,o,none⟩/\g<w.heap.size/\∀ (k:Nat) (h:k<l.length) (j:Nat) (u:Value),(f l[k])[j]? = some u->w.cell? ⟨g,o+k*s+j,none⟩=some u)->FRel w (fun g=>g<w.heap.size) (eL c (l.map e)) (.slice A l.length cap):=by
  intro g o hh;have hrow:∀ (i j:Nat) (a:AV),i<l.length->(c ((l.map e).getD i default))[j]? = some a->∃ u,l[i]?.bind (fun x=>(f x)[j]?)=some u/\a = .v u/\plain u=true/\w.cell? ⟨g,o+i*s+j,none⟩=some u:=by
   intro i j a hi ha;have h0:(l.map e).getD i default=e l[i]:=by simp [List.getD,hi]
   rw [h0,hf,List.getElem?_map] at ha
   cases hq:(f l[i])[j]? with
   | none=>rw [hq] at ha;cases ha
   | some u=>
    rw [hq] at ha;refine ⟨u,by rw [geq hi];exact hq,(osl ha).symm,hp _ u (List.mem_of_getElem? hq),(hh (by omega)).2.2 i hi j u hq⟩
  have e0:(l.map e).length=l.length:=by simp
  unfold eL;rw [e0];refine FRel.sl (s:=s) (g:=g) (o:=o) (fun i j=>(l[i]?.bind fun x=>(f x)[j]?).getD (.bool false)) hc hm (fun hn=>⟨(hh hn).1,(hh hn).2.1,(hh hn).2.1⟩) (fun i hi=>?_) (fun i j a hi ha=>?_) (fun i j a hi ha=>?_) (fun i j a hi ha=>?_)
  ·have h0:(l.map e).getD i default=e l[i]:=by simp [List.getD,hi]
   rw [h0,hf,llm,hs]
  ·obtain ⟨u,h1,h2,h3,h4⟩:=hrow i j a hi ha;simp only [h1,Option.getD_some];exact h4
  ·obtain ⟨u,h1,h2,h3,h4⟩:=hrow i j a hi ha;simp only [h1,Option.getD_some];exact Bi h3
  ·obtain ⟨u,h1,h2,h3,h4⟩:=hrow i j a hi ha;subst h2;simp only [h1,Option.getD_some];exact .v h3
 by_cases h0:0<l.length
 ·obtain ⟨b,o,hA,_,_,hlt,hcell⟩:=h h0;exact key b o fun _=>⟨hA,hlt,hcell⟩
 ·exact key 0 0 fun h1=>absurd h1 h0
theorem Bc {P:Program} {g:FuncId} {ars:List AV} {r:AV} (h:aA P g ars r) (vs:Array Value) (hl:vs.size=ars.length) (hr:∀ (i:Nat) (a:AV) (v:Value),ars[i]? = some a->vs[i]? = some v->FRel w (fun g=>g<w.heap.size) a v) (hgl:Gl w (fun g=>g<w.heap.size):=by exact gl_none) :
  Calls P g vs w fun e w'=>∃ v fz',e = .returned v/\Below w.heap.size w w'/\FRel w' fz' r v:=
 (h.2 w _ vs (fun g hg=>hg) hgl hl hr).mono fun e w' ⟨v,fz',h1,h2,h3,_⟩=>⟨v,fz',h1,h2,h3⟩
theorem K4 {a:AV} {u:Value} (h:FRel w fz a u):∀ (i:Nat) (a':AV) (v:Value),[a][i]? = some a' -> #[u][i]? = some v->FRel w fz a' v:=by
 intro i a' v h1 h2
 match i with
 | 0=>
  obtain rfl:=osl h1;obtain rfl:u=v:=by simpa using h2
  exact h
 | i+1=>simp at h1
end
theorem En {w:World} {v:Value} {hi:Nat} {l:LI} (h:Sl DY 1 w 0 hi v l):FRel w (fun g=>g<w.heap.size) (eL cY l) v:=by
 have := Em (f:=DY) (s:=1) (c:=cY) (e:=id) (fun _=>rfl) (fun _=>rfl) (fun x u hu=>by simp [DY] at hu;subst hu;rfl) h
 rwa [List.map_id] at this
theorem CP {P:Program} {g:FuncId} {ars:List AV} {w:World} {vs:Array Value} (h:aA P g ars (Bo true)) (hl:vs.size=ars.length) (hr:∀ (i:Nat) (a:AV) (v:Value),ars[i]? = some a->vs[i]? = some v->FRel w (fun g=>g<w.heap.size) a v) (hgl:Gl w (fun g=>g<w.heap.size):=by exact gl_none) :
  Calls P g vs w fun e w'=>e = .returned (.bool true)/\Below w.heap.size w w':=
 (Bc h vs hl hr hgl).mono fun e w' ⟨v,fz',h1,h2,h3⟩=>⟨by rw [h1,IG h3],h2⟩
theorem II {vs:Array Value} {a:AV} (hl:vs.size=[a].length):∃ u,vs = #[u]:=by
 obtain ⟨l⟩:=vs
 match l,hl with
 | [u],_=>exact ⟨u,rfl⟩
theorem nI (p:List (List LD)) {q:Bool} (h:bH p=some q):aA Tryz.prog 41 [eL (cL LD.c) p] (Bo q):=by
 unfold bH at h;obtain ⟨⟨h1,h2⟩,h⟩:=gdD h;obtain rfl:=osl h;refine ⟨by kernel_rfl,fun w fz vs hlt _ hl hrel=>?_⟩;obtain ⟨u,rfl⟩:=II hl;have hs:=xH (f:=Ins.cells) (s:=4) (e:=mR) (fun _=>rfl) (fun _=>rfl) (hrel 0 _ u rfl rfl);refine (sW hs (Nat.le_refl _) (by rw [BD];exact h2)).mono fun e w' ⟨he,hb⟩ => ?_;exact ⟨_,fz,he,hb,.v Z,fun g hg=>hg,fun g hg => .inl hg,fun g hg=>Nat.lt_of_lt_of_le (hlt g hg) hb.size⟩
theorem jd (p:List (List LD)) {q:Bool} (h:bf p=some q):aA Tryz.prog 72 [eL (cL LD.c) p] (Bo q):=by
 unfold bf at h;obtain ⟨⟨h1,h2⟩,h⟩:=gdD h;obtain rfl:=osl h;refine ⟨by kernel_rfl,fun w fz vs hlt _ hl hrel=>?_⟩;obtain ⟨u,rfl⟩:=II hl;have hs:=xH (f:=Ins.cells) (s:=4) (e:=mR) (fun _=>rfl) (fun _=>rfl) (hrel 0 _ u rfl rfl);refine (sV hs (Nat.le_refl _) (by rw [BD];exact h2)).mono fun e w' ⟨he,hb⟩ => ?_;exact ⟨_,fz,he,hb,.v Z,fun g hg=>hg,fun g hg => .inl hg,fun g hg=>Nat.lt_of_lt_of_le (hlt g hg) hb.size⟩
open Go.RowKit Go.WideShapes Go.ChangeShapes Go.Deep
section
variable {H:Type} {enc:TypeId×Value->H} {P:Program}
theorem Bd {f:Func} {s:ChangeSpec} {apart fresh handsOn again:Bool} {W W':World} {args:Array Value} {v:Value} {ds gs:List (DataW H)} {before pa pv:List MemPlace}
  (hW:DataW.Whole enc P f.params.toList s.vars apart W args.toList ds gs before)
  (hres:∀ (b:Nat) (sp:Nat->Bool) (hd:Bool),DataW.TrodAll enc P W' b sp hd f.resultTypes.toList (v.resultList f.resultTypes.size) (s.fn H (ds++gs)).results [])
  (hargs:∀ sp:Nat->Bool,(∀ p∈before,sp p.block=true)->DataW.TrodAll enc P W' 0 sp true f.params.toList args.toList (s.fn H (ds++gs)).args pa)
  (hvars:∀ sp:Nat->Bool,(∀ p∈before,sp p.block=true)->DataW.TrodVars enc P W' sp s.vars (s.fn H (ds++gs)).vars pv)
  (hps:before=pa++pv) (hb:Below W.heap.size W W')
  (hok:∀ (j:Nat) (t:TypeId) (r:Value),f.resultTypes[j]? = some t->(v.resultList f.resultTypes.size)[j]? = some r->Value.okWide P W' .any 0 t r) :
  s.post enc P f apart fresh handsOn again W args v W':=by
 have hlt:∀ p∈before,p.block<W.heap.size:=fun p hp=>hW.lt p hp;have hold:∀ p∈before,(fun b=>decide (b<W.heap.size)) p.block=true:=fun p hp=>by simpa using hlt p hp
 refine ⟨ds,gs,before,[],pa,pv,hW,hres _ _ _,hargs _ hold,hvars _ hold,World.keptBut_mono (fun p hp=>⟨hp,?_⟩) (hb.frame (· ∈ before)),fun _=>?_⟩
 ·rw [hps,List.mem_append] at hp;exact Or.inr hp
 ·obtain ⟨_,_,_,_,_,hz,hn⟩:=hW;refine ⟨hok,_,_,([]++pa)++pv,⟨[]++pa,pv,trodAll_append (hargs _ (fun _ _=>rfl)) (hres _ _ _),hvars _ (fun _ _=>rfl),rfl,?_,?_⟩,?_⟩
  ·intro b off hp;have hin:MemPlace.cell b off∈before:=by rw [hps];simpa using hp
   rw [hb.frozen (hlt _ hin)];exact hz b off hin
  ·intro ha;have := hn ha;rw [hps] at this;simpa using this
  ·intro p hp _;rw [hps];simpa using hp
theorem vY (hl:laidOutB P=true) {W W':World} (hb:Below W.heap.size W W') {sp:Nat->Bool}:∀ (ts:List TypeId) (vs:List Value) (ds:List (DataW H)) (ps:List MemPlace),
  (∀ t∈ts,P.readableRec t=true/\t<P.types.size)->DataW.TrodAll enc P W 0 (fun _=>true) true ts vs ds ps->(∀ x∈ps,x.block<W.heap.size)->(∀ x∈ps,sp x.block=true) ->
  DataW.TrodAll enc P W' 0 sp true ts vs ds ps
 | [],[],[],_,_,h,_,_=>h
 | t::ts,v::vs,d::ds,ps,hr,⟨p,q,h1,h2,hpq⟩,hlt,hs=>by
  subst hpq;have hp:∀ x∈p,x.block<W.heap.size:=fun x hx=>hlt x (List.mem_append_left _ hx);exact ⟨p,q,WideElems.Trod_stays hl (hr t (by simp)).1 (hr t (by simp)).2 h1 (fun x hx=>hb.same (hp x hx)) (fun x hx=>hs x (List.mem_append_left _ hx)),
   vY hl hb ts vs ds q (fun t ht=>hr t (List.mem_cons_of_mem _ ht)) h2 (fun x hx=>hlt x (List.mem_append_right _ hx)) (fun x hx=>hs x (List.mem_append_right _ hx)),rfl⟩
 | [],_::_,_,_,_,h,_,_=>(by cases h)
 | [],[],_::_,_,_,h,_,_=>(by cases h)
 | _::_,[],_,_,_,h,_,_=>(by cases h)
 | _::_,_::_,[],_,_,h,_,_=>(by cases h)
variable {w:World} {spare:Nat->Bool} {held:Bool}
theorem Ih {α:Type} {f:α->List Value} {s:Nat} {t e:TypeId} (hs:P.cellsOf e=s) (hs0:0<s) (ht:P.underlying t=some (.slice e)) {Good:α->Prop}
  (hel:∀ (fuel:Nat) (cs:List Value) (x:DataW H×List MemPlace),DataW.trod enc P w 0 spare held fuel e cs=some x->∃ a,cs=f a/\Good a) {fuel:Nat} {cs:List Value} {x:DataW H×List MemPlace}
  (h:DataW.trod enc P w 0 spare held fuel t cs=some x):∃ v,cs=[v]/\∃ xs:List α,Sl f s w 0 w.heap.size v xs/\∀ y∈xs,Good y:=by
 rcases open_slice ht h with ⟨rfl,_⟩ | ⟨a,len,cap,m,n,D,Pl,rfl,_,hl,hm,hmm,_,hi⟩
 ·exact ⟨_,rfl,[],Sl.zB _ _ (by omega),fun y hy=>absurd hy (by simp)⟩
 ·refine ⟨_,rfl,?_⟩;have hlm:len<=m:=by rw [hmm];split <;> omega
  have key:∀ i,i<len->∃ y:α,Good y/\∀ (j:Nat) (u:Value),(f y)[j]? = some u->w.cell? ((a.add (i*s)).add j)=some u:=by
   intro i hil;obtain ⟨cs',hc,ht'⟩:=hi i (by omega);obtain ⟨y,rfl,hg⟩:=hel _ _ _ ht';obtain ⟨_,hcl,hat⟩:=World.cells?_some hc;rw [hs] at hat hcl;exact ⟨y,hg,fun j u hu=>by
    have hj:j<s:=by
     have := (ges hu).1;omega
    rw [hat j hj];exact hu⟩
  have key2:∀ i,i<len->∃ cs',w.cells? 0 (a.add (i*s)) s=some cs':=by
   intro i hil;obtain ⟨cs',hc,_⟩:=hi i (by omega);rw [hs] at hc;exact ⟨cs',hc⟩
  clear hi;simp only [maxLen] at hm
  by_cases hn:0<len
  ·obtain ⟨cs0,hc0⟩:=key2 0 hn;obtain ⟨_,hcl,hat⟩:=World.cells?_some hc0;have h00:=hat 0 hs0;rw [geq (by omega)] at h00;have hspot:=World.cell?_spot h00;obtain ⟨b,o,sp⟩:=a;have hsp:sp=none:=by simpa [Addr.add] using hspot
   subst hsp;have hb:b<w.heap.size:=by
    have := World.block_lt_of_cell? w _ h00;simpa [wO] using this
   have hch:∃ F:Nat->α,∀ i,i<len->Good (F i)/\∀ (j:Nat) (u:Value),(f (F i))[j]? = some u->w.cell? (((⟨b,o,none⟩:Addr).add (i*s)).add j)=some u:=by
    obtain ⟨y0,_⟩:=key 0 hn;refine ⟨fun i=>if h:i<len then (key i h).choose else y0,fun i hil=>?_⟩;simp only [dif_pos hil];exact (key i hil).choose_spec
   obtain ⟨F,hF⟩:=hch;refine ⟨(List.range len).map F,⟨_,cap,by simp,by simpa using hl,by omega,fun _=>⟨b,o,rfl,Nat.zero_le _,hb,hb,fun k hk j u hu=>?_⟩⟩,fun y hy=>?_⟩
   ·have hk':k<len:=by simpa using hk
    have := (hF k hk').2 j u (by simpa using hu)
    rwa [wO,wO] at this
   ·rw [List.mem_map] at hy;obtain ⟨i,hi,rfl⟩:=hy;exact (hF i (by simpa using hi)).1
  ·have h0:len=0:=by omega
   subst h0;exact ⟨[],Sl.zB _ _ (by omega),fun y hy=>absurd hy (by simp)⟩
theorem Kq {t:TypeId} {k:IntKind} (ht:P.underlying t=some (.int k)) (fuel:Nat) (cs:List Value) (x:DataW H×List MemPlace) (h:DataW.trod enc P w 0 spare held fuel t cs=some x) :
  ∃ a:Int,cs=[.int k a]/\(Lit.int k a).wf=true:=by
 obtain ⟨n,h1,_,h3⟩:=DataW.trod_int ht h;exact ⟨n,h1,h3⟩
end
theorem one_cell {v u:Value} (h:v.cells.toList=[u]) (hv:∃ a len cap,v = .slice a len cap):v=u:=by
 obtain ⟨a,len,cap,rfl⟩:=hv;simpa [Value.cells] using h
open Go.ChangeShapes Go.WideShapes Go.ChangeAt Go.RowKit Go.Sort
theorem zi {w:World} {blk off g:Nat} {d:Array Int} (h:g≠blk):(putRow (Value.int .i64) w blk off d).heap[g]? = w.heap[g]? := by
 show (w.heap.modify blk _)[g]? = _;rw [Array.getElem?_modify,if_neg (Ne.symm h)]
theorem zk {w:World} {blk off:Nat} {d:Array Int} {cs:Array Value} {t:TypeId} {fr:Nat×Nat} (h:w.heap[blk]? = some (.cells cs t fr)):(putRow (Value.int .i64) w blk off d).heap[blk]? = some (.cells (putCells (Value.int .i64) off d cs) t fr):=by
 show (w.heap.modify blk _)[blk]? = _;rw [Array.getElem?_modify,if_pos rfl,h]
 rfl
theorem qG {off:Nat} {d:Array Int} {cs:Array Value}:(putCells (Value.int .i64) off d cs).size=cs.size:=by simp [putCells]
theorem Be {off:Nat} {d:Array Int} {cs:Array Value} {k:Nat} (h:off+d.size<=cs.size) (hk:k<d.size):(putCells (Value.int .i64) off d cs)[off+k]? = some (.int .i64 d[k]!):=by
 unfold putCells;rw [Array.getElem?_mapIdx,Array.getElem?_eq_getElem (by omega)];simp only [Option.map_some];rw [if_pos (by omega),show off+k-off=k by omega]
theorem Ii {c:Cx} (hr:HRel c) {l q:LI} {ver ver':Nat} (hH:c.H=[some ⟨ver,1,3,l.map cI⟩]) {cs:Array Value} {fr0:Nat×Nat} (hB:BRel c 0 ⟨ver,1,3,l.map cI⟩ cs (some fr0)) {d':Array Int} (hd:d'.size=l.length) (hq:q.length<=d'.size)
  (hqe:∀ i (h:i<q.length),d'[i]! = q[i]) {m:Nat} {os:Array Obj} (hv:(ver'=ver/\q.length=l.length)\/ver<ver') :
  ∃ c',c'.w=grow (putRow (Value.int .i64) (Sort.ahead c.w m) (c.φ 0).1 (c.φ 0).2 d') os/\c'.H=[some ⟨ver',1,3,q.map cI⟩]/\HRel c'/\Ext c c'/\c'.φ 0=c.φ 0/\c'.w.heap[(c.φ 0).1]? = some (.cells (putCells (Value.int .i64) (c.φ 0).2 d' cs) 3 fr0):=by
 have hlv:c.live 0 ⟨ver,1,3,l.map cI⟩:=by
  unfold Cx.live;rw [hH]
  rfl
 have hat:c.w.heap[(c.φ 0).1]? = some (.cells cs 3 fr0):=hB.at_;have hblk:(c.φ 0).1<c.w.heap.size:=hr.live_lt hlv;have hfit:(c.φ 0).2+l.length<=cs.size:=by
  have := hB.fits;simpa using this
 have he1:Ext c (c.upd 0 ⟨ver',1,3,q.map cI⟩ ((c.φ 0).1,(c.φ 0).2) (putCells (Value.int .i64) (c.φ 0).2 d' cs)):=Cx.upd_ext hr hlv hB qG (by
  rcases hv with ⟨h1,h2⟩ | h
  ·exact .inl ⟨h1,rfl,by simp [h2],rfl⟩
  ·exact .inr h)
 have hr1:=Cx.upd_rel hr hlv hB (k:=⟨ver',1,3,q.map cI⟩) (o:=(c.φ 0).2) (cs:=putCells (Value.int .i64) (c.φ 0).2 d' cs) qG rfl he1 Nat.one_pos (by rw [qG];simp;omega) (fun i row h=>by
  obtain ⟨x,_,rfl⟩:=by simpa [List.getElem?_map,Option.map_eq_some_iff] using h
  rfl) (fun i row j a h1 h2=>by
  have hi:i<q.length:=by simpa using (ges h1).1
  have hrw:row=cI q[i]:=by
   have := (ges h1).2;rw [<- this];simp
  subst hrw
  match j,h2 with
  | 0,h2=>
   obtain rfl:=osl h2;refine ⟨.int .i64 d'[i]!,?_,rfl,?_⟩
   ·have := Be (off:=(c.φ 0).2) (d:=d') (cs:=cs) (k:=i) (by omega) (by omega);simpa using this
   ·rw [hqe i hi];exact .fr (.v rfl)
  | j+1,h2=>simp [cI] at h2)
 have hbl:Below (c.upd 0 ⟨ver',1,3,q.map cI⟩ ((c.φ 0).1,(c.φ 0).2) (putCells (Value.int .i64) (c.φ 0).2 d' cs)).w.heap.size (c.upd 0 ⟨ver',1,3,q.map cI⟩ ((c.φ 0).1,(c.φ 0).2) (putCells (Value.int .i64) (c.φ 0).2 d' cs)).w (grow (putRow (Value.int .i64) (Sort.ahead c.w m) (c.φ 0).1 (c.φ 0).2 d') os):=by
  have hz:(c.upd 0 ⟨ver',1,3,q.map cI⟩ ((c.φ 0).1,(c.φ 0).2) (putCells (Value.int .i64) (c.φ 0).2 d' cs)).w.heap.size=c.w.heap.size:=by simp [Cx.upd]
  have hs:(putRow (Value.int .i64) (Sort.ahead c.w m) (c.φ 0).1 (c.φ 0).2 d').heap.size=c.w.heap.size:=by rw [size_putRow];rfl
  refine ⟨rfl,rfl,rfl,?_,fun g hg=>?_⟩
  ·rw [hz];show _<=((putRow (Value.int .i64) (Sort.ahead c.w m) (c.φ 0).1 (c.φ 0).2 d').heap++os).size;rw [Array.size_append,hs];omega
  ·rw [hz] at hg;show ((putRow (Value.int .i64) (Sort.ahead c.w m) (c.φ 0).1 (c.φ 0).2 d').heap++os)[g]? = (c.w.setRow (c.φ 0).1 (putCells (Value.int .i64) (c.φ 0).2 d' cs)).heap[g]?;rw [Array.getElem?_append_left (by rw [hs];exact hg)]
   by_cases e:g=(c.φ 0).1
   ·subst e;rw [zk (w:=Sort.ahead c.w m) hat,setRow_heap _ _ _ _ _ _ hat]
   ·rw [zi e,setRow_other _ _ _ _ e]
    rfl
 obtain ⟨g1,g2⟩:=yM hr1 hbl (fz':=fun _=>False) (fun _ h=>h.elim) (fun _ h=>h.elim) (fun _ _ _ h=>h);refine ⟨_,rfl,?_,g1,he1.trans g2,?_,?_⟩
 ·show c.H.set 0 _=_;rw [hH]
  rfl
 ·rfl
 ·have hz:(c.upd 0 ⟨ver',1,3,q.map cI⟩ ((c.φ 0).1,(c.φ 0).2) (putCells (Value.int .i64) (c.φ 0).2 d' cs)).w.heap.size=c.w.heap.size:=by simp [Cx.upd]
  have := hbl.block (c.φ 0).1 (by rw [hz];exact hblk);refine this.trans ?_;show (c.w.setRow (c.φ 0).1 (putCells (Value.int .i64) (c.φ 0).2 d' cs)).heap[_]? = _;exact setRow_heap _ _ _ _ _ _ hat
theorem Ij {c:Cx} (hr:HRel c) {l:LI} {ver:Nat} (hH:c.H=[some ⟨ver,1,3,l.map cI⟩]) {u:Value} (hu:c.rel (.hs 0 ver 1 0 l.length) u) (hn:0<l.length) :
  ∃ cs fr0 cap,BRel c 0 ⟨ver,1,3,l.map cI⟩ cs (some fr0)/\u = .slice (some ⟨(c.φ 0).1,(c.φ 0).2,none⟩) l.length cap/\l.length<=cap/\cap<=9223372036854775807/\(c.φ 0).2+cap<=cs.size/\Holds (Value.int .i64) c.w (c.φ 0).1 (c.φ 0).2 l.toArray/\(c.φ 0).1<c.w.heap.size:=by
 have hlv:c.live 0 ⟨ver,1,3,l.map cI⟩:=by
  unfold Cx.live;rw [hH]
  rfl
 obtain ⟨cs,fr0,hB⟩:=hr.blk 0 _ hlv
 cases hu with
 | fr h=>cases h
 | @hs _ _ _ _ _ cap A hb hc hm h0 h=>
 obtain ⟨f,rfl,hat,hhd⟩:=hB.cells hlv (fun x hx=>(h x hx).1);obtain ⟨_,_,h3,h4⟩:=h _ hhd;have hA:=h3 (by omega);simp only [Nat.zero_mul,Nat.add_zero,Nat.mul_one] at hA h4;refine ⟨cs,f,cap,hB,by rw [hA],hc,hm,h4,fun j hj=>?_,hr.live_lt hlv⟩;have hj:j<l.length:=by simpa using hj
 have hj2:(c.φ 0).2+j<cs.size:=by omega
 obtain ⟨u,g1,g2,g3⟩:=hB.rel j (cI l[j]) 0 (I l[j]) (by simp [hj]) rfl;refine ⟨?_,?_⟩
 ·simp only [World.cell?,hat];have := gT g3;simp only [Nat.mul_one,Nat.add_zero] at g1;rw [g1];obtain ⟨rfl,_⟩:=this;simp [hj]
 ·have := hB.free f rfl _ hj2;obtain ⟨lo,hi'⟩:=f;simp only [World.frozen?,hat,Bool.and_eq_false_iff,decide_eq_false_iff_not];simp only at this;omega
open Go.Shelf Go.RowKit Go.Lib Go.Sort

open Go.ChangeShapes Go.WideShapes Go.ChangeAt Go.RowKit Go.Shelf Go.Sort

def Kr:Go.Shelf.Ren:=⟨fun | 5=>57 | 8=>119 | 7=>118 | 19=>183 | 20=>184 | 10=>174 | 11=>175 | 12=>176 | 13=>177 | 14=>178 | 15=>179 | 16=>180 | 17=>181 | 18=>182 | 30=>231 | 31=>232 | 32=>233 | 33=>234 | 34=>235 | 35=>236 | 40=>268 | n=>n,fun | 23=>24 | 25=>3 | 3=>3 | 32=>155 | 22=>24 | 0=>0 | 44=>208 | 46=>210 | 4=>4 | 36=>203 | 35=>202 | 41=>39 | 5=>5 | 9=>9 | 53=>246 | 57=>250 | 63=>269 | 64=>270 | n=>n,fun | n=>n⟩
theorem IJ:Go.Proofs.SlLaysM.n5 Tryz.prog Kr where
 mixed:=by kernel_rfl
 f5 := ⟨"slices.Sort[[]int,int]",by decide,Tryz.func57.trans (congrArg some (by kernel_rfl))⟩
 f7 := ⟨"slices.pdqsortOrdered[int]",by decide,Tryz.func118.trans (congrArg some (by kernel_rfl))⟩
 f8:=Tryz.func119.trans (congrArg some (by kernel_rfl))
 f10 := ⟨"slices.insertionSortOrdered[int]",by decide,Tryz.func174.trans (congrArg some (by kernel_rfl))⟩
 f11 := ⟨"slices.heapSortOrdered[int]",by decide,Tryz.func175.trans (congrArg some (by kernel_rfl))⟩
 f12 := ⟨"slices.breakPatternsOrdered[int]",by decide,Tryz.func176.trans (congrArg some (by kernel_rfl))⟩
 f13 := ⟨"slices.choosePivotOrdered[int]",by decide,Tryz.func177.trans (congrArg some (by kernel_rfl))⟩
 f14 := ⟨"slices.reverseRangeOrdered[int]",by decide,Tryz.func178.trans (congrArg some (by kernel_rfl))⟩
 f15 := ⟨"slices.partialInsertionSortOrdered[int]",by decide,Tryz.func179.trans (congrArg some (by kernel_rfl))⟩
 f16 := ⟨"cmp.Less[int]",by decide,Tryz.func180.trans (congrArg some (by kernel_rfl))⟩
 f17 := ⟨"slices.partitionEqualOrdered[int]",by decide,Tryz.func181.trans (congrArg some (by kernel_rfl))⟩
 f18 := ⟨"slices.partitionOrdered[int]",by decide,Tryz.func182.trans (congrArg some (by kernel_rfl))⟩
 f19:=Tryz.func183.trans (congrArg some (by kernel_rfl))
 f20:=Tryz.func184.trans (congrArg some (by kernel_rfl))
 f30 := ⟨"slices.siftDownOrdered[int]",by decide,Tryz.func231.trans (congrArg some (by kernel_rfl))⟩
 f31:=Tryz.func232.trans (congrArg some (by kernel_rfl))
 f32:=Tryz.func233.trans (congrArg some (by kernel_rfl))
 f33 := ⟨"slices.medianAdjacentOrdered[int]",by decide,Tryz.func234.trans (congrArg some (by kernel_rfl))⟩
 f34 := ⟨"slices.medianOrdered[int]",by decide,Tryz.func235.trans (congrArg some (by kernel_rfl))⟩
 f35 := ⟨"cmp.isNaN[int]",by decide,Tryz.func236.trans (congrArg some (by kernel_rfl))⟩
 f40 := ⟨"slices.order2Ordered[int]",by decide,Tryz.func268.trans (congrArg some (by kernel_rfl))⟩
 t0:=Tryz.underlying0
 a0:=Tryz.isAgg0
 z0:=Tryz.sizeOf0
 v0:=Tryz.zeroValue0
 t3:=Tryz.underlying3
 a3:=Tryz.isAgg3
 z3:=Tryz.sizeOf3
 v3:=Tryz.zeroValue3
 t4:=Tryz.underlying4
 a4:=Tryz.isAgg4
 z4:=Tryz.sizeOf4
 v4:=Tryz.zeroValue4
 t5:=Tryz.underlying5
 a5:=Tryz.isAgg5
 z5:=Tryz.sizeOf5
 v5:=Tryz.zeroValue5
 t9:=Tryz.underlying9
 a9:=Tryz.isAgg9
 z9:=Tryz.sizeOf9
 v9:=Tryz.zeroValue9
 t22:=Tryz.underlying24
 a22:=Tryz.isAgg24
 z22:=Tryz.sizeOf24
 v22:=Tryz.zeroValue24
 t23:=Tryz.underlying24
 a23:=Tryz.isAgg24
 z23:=Tryz.sizeOf24
 v23:=Tryz.zeroValue24
 t25:=Tryz.underlying3
 a25:=Tryz.isAgg3
 z25:=Tryz.sizeOf3
 v25:=Tryz.zeroValue3
 t32:=Tryz.underlying155
 a32:=Tryz.isAgg155
 z32:=Tryz.sizeOf155
 v32:=Tryz.zeroValue155
 t35:=Tryz.underlying202
 a35:=Tryz.isAgg202
 z35:=Tryz.sizeOf202
 v35:=Tryz.zeroValue202
 t36:=Tryz.underlying203
 a36:=Tryz.isAgg203
 z36:=Tryz.sizeOf203
 v36:=Tryz.zeroValue203
 t41:=Tryz.underlying39
 a41:=Tryz.isAgg39
 z41:=Tryz.sizeOf39
 v41:=Tryz.zeroValue39
 t44:=Tryz.underlying208
 a44:=Tryz.isAgg208
 z44:=Tryz.sizeOf208
 v44:=Tryz.zeroValue208
 t46:=Tryz.underlying210
 a46:=Tryz.isAgg210
 z46:=Tryz.sizeOf210
 v46:=Tryz.zeroValue210
 t53:=Tryz.underlying246
 a53:=Tryz.isAgg246
 z53:=Tryz.sizeOf246
 v53:=Tryz.zeroValue246
 t57:=Tryz.underlying250
 a57:=Tryz.isAgg250
 z57:=Tryz.sizeOf250
 v57:=Tryz.zeroValue250
 t63:=Tryz.underlying269
 a63:=Tryz.isAgg269
 z63:=Tryz.sizeOf269
 v63:=Tryz.zeroValue269
 t64:=Tryz.underlying270
 a64:=Tryz.isAgg270
 z64:=Tryz.sizeOf270
 v64:=Tryz.zeroValue270
theorem zm (l:LI) (g:Bool) (ver:Nat) (hg:g=true->l=[]) {q:LI} (h:oF l=some q) :
  dw Tryz.prog 57 [hS g 0 ver 1 l.length] [bE g ver 1 3 (l.map cI)] (.tup []) [bE g ver 1 3 (q.map cI)]:=by
 obtain ⟨hl,h⟩:=gdD h;obtain rfl:=osl h;refine ⟨by kernel_rfl,fun c vs hH hr hall=>?_⟩;obtain ⟨hsz,hrel⟩:=hall;obtain ⟨u,rfl⟩:∃ u,vs = #[u]:=by
  match vs,hsz with
  | ⟨[u]⟩,_=>exact ⟨u,rfl⟩
 have hu:=hrel 0 _ u rfl rfl
 by_cases hn:0<l.length
 ·obtain rfl:g=false:=by
   cases g with
   | false=>rfl
   | true=>
    rw [hg rfl] at hn;exact absurd hn (by simp)
  have hH:c.H=[some ⟨ver,1,3,l.map cI⟩]:=hH;obtain ⟨cs,fr0,cap,hB,rfl,hc,hm,hcs,hHo,hblk⟩:=Ij hr hH hu hn;have hcon:=AnyM.slices_Sort_int IJ (c.φ 0).1 (c.φ 0).2 cap l c.w hHo hblk hl;refine (show Calls Tryz.prog 57 _ _ _ from hcon).mono ?_;rintro e w' ⟨rfl,m,os,rfl⟩;have hll:(Hm l).length=l.length:=(pE l).length_eq;obtain ⟨c',w1,w2,w3,w4,w5,w6⟩:=Ii hr hH hB (q:=Hm l) (ver':=ver) (d':=(Hm l).toArray) (by simpa using hll) (by simp) (fun k hk=>by
   rw [getElem!_pos _ k (by simpa using hk)];simp) (m:=m) (os:=os) (.inl ⟨rfl,hll⟩)
  exact ⟨_,c',Z,w1,w2,w3,w4,.tup Z (fun i x y hx=>by simp at hx)⟩
 ·obtain rfl:l=[]:=List.eq_nil_of_length_eq_zero (by omega);obtain ⟨A,cap,rfl⟩:∃ A cap,u = .slice A 0 cap:=by
   cases g with
   | true=>
    cases hu with
    | fr h=>cases h;exact ⟨_,_,rfl⟩
   | false=>
    obtain ⟨A,cap,h6,_⟩:=o9 hu;exact ⟨A,cap,h6⟩
  refine (show Calls Tryz.prog 57 _ _ _ from AnyM.slices_Sort_int_none IJ A cap c.w).mono ?_;rintro e w' ⟨rfl,rfl⟩;refine ⟨_,c,Z,Z,?_,hr,Ext.refl c,.tup Z (fun i x y hx=>by simp at hx)⟩;rw [hH,(pE []).eq_nil]

def Rd1 (w:World) (fz:Nat->Prop):Type:={ p:Value×LI // p.1.oneCell'=true/\FRel w fz (eL cI p.2) p.1 }
theorem GF (w:World) (fz:Nat->Prop):FRel w fz (eL cI ([]:LI)) (.slice none 0 0):=
 .sl (s:=1) (g:=0) (o:=0) (fun _ _ => .bool false) (Nat.le_refl _) (by decide) (fun h=>absurd h (by simp)) (fun i h=>absurd h (by simp)) (fun i j a h=>absurd h (by simp)) (fun i j a h=>absurd h (by simp)) (fun i j a h=>absurd h (by simp))
instance {w:World} {fz:Nat->Prop}:Inhabited (Rd1 w fz):=⟨⟨(.slice none 0 0,[]),rfl,GF w fz⟩⟩
end
end Go.Proofs.YtcmimhffgmckjaaGreatDoor
