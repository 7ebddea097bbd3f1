/- Texts joined. No conditions. -/
import Derived.Test.YtpkhamajimidnaaGreatDoorProg
import Derived.Shelf.Strings.OnBuilder
import Derived.OpenShut
import Derived.BigRegion
import Derived.Sort.Row
import Derived.Sort.Grow
import Derived.Shelf.Slices.Delete
import Derived.Shelf.SortM.Plain
import Derived.Shelf.SortM.SortNone
import Derived.Test.YtpkhamajimidnaaGreatDoorV9
namespace Go.Proofs.YtpkhamajimidnaaGreatDoor
noncomputable section
open _root_.List renaming range -> Px, all_eq_true -> PD, mem_range -> PE, getElem_of_mem -> PF, ext_getElem? -> PH, map_cons -> PI, map_nil -> PK, length_take -> PM, getElem?_map -> PO, drop_zero -> PP, take_succ_cons -> PQ, take_zero -> PR, drop_succ_cons -> PT, mem_append_left -> PZ, take_of_length_le -> P5, eq_nil_of_length_eq_zero -> P8
open _root_.ByteArray renaming size_append -> Py, data_append -> PL
open _root_.Option renaming bind -> Pz
open _root_.Nat renaming le_refl -> PG, le_trans -> PN, lt_of_lt_of_le -> PY, mul_le_mul_right -> P6
open _root_.List.cons renaming injEq -> PU
open _root_.Array renaming getElem?_eq_some_iff -> PX, getElem?_modify -> P9
open Go.RowKit
set_option maxRecDepth 100000
def eB (from_:Int) (n:Int):Option ByteArray:=
 gd (KC .u8 n) <|
 gd (KC .u8 (from_+n)) <|
 some (strOfNums ([(from_+n)]:LI))
theorem ni (from_:Int) (n:Int):Le (eB from_ n) (cA from_ n):=by
 unfold eB cA
 solve_by_elim (maxDepth:=9999) only [*,Le.gd,Le.bif,Le.bind,Le.sumK,Le.loop,Le.nilK,Le.ifc,Le.refl]
def mo (x:KE):Option ByteArray:=
 Pz (eB (120:Int) x.Loc) fun v1=>
 Pz (eB (97:Int) x.Reg) fun v2=>
 bif (x.Op==(1:Int)) then
  gd (decide (v2.size+(⟨#[61]⟩:ByteArray).size<=9223372036854775807)) <|
  gd (decide ((v2++(⟨#[61]⟩:ByteArray)).size+v1.size<=9223372036854775807)) <|
  some ((v2++(⟨#[61]⟩:ByteArray))++v1)
 else
  bif (x.Op==(2:Int)) then
   gd (decide (v1.size+(⟨#[61]⟩:ByteArray).size<=9223372036854775807)) <|
   Pz (dA x.Val) fun v8=>
   gd (decide ((v1++(⟨#[61]⟩:ByteArray)).size+v8.size<=9223372036854775807)) <|
   some ((v1++(⟨#[61]⟩:ByteArray))++v8)
  else
   bif (x.Op==(3:Int)) then
    gd (decide (v1.size+(⟨#[61]⟩:ByteArray).size<=9223372036854775807)) <|
    gd (decide ((v1++(⟨#[61]⟩:ByteArray)).size+v2.size<=9223372036854775807)) <|
    some ((v1++(⟨#[61]⟩:ByteArray))++v2)
   else
    bif (x.Op==(5:Int)) then
     gd (decide (v2.size+(⟨#[61]⟩:ByteArray).size<=9223372036854775807)) <|
     gd (decide ((v2++(⟨#[61]⟩:ByteArray)).size+v1.size<=9223372036854775807)) <|
     gd (decide (((v2++(⟨#[61]⟩:ByteArray))++v1).size+(⟨#[58]⟩:ByteArray).size<=9223372036854775807)) <|
     Pz (dA x.Val) fun v17=>
     gd (decide ((((v2++(⟨#[61]⟩:ByteArray))++v1)++(⟨#[58]⟩:ByteArray)).size+v17.size<=9223372036854775807)) <|
     some ((((v2++(⟨#[61]⟩:ByteArray))++v1)++(⟨#[58]⟩:ByteArray))++v17)
    else
     some (⟨#[102,101,110,99,101]⟩:ByteArray)
theorem uL (x:KE):Le (mo x) (jq x):=by
 unfold mo jq
 solve_by_elim (maxDepth:=9999) only [*,ni,lL,Le.gd,Le.bif,Le.bind,Le.sumK,Le.loop,Le.nilK,Le.ifc,Le.refl]
def Hd (s d:ByteArray):Bool:=
 decide (d.size+(⟨#[58]⟩:ByteArray).size<=9223372036854775807)&&(decide ((d++(⟨#[58]⟩:ByteArray)).size+s.size<=9223372036854775807)&&decide (((d++(⟨#[58]⟩:ByteArray))++s).size<=200))
def J3 (x:KE) (t:Nat):Bool:=match fu x with
 | none=>false
 | some s=>match mo x with
  | none=>false
  | some s'=>match bO (t:Int) with
   | none=>false
   | some d=>match dA (t:Int) with
    | none=>false
    | some d'=>decide (s=s')&&(decide (d=d')&&Hd s d)
theorem He:((Px 5).all fun a=>(Px 3).all fun b=>(Px 3).all fun c=>(Px 4).all fun d=>(Px 3).all fun t => !fU ⟨(a:Int)+1,b,c,d⟩||J3 ⟨(a:Int)+1,b,c,d⟩ t)=true:=by decide +kernel
theorem Em {x:KE} (h:fU (ia x)=true):∃ a b c d:Nat,a<5/\b<3/\c<3/\d<4/\x=⟨(a:Int)+1,b,c,d⟩:=by
 obtain ⟨o,l,r,v⟩:=x;have hb:(1<=o/\o<=5)/\(0<=l/\l<=2)/\(0<=r/\r<=2)/\0<=v/\v<=3:=by
  unfold fU ia at h;simp only [inB] at h
  split at h
  ·simp only [bae,dte,beq_iff_eq] at h;omega
  split at h
  ·simp only [bae,dte,beq_iff_eq] at h;omega
  split at h
  ·simp only [bae,dte,beq_iff_eq] at h;omega
  split at h
  ·simp only [bae,dte] at h;omega
  cases h
 refine ⟨(o-1).toNat,l.toNat,r.toNat,v.toNat,by omega,by omega,by omega,by omega,?_⟩;rw [show (((o-1).toNat:Nat):Int)+1=o by omega,show ((l.toNat:Nat):Int)=l by omega,show ((r.toNat:Nat):Int)=r by omega,show ((v.toNat:Nat):Int)=v by omega]
theorem JI {x:KE} (h:fU (ia x)=true) {t:Nat} (ht:t<3):∃ d s,bO (t:Int)=some d/\df (t:Int)=some d/\fu x=some s/\jq x=some s/\Hd s d=true:=by
 obtain ⟨a,b,c,e,h1,h2,h3,h4,rfl⟩:=Em h;have hall:=He;simp only [PD,PE] at hall;have hc:=hall a h1 b h2 c h3 e h4 t ht;rw [show fU ⟨(a:Int)+1,b,c,e⟩=true from h] at hc;simp only [Bool.not_true,Bool.false_or] at hc;unfold J3 at hc
 cases e1:fu ⟨(a:Int)+1,b,c,e⟩ with
 | none=>rw [e1] at hc;cases hc
 | some s=>
  cases e2:mo ⟨(a:Int)+1,b,c,e⟩ with
  | none=>rw [e1,e2] at hc;cases hc
  | some s'=>
   cases e4:bO (t:Int) with
   | none=>rw [e1,e2,e4] at hc;cases hc
   | some d=>
    cases e5:dA (t:Int) with
    | none=>rw [e1,e2,e4,e5] at hc;cases hc
    | some d'=>
     rw [e1,e2,e4,e5] at hc;simp only [bae,dte] at hc;obtain ⟨rfl,rfl,h6⟩:=hc;exact ⟨d,s,rfl,lL _ _ e5,rfl,uL _ _ e2,h6⟩
def En (l:Nat):Bool:=match eB 120 (l:Int) with
 | none=>false
 | some v=>decide ((⟨#[102,105,114,115,116,32]⟩:ByteArray).size+v.size<=200)&&decide (v=(⟨#[120,121,122]⟩:ByteArray).extract l (l+1))
theorem Eo:((Px 3).all En)=true:=by decide +kernel
theorem JJ {l:Nat} (h:l<3):∃ v,cA 120 (l:Int)=some v/\(⟨#[102,105,114,115,116,32]⟩:ByteArray).size+v.size<=200/\v=(⟨#[120,121,122]⟩:ByteArray).extract l (l+1):=by
 have hall:=PD.1 Eo l (PE.2 h);unfold En at hall
 cases e1:eB 120 (l:Int) with
 | none=>rw [e1] at hall;cases hall
 | some v=>
  rw [e1] at hall;simp only [bae,dte] at hall;exact ⟨v,ni _ _ _ e1,hall⟩
section
variable {p:List (List KE)} {x:XS} {F:LI}
theorem Fw (hv:da (toI p)=true) {i:Nat} (hi:i<(evs p).length):∃ s,cW p (ev p (i:Int))=some s/\dY p (ev p (i:Int))=some s/\s.size<=200:=by
 have hp:=PV.of hv;have hloc:=uD hp (n:=(i:Int)) (by omega) (by omega)
 by_cases h0:(ev p (i:Int)).Thread<0
 ·obtain ⟨v,e1,e2,e3⟩:=JJ (l:=(ev p (i:Int)).Loc.toNat) (by omega);have hll:(((ev p (i:Int)).Loc.toNat:Nat):Int)=(ev p (i:Int)).Loc:=by omega
  rw [hll] at e1;have e5:((ev p (i:Int)).Loc+1).toNat=(ev p (i:Int)).Loc.toNat+1:=by omega
  refine ⟨(⟨#[102,105,114,115,116,32]⟩:ByteArray)++v,?_,?_,by rw [Py];exact e2⟩
  ·refine KI.eq ?_;unfold cW;refine .bifD (fun _=>?_) fun hn=>absurd h0 hn;rw [e5,<- e3];exact .gdI (by omega) (.gdD ⟨by omega,by omega,by show (ev p (i:Int)).Loc+1<=3;omega⟩ (.gdD (by omega) (.pure rfl)))
  refine KI.eq ?_;unfold dY;refine .bifD (fun _=>?_) fun hn=>absurd h0 hn;exact (KI.of (P:=(· = v)) e1 rfl).bind fun u hu=>by subst hu;exact .gdD (by omega) (.pure rfl)
 obtain ⟨t,k,hI,e,ht,hk⟩:=uF hp (n:=(i:Int)) (by omega) (by omega) h0;have ht3:t<3:=by have := hI.t;have := hp.vs.1;omega
 have hx:fU (ia ((p.getD t default).getD k default))=true:=(Vs.of hv).2 t k hI.t hI.k;obtain ⟨d,b,a1,a2,a3,a4,a6⟩:=JI hx ht3;have hIt:=hI.t;have hIk:=hI.k;simp only [Hd,bae,dte] at a6;obtain ⟨c1,c2,c3⟩:=a6;have f1:(ev p (i:Int)).Thread.toNat=t:=by omega
 have f2:(ev p (i:Int)).Index.toNat=k:=by omega
 refine ⟨(d++(⟨#[58]⟩:ByteArray))++b,?_,?_,c3⟩
 ·refine KI.eq ?_;unfold cW;refine .bifD (fun hn=>absurd hn h0) fun _=>?_;rw [f1,f2,ht];refine (KI.of (P:=(· = d)) a1 rfl).bind fun u hu=>?_;subst hu;refine .gdD c1 (.gdD ⟨by omega,by omega⟩ (.gdD ⟨by omega,by omega⟩ ((KI.of (P:=(· = b)) a3 rfl).bind fun w hw=>?_)));subst hw;exact .gdD c2 (.pure rfl)
 refine KI.eq ?_;unfold dY;refine .bifD (fun hn=>absurd hn h0) fun _=>?_;rw [f1,f2,ht];refine (KI.of (P:=(· = d)) a2 rfl).bind fun u hu=>?_;subst hu;refine .gdD c1 (.gdD ⟨by omega,by omega⟩ (.gdD ⟨by omega,by omega⟩ ((KI.of (P:=(· = b)) a4 rfl).bind fun w hw=>?_)));subst hw;exact .gdD c2 (.pure rfl)
theorem yg (l:List ByteArray) (s sep:ByteArray):o6 (l++[s]) sep=if l=[] then s else (o6 l sep++sep)++s:=by
 cases l with
 | nil=>
  rw [if_pos rfl];unfold o6;rw [List.nil_append,PI,PK,Lib.join_one]
 | cons x r=>
  rw [if_neg (by simp)];unfold o6;simp only [List.cons_append,PI,List.map_append,PK,Lib.join_cons];have e:Lib.joinTail sep.data.toList (r.map (·.data.toList)++[s.data.toList])=(Lib.joinTail sep.data.toList (r.map (·.data.toList))++sep.data.toList)++s.data.toList:=by simp [Lib.joinTail]
  rw [e];apply ByteArray.ext;rw [PL,PL];simp
theorem yh (l:List ByteArray) (sep:ByteArray) (B:Nat) (h:∀ s∈l,s.size<=B):(o6 l sep).size<=l.length*(B+sep.size):=by
 induction l using Fa with
 | h0=>exact Nat.zero_le _
 | hs l a ih=>
  have h1:=ih fun s hs=>h s (PZ _ hs);have h2:=h a (by simp);rw [yg,lla,List.length_singleton,Nat.add_mul]
  split
  ·omega
  rw [Py,Py];omega
def TxS (p:List (List KE)) (l:LI) (ts:List ByteArray):Prop:=ts.length=l.length/\∀ j:Nat,j<l.length->cW p (ev p (l.getD j default))=some (ts.getD j default)/\dY p (ev p (l.getD j default))=some (ts.getD j default)/\(ts.getD j default).size<=200
theorem Gb (hv:da (toI p)=true):∀ l:LI,(∀ j∈l,0<=j/\j<((evs p).length:Int))->∃ ts,TxS p l ts
 | [],_=>⟨[],rfl,fun j hj=>absurd hj (Nat.not_lt_zero _)⟩
 | i::l,h=>by
  obtain ⟨ts,h1,h2⟩:=Gb hv l fun j hj=>h j (List.mem_cons_of_mem _ hj);obtain ⟨i0,i1⟩:=h i List.mem_cons_self;obtain ⟨s,s1,s2,s3⟩:=Fw hv (i:=i.toNat) (by omega);rw [Int.toNat_of_nonneg i0] at s1 s2;refine ⟨s::ts,by rw [llc,llc,h1],fun j hj=>?_⟩
  cases j with
  | zero=>exact ⟨s1,s2,s3⟩
  | succ j=>exact h2 j (by simpa using hj)
theorem TxS.le {l:LI} {ts:List ByteArray} (h:TxS p l ts):∀ s∈ts,s.size<=200:=fun s hs=>by
 obtain ⟨j,hj,rfl⟩:=PF hs;have := (h.2 j (by rw [<- h.1];exact hj)).2.2
 rwa [gdq,geq hj] at this
theorem wV {α:Type} [Inhabited α] {l:List α} {n:Nat} (h:n<l.length):l.take (n+1)=l.take n++[l.getD n default]:=by
 rw [List.take_add_one,geq h,gdq,geq h]
 rfl
theorem Hf {l:LI} {ts:List ByteArray} (h:TxS p l ts) (hl:l.length<=1000) (hr:∀ j∈l,0<=j/\j<((evs p).length:Int)):KI (loopO (fP p (evs p) l) (([]:List ByteArray),(0:Int))) (· = ts):=by
 refine KI.loop (fun z=>∃ n:Nat,n<=l.length/\z=(ts.take n,(n:Int))) (fun z=>((l.length:Int)-z.2).toNat) ⟨0,by omega,rfl⟩ fun z ⟨n,n1,n2⟩ => ?_;subst n2;unfold fP;simp only [tnn];refine .bifD (fun hk=>?_) fun hk => .pure (by rw [P5 (by rw [h.1];omega)]);have hn:n<l.length:=by omega
 obtain ⟨g1,_,_⟩:=h.2 n hn;obtain ⟨r0,r1⟩:=hr _ (pO hn);have e:(evs p).getD (l.getD n default).toNat default=ev p (l.getD n default):=rfl;rw [e];refine .gdD ⟨by omega,hk⟩ (.gdD ⟨r0,r1⟩ ((KI.of (P:=(· = ts.getD n default)) g1 rfl).bind fun v hv => .gd (dx (by rw [PM];omega) rfl) (.gdI (by omega) (.pure ⟨⟨n+1,by omega,?_⟩,by simp only [];omega⟩))));rw [hv,wV (by rw [h.1];exact hn)]
 rfl
theorem Hg (hp:PV p) {l:LI} {ts:List ByteArray} (h:TxS p l ts) (hl:l.length<=1000) (hr:∀ j∈l,0<=j/\j<((evs p).length:Int)):KI (jr p l) (· = o6 ts ⟨#[44,32]⟩):=by
 unfold jr;refine (yE hp.vs).bind fun v1 h1=>?_;subst h1;refine KI.bind (P:=(· = o6 ts ⟨#[44,32]⟩)) ?_ fun v hv => .pure hv;refine KI.loop (fun z=>∃ n:Nat,n<=l.length/\z=((n:Int),o6 (ts.take n) ⟨#[44,32]⟩)) (fun z=>((l.length:Int)-z.1).toNat) ⟨0,by omega,rfl⟩ fun z ⟨n,n1,n2⟩ => ?_;subst n2;unfold m8;simp only [tnn];refine .bifD (fun hk=>?_) fun hk => .pure (by rw [P5 (by rw [h.1];omega)]);have hn:n<l.length:=by omega
 obtain ⟨_,g2,g3⟩:=h.2 n hn;obtain ⟨r0,r1⟩:=hr _ (pO hn);have e:(evs p).getD (l.getD n default).toNat default=ev p (l.getD n default):=rfl;have hsz:=yh (ts.take n) ⟨#[44,32]⟩ 200 fun s hs=>h.le s (List.mem_of_mem_take hs);have hlt:(ts.take n).length<=1000:=by rw [PM];omega
 have h2:(⟨#[44,32]⟩:ByteArray).size=2:=rfl;have hsz2:(o6 (ts.take n) ⟨#[44,32]⟩).size<=1000*202:=PN hsz (by rw [h2];exact P6 _ hlt);rw [e];refine KI.bind (P:=(· = if n=0 then (⟨#[]⟩:ByteArray) else o6 (ts.take n) ⟨#[44,32]⟩++⟨#[44,32]⟩)) (.bifD (fun h0 => .gdD (by omega) (.pure (by rw [if_neg (by omega)]))) fun h0 => .pure (by rw [if_pos (by omega),show n=0 by omega];rfl)) fun w hw=>?_;have hws:w.size<=300000:=by
  rw [hw]
  split
  ·decide
  rw [Py];omega
 refine .gdD ⟨by omega,hk⟩ (.gdD ⟨r0,r1⟩ ((KI.of (P:=(· = ts.getD n default)) g2 rfl).bind fun v hv=>?_));subst hv;refine .gdD (by omega) (.gdI (by omega) (.pure ⟨⟨n+1,by omega,?_⟩,by simp only [];omega⟩));rw [wV (by rw [h.1];exact hn),yg,hw];refine Prod.ext rfl ?_;simp only []
 by_cases h0:n=0
 ·subst h0;rw [if_pos rfl,if_pos (show List.take 0 ts=[] from rfl)];apply ByteArray.ext;rw [PL];simp
 rw [if_neg h0,if_neg];intro e;have := congrArg List.length e;rw [PM,List.length_nil,h.1] at this;omega
theorem Hh:((Px 10).all fun n=>match bO (n:Int) with
  | none=>false
  | some d=>match dA (n:Int) with
   | none=>false
   | some d'=>decide (d=d')&&decide (d.size<=100))=true:=by decide +kernel
theorem dig {n:Nat} (h:n<10):∃ d,bO (n:Int)=some d/\df (n:Int)=some d/\d.size<=100:=by
 have := PD.1 Hh n (PE.2 h)
 cases e4:bO (n:Int) with
 | none=>rw [e4] at this;cases this
 | some d=>
  cases e5:dA (n:Int) with
  | none=>rw [e4,e5] at this;cases this
  | some d'=>
   rw [e4,e5] at this;simp only [bae,dte] at this;obtain ⟨rfl,h2⟩:=this;exact ⟨d,rfl,lL _ _ e5,h2⟩
theorem zQ (hv:da (toI p)=true) (C:Cand p x F) {m:List ae} (hm:vaM m=true):∃ s,dK p ⟨x.1,x.2⟩ m=some s/\dH p ⟨x.1,x.2⟩ m=some s/\s.size<=300000:=by
 have hp:=PV.of hv;have hN:(evs p).length<=16:=PN (IJ hv) (by omega);obtain ⟨V,W,b,k1,k2,_⟩:=Ce hp C;obtain ⟨m1,m2⟩:=I4 hm;have bi:=JD hN (fun nm hn=>JA hp C hn) m1 (by omega);have bs:=JE hN (fun nm hn=>IU hp C hn) m1 (by omega);obtain ⟨⟨k,R⟩,i1,i2,i3⟩:=bi;obtain ⟨k',s1,s2⟩:=bs;obtain rfl:k'=k:=s2.uniq i2;clear s2;simp only at i2 i3;have h5:(⟨#[114,117,108,101,32]⟩:ByteArray).size=5:=rfl;have h2:(⟨#[58,32]⟩:ByteArray).size=2:=rfl
 cases b with
 | false=>
  refine ⟨⟨#[118,97,108,117,101,115]⟩,KI.eq ?_,KI.eq ?_,by decide⟩
  ·unfold dK;exact (KI.of (P:=(· = (V,false))) k1 rfl).bind fun v hv=>by subst hv;exact .bif (fun _ => .pure rfl) fun h=>by cases h
  unfold dH;exact (KI.of (P:=(· = (W,false))) k2 rfl).bind fun v hv=>by subst hv;exact .bif (fun _ => .pure rfl) fun h=>by cases h
 | true=>
  by_cases hk:k'<0
  ·refine ⟨⟨#[97,108,108,111,119,101,100]⟩,KI.eq ?_,KI.eq ?_,by decide⟩
   ·unfold dK;exact (KI.of (P:=(· = (V,true))) k1 rfl).bind fun v hv=>by subst hv;exact .bif (fun h=>by cases h) fun _=>(KI.of (P:=(· = (k',R))) i1 rfl).bind fun w hw=>by subst hw;exact .bifD (fun _ => .pure rfl) fun h=>absurd hk h
   unfold dH;exact (KI.of (P:=(· = (W,true))) k2 rfl).bind fun v hv=>by subst hv;exact .bif (fun h=>by cases h) fun _=>(KI.of (P:=(· = k')) s1 rfl).bind fun w hw=>by subst hw;exact .bifD (fun _ => .pure rfl) fun h=>absurd hk h
  rcases i2 with ⟨e,_⟩ | ⟨i,rfl,hi,_,_⟩
  ·omega
  have i3:=i3 (by omega);rw [tnn] at i3;obtain ⟨d,d1,d2,d3⟩:=dig (n:=i) (by omega);have hd5:((⟨#[114,117,108,101,32]⟩:ByteArray)++d).size<=105:=by rw [Py];omega
  by_cases hkd:(m.getD i default).Kind=1
  ·-- a cycle
   have hcy:=AC (N:=(evs p).length) (f:=uE (nmR p x) (evs p).length (m.getD i default).Expr.inn) (evs p).length (PG _);have fi:=IM hN (f:=uE (nmR p x) (evs p).length (m.getD i default).Expr.inn);have fs:=IP hN (f:=uE (nmR p x) (evs p).length (m.getD i default).Expr.inn);have ev:=F4 hN (fun nm hn=>IU hp C hn) (m1 _ (getD_in hi));rw [<- i3] at fi fs ev;generalize zP (evs p).length (uE (nmR p x) (evs p).length (m.getD i default).Expr.inn) (evs p).length=l at hcy fi fs;have hr:∀ j∈l,0<=j/\j<((evs p).length:Int):=by
    rcases hcy with e | e
    ·subst e;exact fun j hj=>absurd hj (by simp)
    exact e.2.2
   have hl:l.length<=17:=by
    rcases hcy with e | e
    ·subst e;simp
    have := e.2.1;omega
   obtain ⟨ts,ht⟩:=Gb hv l hr;have hsz:=yh ts ⟨#[44,32]⟩ 200 ht.le;have hc2:(⟨#[44,32]⟩:ByteArray).size=2:=rfl;have hsz2:(o6 ts ⟨#[44,32]⟩).size<=17*202:=PN hsz (by rw [hc2,ht.1];exact P6 _ hl);have hd7:(((⟨#[114,117,108,101,32]⟩:ByteArray)++d)++(⟨#[58,32]⟩:ByteArray)).size<=107:=by rw [Py];omega
   refine ⟨(((⟨#[114,117,108,101,32]⟩:ByteArray)++d)++(⟨#[58,32]⟩:ByteArray))++o6 ts ⟨#[44,32]⟩,KI.eq ?_,KI.eq ?_,by rw [Py];omega⟩
   ·unfold dK;refine (KI.of (P:=(· = (V,true))) k1 rfl).bind fun v hv=>?_;subst hv;refine .bif (fun h=>by cases h) fun _=>(KI.of (P:=(· = ((i:Int),R))) i1 rfl).bind fun w hw=>?_;subst hw;refine .bifD (fun h=>absurd h hk) fun _=>(KI.of (P:=(· = d)) d1 rfl).bind fun u hu=>?_;subst hu;refine .gdD (by omega) (.gdD ⟨by simp only [];omega,by simp only [];omega⟩ ?_);simp only [tnn];refine .bif (fun h=>absurd hkd (by simpa using h)) fun _=>(yD hp.vs).bind fun v9 h9=>?_;subst h9;refine KI.bind (P:=(· = ts)) (fi.bind fun v11 h11=>by subst h11;exact Hf ht (by omega) hr) fun s10 h10=>?_;subst h10;refine .gdD (by omega) (KI.bind (P:=(· = o6 s10 ⟨#[44,32]⟩)) (.gdD ⟨by rw [ht.1];omega,by omega⟩ (.pure rfl)) fun v32 h32=>?_);subst h32;exact .gdD (by omega) (.pure rfl)
   unfold dH;refine (KI.of (P:=(· = (W,true))) k2 rfl).bind fun v hv=>?_;subst hv;refine .bif (fun h=>by cases h) fun _=>(KI.of (P:=(· = (i:Int))) s1 rfl).bind fun w hw=>?_;subst hw;refine .bifD (fun h=>absurd h hk) fun _=>(KI.of (P:=(· = d)) d2 rfl).bind fun u hu=>?_;subst hu;refine .gdD (by omega) (KI.bind (P:=(· = (((⟨#[114,117,108,101,32]⟩:ByteArray)++u)++(⟨#[58,32]⟩:ByteArray))++o6 ts ⟨#[44,32]⟩)) (.gdD ⟨by omega,by omega⟩ ?_) fun v hv => .pure hv);simp only [tnn];refine .bif (fun _ => .gdD (by omega) (ev.bind fun v11 h11=>?_)) fun h=>absurd hkd (by simpa using h);subst h11;refine fs.bind fun v12 h12=>?_;subst h12;refine (Hg hp ht (by omega) hr).bind fun v13 h13=>?_;subst h13;exact .gdD (by omega) (.pure rfl)
  refine ⟨(⟨#[114,117,108,101,32]⟩:ByteArray)++d,KI.eq ?_,KI.eq ?_,by omega⟩
  ·unfold dK;refine (KI.of (P:=(· = (V,true))) k1 rfl).bind fun v hv=>?_;subst hv;refine .bif (fun h=>by cases h) fun _=>(KI.of (P:=(· = ((i:Int),R))) i1 rfl).bind fun w hw=>?_;subst hw;refine .bifD (fun h=>absurd h hk) fun _=>(KI.of (P:=(· = d)) d1 rfl).bind fun u hu=>?_;subst hu;refine .gdD (by omega) (.gdD ⟨by simp only [];omega,by simp only [];omega⟩ ?_);simp only [tnn];exact .bif (fun _ => .pure rfl) fun h=>absurd (show (m.getD i default).Kind=1 by simpa using h) hkd
  unfold dH;refine (KI.of (P:=(· = (W,true))) k2 rfl).bind fun v hv=>?_;subst hv;refine .bif (fun h=>by cases h) fun _=>(KI.of (P:=(· = (i:Int))) s1 rfl).bind fun w hw=>?_;subst hw;refine .bifD (fun h=>absurd h hk) fun _=>(KI.of (P:=(· = d)) d2 rfl).bind fun u hu=>?_;subst hu;refine .gdD (by omega) (KI.bind (P:=(· = (⟨#[114,117,108,101,32]⟩:ByteArray)++u)) (.gdD ⟨by omega,by omega⟩ ?_) fun v hv => .pure hv);simp only [tnn];exact .bif (fun h=>absurd (eq_of_beq h) hkd) fun _ => .pure rfl
end
theorem Hk {α:Type} [Inhabited α] (a:List α) (left:Int) (hl:0<=left/\left<=1048576) (ha:(a.length:Int)<=9223372036854775807) {one:α->Int->Option Int} {w:α->Nat} {G:α->Prop}
  (h1:∀ x∈a,∀ l:Int,0<=l->l<=1048576->KI (one x l) fun v=>v<0\/(0<=v/\v+(w x:Int)<=l/\G x)) {step:(Int×Int)->Option ((Int×Int) ⊕ (Int ⊕ Int))}
  (hs:∀ s:Int×Int,step s=bif decide (s.1<(a.length:Int)) then gd (decide (0<=s.1/\s.1<(a.length:Int)))<|Pz (one (a.getD s.1.toNat default) s.2) fun v10=>bif decide (v10<(0:Int)) then some (.inr (.inr (-1:Int))) else gd (KC .i64 (s.1+(1:Int)))<|some (.inl ((s.1+(1:Int)),v10)) else some (.inr (.inl s.2))) :
  KI (gd (KC .i64 (left-(a.length:Int)))<|bif decide ((left-(a.length:Int))<(0:Int)) then some (-1:Int) else sumK (loopO step ((0:Int),(left-(a.length:Int)))) fun s3=>some s3) fun v=>v<0\/(0<=v/\v+(a.length:Int)+((a.map w).sum:Int)<=left/\∀ x∈a,G x):=by
 refine .gdI (by omega) (.bifD (fun h => .pure (.inl (by decide))) fun h=>?_);refine KI.sum (PS:=fun s:Int=>0<=s/\s+(a.length:Int)+((a.map w).sum:Int)<=left/\∀ x∈a,G x) (PW:=fun v:Int=>v<0\/(0<=v/\v+(a.length:Int)+((a.map w).sum:Int)<=left/\∀ x∈a,G x)) ?_ fun s hs => .pure (.inr hs);refine KI.loop (fun s:Int×Int=>∃ n:Nat,n<=a.length/\s.1=(n:Int)/\0<=s.2/\s.2+(a.length:Int)+(((a.take n).map w).sum:Int)<=left/\∀ x∈a.take n,G x) (fun s=>((a.length:Int)-s.1).toNat) ⟨0,by omega,rfl,by simp only [];omega,by simp,fun x hx=>absurd hx (by simp)⟩ fun s ⟨n,n1,n2,n3,n4,n5⟩ => ?_;obtain ⟨s1,s2⟩:=s;simp only at n2 n3 n4;subst n2;rw [hs];simp only [tnn];refine .bifD (fun hk=>?_) fun hk => .pure ?_
 ·have hn:n<a.length:=by omega
  refine .gdD ⟨by omega,hk⟩ ((h1 _ (getD_in hn) s2 n3 (by omega)).bind fun v hv => .bifD (fun h => .pure (.inl (by decide))) fun h => .gdI (by omega) (.pure ⟨⟨n+1,by omega,by simp,?_⟩,by simp only [];omega⟩));rcases hv with hv | ⟨v0,v1,v2⟩
  ·exact absurd hv h
  rw [wV hn,List.map_append,List.sum_append];simp only [PI,PK,List.sum_cons,List.sum_nil];refine ⟨v0,by omega,fun x hx=>?_⟩;rcases List.mem_append.1 hx with hx | hx
  ·exact n5 x hx
  rw [List.mem_singleton.1 hx];exact v2
 have : n=a.length:=by omega
 subst this;rw [List.take_length] at n4 n5;exact ⟨n3,n4,n5⟩
theorem JK (a:List (List aj)) (ha:(a.length:Int)<=9223372036854775807/\∀ r∈a,(r.length:Int)<=9223372036854775807):KI (iq a 1048576) fun v=>v<0\/(0<=v/\v+(a.length:Int)+(total a:Int)<=1048576/\∀ r∈a,True):=by
 unfold iq total;refine Hk (w:=List.length) (G:=fun _=>True) (one:=fZ) a 1048576 (by omega) ha.1 (fun r hr l l0 l1=>(szS r l ⟨l0,l1⟩ (ha.2 r hr)).mono fun v hv=>?_) fun _=>rfl;rcases hv with hv | hv
 ·exact .inl hv.1
 exact .inr ⟨hv.1,by omega,trivial⟩
theorem J4 (a:LI) (left:Int) (hl:0<=left/\left<=1048576) (ha:(a.length:Int)<=9223372036854775807):KI (gB a left) fun v=>v<0\/(0<=v/\v+(a.length:Int)<=left/\True):=by
 unfold gB;exact .gdI (by omega) (.bifD (fun h => .pure (.inl (by decide))) fun h => .pure (.inr ⟨by omega,by omega,trivial⟩))
theorem Kj (a:aB) (left:Int) (hl:0<=left/\left<=1048576) (hf:(a.From.length:Int)<=9223372036854775807) (ha:(a.Order.length:Int)<=9223372036854775807/\∀ r∈a.Order,(r.length:Int)<=9223372036854775807):KI (l5 a left) fun v=>v<0\/(0<=v/\v+(a.From.length:Int)+(a.Order.length:Int)+(total a.Order:Int)<=left):=by
 unfold l5;refine (J4 a.From left hl hf).bind fun v hv => .bifD (fun h => .pure (.inl (by decide))) fun h=>?_;have hv2:0<=v/\v+(a.From.length:Int)<=left:=by omega
 have hSS:KI (kM a.Order v) fun u=>u<0\/(0<=u/\u+(a.Order.length:Int)+(total a.Order:Int)<=v/\∀ r∈a.Order,True):=by
  unfold kM total;exact Hk (w:=List.length) (G:=fun _=>True) (one:=gB) a.Order v (by omega) ha.1 (fun r hr l l0 l1=>J4 r l ⟨l0,l1⟩ (ha.2 r hr)) fun _=>rfl
 refine hSS.bind fun u hu => .bifD (fun h => .pure (.inl (by decide))) fun h => .pure ?_;rcases hu with hu | hu
 ·exact .inl hu
 exact .inr ⟨hu.1,by omega⟩
mutual
def WT:TXlaws_RelExpr->Prop
 | .mk _ nm ks=>(nm.size:Int)<=9223372036854775807/\(ks.length:Int)<=9223372036854775807/\WL ks
def WL:List TXlaws_RelExpr->Prop
 | []=>True
 | t::l=>WT t/\WL l
end
mutual
def ST:TXlaws_RelExpr->Prop
 | .mk _ _ ks=>ks.length<=1048576/\SL ks
def SL:List TXlaws_RelExpr->Prop
 | []=>True
 | t::l=>ST t/\SL l
end
mutual
def szV:TXlaws_RelExpr->Int->Int
 | .mk _ nm ks,left=>if left-(nm.size:Int)<0 then -1 else if left-(nm.size:Int)-(ks.length:Int)<0 then -1 else zT ks (left-(nm.size:Int)-(ks.length:Int))
def zT:List TXlaws_RelExpr->Int->Int
 | [],left=>left
 | t::l,left=>if szV t left<0 then -1 else zT l (szV t left)
end
mutual
theorem Ep:∀ (t:TXlaws_RelExpr) (left:Int),0<=left->left<=1048576->szV t left<0\/(0<=szV t left/\szV t left<=left/\ST t)
 | .mk op nm ks,left,h0,h1=>by
  rw [szV,ST]
  by_cases a:left-(nm.size:Int)<0
  ·rw [if_pos a];exact .inl (by decide)
  rw [if_neg a]
  by_cases b:left-(nm.size:Int)-(ks.length:Int)<0
  ·rw [if_pos b];exact .inl (by decide)
  rw [if_neg b];rcases Er ks (left-(nm.size:Int)-(ks.length:Int)) (by omega) (by omega) with h | ⟨h2,h3,h4⟩
  ·exact .inl h
  exact .inr ⟨h2,by omega,by omega,h4⟩
theorem Er:∀ (l:List TXlaws_RelExpr) (left:Int),0<=left->left<=1048576->zT l left<0\/(0<=zT l left/\zT l left<=left/\SL l)
 | [],left,h0,h1=>by rw [zT,SL];exact .inr ⟨h0,Int.le_refl _,trivial⟩
 | t::l,left,h0,h1=>by
  rw [zT,SL];rcases Ep t left h0 h1 with h | ⟨h2,h3,h4⟩
  ·rw [if_pos h];exact .inl (by decide)
  rw [if_neg (by omega)];rcases Er l (szV t left) h2 (by omega) with h | ⟨h5,h6,h7⟩
  ·exact .inl h
  exact .inr ⟨h5,by omega,h4,h7⟩
end
theorem Bx:∀ (l:List TXlaws_RelExpr) (left:Int),0<=left->zT l left<0->zT l left = -1
 | [],left,h0,h=>by rw [zT] at h;omega
 | t::l,left,h0,h=>by
  rw [zT] at h ⊢
  by_cases a:szV t left<0
  ·rw [if_pos a]
  rw [if_neg a] at h ⊢;exact Bx l _ (by omega) h
mutual
theorem Gc:∀ t:TXlaws_RelExpr,WT t->∃ d,∀ m,d<m->∀ left:Int,0<=left->left<=1048576->KI (bu m t.out left) (· = szV t left)
 | .mk op nm ks,h=>by
  rw [WT] at h;obtain ⟨d,hd⟩:=Es ks h.2.2;refine ⟨d+1,fun m hm left h0 h1=>?_⟩;obtain ⟨m,rfl⟩:∃ q,m=q+1:=⟨m-1,by omega⟩;show KI (fI (bu m) ⟨op,nm,ks⟩ left) _;unfold fI;simp only [];rw [szV];refine .gdI (by omega) (.bifD (fun a => .pure (by rw [if_pos a])) fun a=>?_);rw [if_neg a];refine KI.bind (P:=(· = if left-(nm.size:Int)-(ks.length:Int)<0 then -1 else zT ks (left-(nm.size:Int)-(ks.length:Int)))) ?_ fun v hv => .bifD (fun hn => .pure ?_) fun hn => .pure hv
  ·unfold fD;refine .gdI (by omega) (.bifD (fun b => .pure (by rw [if_pos b])) fun b=>?_);rw [if_neg b];generalize hV:zT ks (left-(nm.size:Int)-(ks.length:Int))=V;refine KI.sum (PS:=(· = V)) (PW:=(· = V)) ?_ fun s hs => .pure hs;refine KI.loop (fun s:Int×Int=>∃ n:Nat,n<=ks.length/\s.1=(n:Int)/\0<=s.2/\s.2<=1048576/\zT (ks.drop n) s.2=V) (fun s=>((ks.length:Int)-s.1).toNat) ⟨0,by omega,rfl,by simp only [];omega,by simp only [];omega,hV⟩ fun s ⟨n,n1,n2,n3,n4,n5⟩ => ?_;obtain ⟨s1,s2⟩:=s;simp only at n2 n3 n4 n5;subst n2;unfold ib;simp only [tnn];refine .bifD (fun hk=>?_) fun hk => .pure ?_
   ·have hn:n<ks.length:=by omega
    have hdr:ks.drop n=ks.getD n default::ks.drop (n+1):=by
     rw [List.drop_eq_getElem_cons hn,gdq,geq hn]
     rfl
    rw [hdr,zT] at n5;refine .gdD ⟨by omega,hk⟩ ((hd _ (getD_in hn) m (by omega) s2 n3 n4).bind fun v hv=>?_);subst hv;refine .bifD (fun hb => .pure ?_) fun hb => .gdI (by omega) (.pure ⟨⟨n+1,by omega,by simp,by simp only [];omega,?_,?_⟩,by simp only [];omega⟩)
    ·rw [if_pos hb] at n5;exact n5
    ·rcases Ep (ks.getD n default) s2 n3 n4 with h | ⟨_,h,_⟩
     ·exact absurd h hb
     simp only [];omega
    rw [if_neg hb] at n5;exact n5
   rw [show n=ks.length by omega,List.drop_length,zT] at n5;exact n5
  show (-1:Int)=_;rw [hv] at hn
  split at hn
  ·rename_i b;rw [if_pos b]
  rename_i b;rw [if_neg b];exact (Bx ks _ (by omega) hn).symm
theorem Es:∀ l:List TXlaws_RelExpr,WL l->∃ d,∀ t∈l,∀ m,d<m->∀ left:Int,0<=left->left<=1048576->KI (bu m t.out left) (· = szV t left)
 | [],_=>⟨0,fun t h=>by cases h⟩
 | t::l,h=>by
  rw [WL] at h;obtain ⟨d1,h1⟩:=Gc t h.1;obtain ⟨d2,h2⟩:=Es l h.2;refine ⟨max d1 d2,fun u hu=>?_⟩;rcases List.mem_cons.1 hu with rfl | hu
  ·exact fun m hm=>h1 m (by omega)
  exact fun m hm=>h2 u hu m (by omega)
end
theorem JL {t:TXlaws_RelExpr} (h:WT t) {left:Int} (h0:0<=left) (h1:left<=1048576):KI (lD t.out left) (· = szV t left):=by
 obtain ⟨d,hd⟩:=Gc t h;exact mh d fun m hm=>hd m hm left h0 h1
theorem Hl (a:List au) (left:Int) (hl:0<=left/\left<=1048576) (ha:(a.length:Int)<=9223372036854775807) (hw:∀ r∈a,WT r.Expr.inn):KI (kN a left) fun v=>v<0\/(a.length<=1048576/\∀ r∈a,ST r.Expr.inn):=by
 unfold kN;refine (Hk (w:=fun _=>0) (G:=fun r:au=>ST r.Expr.inn) (one:=l6) a left hl ha (fun r hr l l0 l1=>?_) fun _=>rfl).mono fun v hv=>hv.imp id fun ⟨g1,g2,g3⟩=>⟨by omega,g3⟩;unfold l6;refine (JL (hw r hr) l0 l1).bind fun v hv=>?_;subst hv;refine .bifD (fun _ => .pure (.inl (by decide))) fun h => .pure ?_;rcases Ep r.Expr.inn l l0 l1 with g | ⟨g1,g2,g3⟩
 ·exact absurd g h
 exact .inr ⟨g1,by omega,g3⟩
mutual
def cvT:TXlaws_RelExpr->TXimpl_RelExpr
 | .mk op nm ks => .mk op nm (cvL ks)
def cvL:List TXlaws_RelExpr->List TXimpl_RelExpr
 | []=>[]
 | t::l=>cvT t::cvL l
end
theorem yS:∀ l:List TXlaws_RelExpr,cvL l=l.map cvT
 | []=>by rw [cvL];rfl
 | t::l=>by rw [cvL,yS l];rfl
theorem Fx (t:TXimpl_RelExpr):t.out.inn=t:=by cases t;rfl
mutual
theorem Et:∀ t:TXlaws_RelExpr,ST t->∃ d,∀ m,d<m->KI (bv m t.out) (· = (cvT t).out)/\KI (bA m (cvT t).out (cvT t).out) (· = true)
 | .mk op nm ks,h=>by
  rw [ST] at h;obtain ⟨d,hd⟩:=Eu ks h.2;refine ⟨d+1,fun m hm=>?_⟩;obtain ⟨m,rfl⟩:∃ q,m=q+1:=⟨m-1,by omega⟩;rw [cvT];refine ⟨?_,?_⟩
  ·show KI (fK (bv m) ⟨op,nm,ks⟩) _;unfold fK;simp only [];refine KI.bind (P:=(· = cvL ks)) ?_ fun v hv => .pure (by rw [hv];rfl);unfold fE;refine .gdD (by omega) (KI.bind (P:=(· = ks.map fun k=>(cvT k).out)) (tP (by simp) (fun s h1 h2 h3=>?_) fun s hs=>?_) fun v hv => .pure ?_)
   ·unfold bL;refine .bifD (fun _ => .gdD ⟨h1,h2⟩ ((hd _ (og h1 h2) m (by omega)).1.bind fun v hv => .gdD ⟨h1,by omega⟩ (.gdI (by omega) (.pure (by rw [hv]))))) fun h=>absurd h2 h
   ·unfold bL;rw [decide_eq_false hs]
    rfl
   rw [hv,yS,List.map_map];exact List.map_congr_left fun k _=>Fx _
  show KI (fQ (bA m) ⟨op,nm,cvL ks⟩ ⟨op,nm,cvL ks⟩) _;unfold fQ;simp only [];refine .bif (fun h=>by simp at h) fun _ => .bif (fun h=>by simp at h) fun _=>KI.bind (P:=(· = true)) ?_ fun v hv => .bif (fun h=>by rw [hv] at h;cases h) fun _ => .pure rfl;unfold fF;refine .bif (fun h=>by simp at h) fun _=>?_;refine KI.sum (PS:=fun _=>True) (PW:=(· = true)) ?_ fun _ _ => .pure rfl;refine KI.loop (fun z=>∃ n:Nat,n<=ks.length/\z=(n:Int)) (fun z=>((ks.length:Int)-z).toNat) ⟨0,by omega,rfl⟩ fun z ⟨n,n1,n2⟩ => ?_;subst n2;unfold ik;have hlen:(cvL ks).length=ks.length:=by rw [yS,llm]
  simp only [tnn,hlen];refine .bifD (fun hk => .gdD ⟨by omega,hk⟩ (.gdD ⟨by omega,hk⟩ ?_)) fun _ => .pure trivial;have hn:n<ks.length:=by omega
  have e:(cvL ks).getD n default=cvT (ks.getD n default):=by
   rw [yS,gdq,PO,geq hn,gdq,geq hn]
   rfl
  rw [e];exact (hd _ (getD_in hn) m (by omega)).2.bind fun v hv => .bif (fun h=>by rw [hv] at h;cases h) fun _ => .gdI (by omega) (.pure ⟨⟨n+1,by omega,by simp⟩,by omega⟩)
theorem Eu:∀ l:List TXlaws_RelExpr,SL l->∃ d,∀ t∈l,∀ m,d<m->KI (bv m t.out) (· = (cvT t).out)/\KI (bA m (cvT t).out (cvT t).out) (· = true)
 | [],_=>⟨0,fun t h=>by cases h⟩
 | t::l,h=>by
  rw [SL] at h;obtain ⟨d1,h1⟩:=Et t h.1;obtain ⟨d2,h2⟩:=Eu l h.2;refine ⟨max d1 d2,fun u hu=>?_⟩;rcases List.mem_cons.1 hu with rfl | hu
  ·exact fun m hm=>h1 m (by omega)
  exact fun m hm=>h2 u hu m (by omega)
end
def cvR (r:au):ae:=⟨r.Kind,(cvT r.Expr.inn).out⟩
theorem Hm {r:au} (h:ST r.Expr.inn):KI (l7 r) (· = cvR r):=by
 obtain ⟨d,hd⟩:=Et _ h;unfold l7;exact (show KI (lF r.Expr) (· = (cvT r.Expr.inn).out) from mh d fun m hm=>(hd m hm).1).bind fun v hv => .pure (by rw [hv];rfl)
theorem Hn {r:au} (h:ST r.Expr.inn):KI (mg (cvR r) (cvR r)) (· = true):=by
 obtain ⟨d,hd⟩:=Et _ h;unfold mg;refine .bif (fun h=>by simp at h) fun _=>?_;exact (show KI (lK (cvT r.Expr.inn).out (cvT r.Expr.inn).out) (· = true) from mh d fun m hm=>(hd m hm).2).bind fun v hv => .bif (fun h=>by rw [hv] at h;cases h) fun _ => .pure rfl
theorem Fy {a:List au} (h:a.length<=1048576) (hs:∀ r∈a,ST r.Expr.inn):KI (fA a) (· = a.map cvR):=by
 unfold fA;refine .gdD (by omega) ?_;refine KI.bind (P:=(· = a.map cvR)) (tP (by simp) (fun s h1 h2 h3=>?_) fun s hs=>?_) fun v hv => .pure hv
 ·unfold gG;exact .bifD (fun _ => .gdD ⟨h1,h2⟩ ((Hm (hs _ (og h1 h2))).bind fun v hv => .gdD ⟨h1,by omega⟩ (.gdI (by omega) (.pure (by rw [hv]))))) fun h=>absurd h2 h
 unfold gG;rw [decide_eq_false hs]
 rfl
theorem FA {a:List au} (h:a.length<=1048576) (hs:∀ r∈a,ST r.Expr.inn):KI (lg (a.map cvR) (a.map cvR)) (· = true):=by
 unfold lg;refine .bif (fun h=>by simp at h) fun _=>?_;refine KI.sum (PS:=fun _=>True) (PW:=(· = true)) ?_ fun _ _ => .pure rfl;refine KI.loop (fun z=>∃ n:Nat,n<=a.length/\z=(n:Int)) (fun z=>((a.length:Int)-z).toNat) ⟨0,by omega,rfl⟩ fun z ⟨n,n1,n2⟩ => ?_;subst n2;unfold n9;simp only [tnn,llm];refine .bifD (fun hk => .gdD ⟨by omega,hk⟩ (.gdD ⟨by omega,hk⟩ ?_)) fun _ => .pure trivial;have hn:n<a.length:=by omega
 have e:(a.map cvR).getD n default=cvR (a.getD n default):=by
  rw [gdq,PO,geq hn,gdq,geq hn]
  rfl
 rw [e];exact (Hn (hs _ (getD_in hn))).bind fun v hv => .bif (fun h=>by rw [hv] at h;cases h) fun _ => .gdI (by omega) (.pure ⟨⟨n+1,by omega,by simp⟩,by omega⟩)
theorem FB {a:LL} (h:a.length<=1048576) (hr:∀ r∈a,r.length<=1048576):KI (kO a) (· = a):=by
 unfold kO;refine .gdD (by omega) ?_;refine KI.bind (P:=(· = a.map id)) (tP (by simp) (fun s h1 h2 h3=>?_) fun s hs=>?_) fun v hv => .pure (by rw [hv,List.map_id])
 ·unfold gD;exact .bifD (fun _ => .gdD ⟨h1,h2⟩ ((Du (hr _ (og h1 h2))).bind fun v hv => .gdD ⟨h1,by omega⟩ (.gdI (by omega) (.pure (by rw [hv];rfl))))) fun h=>absurd h2 h
 unfold gD;rw [decide_eq_false hs]
 rfl
theorem FC (a:LL) (h:a.length<=1048576) (hr:∀ r∈a,r.length<=1048576):KI (lc a a) (· = true):=by
 unfold lc;refine .bif (fun h=>by simp at h) fun _=>?_;refine KI.sum (PS:=fun _=>True) (PW:=(· = true)) ((zF (a:=a) (b:=a) rfl (bad:=false) (fun i h1 h2=>?_) fun i hi=>?_).mono fun v hv=>by rw [hv,if_pos rfl];trivial) fun _ _ => .pure rfl
 ·unfold kI;exact .bifD (fun _ => .gdD ⟨h1,h2⟩ (.gdD ⟨h1,h2⟩ ((Dv _ (hr _ (og h1 h2))).bind fun v hv => .bif (fun h=>by rw [hv] at h;simp at h) fun _ => .gdI (by omega) (.pure (by rw [if_pos rfl]))))) fun h=>absurd h2 h
 unfold kI;rw [decide_eq_false hi]
 rfl
theorem Hp {x:aB} (h1:x.From.length<=1048576) (h2:x.Order.length<=1048576) (h3:∀ r∈x.Order,r.length<=1048576):KI (gF x) (· = ⟨x.From,x.Order⟩):=by
 unfold gF;exact (Du h1).bind fun v hv=>(FB h2 h3).bind fun w hw => .pure (by rw [hv,hw])
theorem Hq {x:XS} (h1:x.1.length<=1048576) (h2:x.2.length<=1048576) (h3:∀ r∈x.2,r.length<=1048576):KI (mf ⟨x.1,x.2⟩ ⟨x.1,x.2⟩) (· = true):=by
 unfold mf;exact (Dv _ h1).bind fun v hv => .bif (fun h=>by rw [hv] at h;cases h) fun _=>(FC _ h2 h3).bind fun v hv => .bif (fun h=>by rw [hv] at h;cases h) fun _ => .pure rfl
section
variable {p:List (List KE)} {x:XS}
theorem uM (hsz:p.length<=1048576/\total p<=1048576) (hx:∀ r∈x.2,r.length<=1048576) {m:List ae} (hm:m.length<=1048576):∃ s,bz p ⟨x.1,x.2⟩ m=some s/\bw p ⟨x.1,x.2⟩ m=some s:=by
 have hI:cm p=some (da (p.map fun r=>r.map ia)):=tz (decide_eq_true hsz);have hS:cn p=some (da (p.map fun r=>r.map ia)):=tz (decide_eq_true hsz)
 cases hv:da (p.map fun r=>r.map ia) with
 | false=>
  rw [hv] at hI hS;refine ⟨⟨#[]⟩,?_,?_⟩
  ·unfold bz fo;rw [hI]
   rfl
  unfold bw eZ;rw [hS]
  rfl
 | true=>
  have hp:=PV.of hv;obtain ⟨b,e1,h1⟩:=IC hp hv hsz hx;obtain ⟨c,e2,h2⟩:=IB hp hv hsz hx;obtain rfl:b=c:=Bool.eq_iff_iff.2 (h1.trans h2.symm);have mi:=G9 (m:=m) (by omega);have ms:=Ha (m:=m) (by omega)
  cases b with
  | false=>
   refine ⟨⟨#[]⟩,?_,?_⟩
   ·unfold bz;rw [e1]
    rfl
   unfold bw;rw [e2]
   rfl
  | true=>
   have hC:=(h1.1 rfl).cand hp
   cases hM:vaM m with
   | false=>
    rw [hM] at mi ms;refine ⟨⟨#[]⟩,KI.eq ?_,KI.eq ?_⟩
    ·unfold bz;exact (KI.of (P:=(· = true)) e1 rfl).bind fun v hv=>KI.bind (P:=(· = true)) (.bif (fun h=>by subst hv;cases h) fun _=>mi.bind fun w hw => .pure (by rw [hw];rfl)) fun u hu => .bif (fun _ => .pure rfl) fun h=>by rw [hu] at h;cases h
    unfold bw;exact (KI.of (P:=(· = true)) e2 rfl).bind fun v hv=>KI.bind (P:=(· = true)) (.bif (fun h=>by subst hv;cases h) fun _=>ms.bind fun w hw => .pure (by rw [hw];rfl)) fun u hu => .bif (fun _ => .pure rfl) fun h=>by rw [hu] at h;cases h
   | true=>
    rw [hM] at mi ms;obtain ⟨s,s1,s2,_⟩:=zQ hv hC hM;refine ⟨s,KI.eq ?_,KI.eq ?_⟩
    ·unfold bz;exact (KI.of (P:=(· = true)) e1 rfl).bind fun v hv=>KI.bind (P:=(· = false)) (.bif (fun h=>by subst hv;cases h) fun _=>mi.bind fun w hw => .pure (by rw [hw];rfl)) fun u hu => .bif (fun h=>by rw [hu] at h;cases h) fun _=>(KI.of (P:=(· = s)) s1 rfl).bind fun t ht => .pure ht
    unfold bw;exact (KI.of (P:=(· = true)) e2 rfl).bind fun v hv=>KI.bind (P:=(· = false)) (.bif (fun h=>by subst hv;cases h) fun _=>ms.bind fun w hw => .pure (by rw [hw];rfl)) fun u hu => .bif (fun h=>by rw [hu] at h;cases h) fun _=>(KI.of (P:=(· = s)) s2 rfl).bind fun t ht => .pure ht
end
theorem Hr {a:List (List aj)} (h1:a.length<=1048576) (h2:total a<=1048576):∃ p:List (List KE),KI (bU a) (· = p)/\(p.length<=1048576/\total p<=1048576)/\KI (fw p p) (· = true):=by
 have hrl0:∀ r∈a,r.length<=1048576:=fun r hr=>by
  obtain ⟨j,hj,rfl⟩:=PF hr;have := pg a j hj;omega
 have hto:=BW h1 hrl0;have hln:(a.map (List.map cvt)).map List.length=a.map List.length:=by simp [Function.comp_def]
 have hsz:(a.map (List.map cvt)).length<=1048576/\total (a.map (List.map cvt))<=1048576:=⟨by rw [llm];exact h1,by unfold total;rw [hln];exact h2⟩;have hrl:∀ r∈a.map (List.map cvt),r.length<=1048576:=fun r hr=>by
  obtain ⟨j,hj,rfl⟩:=PF hr;have := pg (a.map (List.map cvt)) j hj;omega
 exact ⟨_,hto,hsz,BX _ hsz.1 hrl⟩
theorem JM (a:List (List aj)) (x:aB) (m:List au) (ha:(a.length:Int)<=9223372036854775807/\∀ r∈a,(r.length:Int)<=9223372036854775807)
  (hf:(x.From.length:Int)<=9223372036854775807) (ho:(x.Order.length:Int)<=9223372036854775807/\∀ r∈x.Order,(r.length:Int)<=9223372036854775807) (hm:(m.length:Int)<=9223372036854775807) (hw:∀ r∈m,WT r.Expr.inn):dL a x m=some true:=by
 refine KI.eq ?_;unfold dL;refine (JK a ha).bind fun v1 hv1 => .bifD (fun _ => .pure rfl) fun hn1=>?_;obtain ⟨g1,g2⟩:0<=v1/\v1+(a.length:Int)+(total a:Int)<=1048576:=by
  rcases hv1 with h | h
  ·exact absurd h hn1
  exact ⟨h.1,h.2.1⟩
 refine (Kj x v1 ⟨g1,by omega⟩ hf ho).bind fun v3 hv3 => .bifD (fun _ => .pure rfl) fun hn3=>?_;obtain ⟨g3,g4⟩:0<=v3/\v3+(x.From.length:Int)+(x.Order.length:Int)+(total x.Order:Int)<=v1:=by
  rcases hv3 with h | h
  ·exact absurd h hn3
  exact h
 refine (Hl m v3 ⟨g3,by omega⟩ hm hw).bind fun v5 hv5 => .bifD (fun _ => .pure rfl) fun hn5=>?_;obtain ⟨g5,g6⟩:m.length<=1048576/\∀ r∈m,ST r.Expr.inn:=by
  rcases hv5 with h | h
  ·exact absurd h hn5
  exact h
 obtain ⟨p,hto,hsz,heq⟩:=Hr (a:=a) (by omega) (by omega);have hxr:∀ r∈x.Order,r.length<=1048576:=fun r hr=>by
  obtain ⟨j,hj,rfl⟩:=PF hr;have := pg x.Order j hj;omega
 have hx:=Hp (x:=x) (by omega) (by omega) hxr;have hxe:=Hq (x:=(x.From,x.Order)) (by simp only [];omega) (by simp only [];omega) hxr;have hr:=Fy g5 g6;have hre:=FA g5 g6;obtain ⟨s,s1,s2⟩:=uM (x:=(x.From,x.Order)) hsz hxr (m:=m.map cvR) (by rw [llm];exact g5);refine hto.bind fun v7 h7=>hx.bind fun v8 h8=>hr.bind fun v9 h9=>?_;subst h7 h8 h9;refine (KI.of (P:=(· = s)) s2 rfl).bind fun v10 h10=>hto.bind fun v11 h11=>hx.bind fun v12 h12=>hr.bind fun v13 h13=>?_;subst h11 h12 h13;refine (KI.of (P:=(· = s)) s1 rfl).bind fun v14 h14=>?_;subst h10 h14;refine .bif (fun h=>by simp at h) fun _=>hto.bind fun v16 h16=>?_;subst h16;refine heq.bind fun v hv=>?_;subst hv;refine .bif (fun h=>by cases h) fun _=>hx.bind fun v19 h19=>?_;subst h19;refine hxe.bind fun v hv=>?_;subst hv;refine .bif (fun h=>by cases h) fun _=>hr.bind fun v22 h22=>?_;subst h22;refine hre.bind fun v hv=>?_;subst hv;exact .bif (fun h=>by cases h) fun _ => .pure rfl
open Go.RowKit Go.WideShapes Go.ChangeShapes Go.Deep
section
variable {H:Type} {enc:TypeId×Value->H} {P:Program} {w:World} {spare:Nat->Bool} {held:Bool}
theorem RC.one {a:AV} {u:Value} (h1:u.oneCell'=true) (h:FRel w (fun g=>g<w.heap.size) a u):RC w [a] [u]:=⟨rfl,fun j b v hb hv=>by
 match j with
 | 0=>
  obtain rfl:=osl hb;obtain rfl:=osl hv;exact ⟨h1,h⟩
 | j+1=>simp at hb⟩
theorem RC.cons {a:AV} {u:Value} {row:List AV} {cs:List Value} (h1:u.oneCell'=true) (h:FRel w (fun g=>g<w.heap.size) a u) (t:RC w row cs):RC w (a::row) (u::cs):=⟨by simp [t.1],fun j b v hb hv=>by
 match j with
 | 0=>
  obtain rfl:=osl hb;obtain rfl:=osl hv;exact ⟨h1,h⟩
 | j+1=>exact t.2 j b v (by simpa using hb) (by simpa using hv)⟩
theorem RC.plain {u:Value} {row:List AV} {cs:List Value} (h:plain u=true) (t:RC w row cs):RC w (.v u::row) (u::cs) := .cons (yY h) (.v h) t
theorem RC.rowS {row row':List AV} {cs:List Value} (h:RC w row cs) (e:yB row row'):RC w row' cs:=⟨h.1.trans e.len,fun j b v hb hv=>by
 obtain ⟨a,ha,he⟩:=e.get hb;obtain ⟨h1,h2⟩:=h.2 j a v ha hv;exact ⟨h1,he _ _ _ h2⟩⟩
theorem Ev {t:TypeId} (ht:P.underlying t=some (.int .i64)) (fuel:Nat) (cs:List Value) (x:DataW H×List MemPlace) (h:DataW.trod enc P w 0 spare held fuel t cs=some x):∃ a:Int,RC w (cI a) cs/\True:=by
 obtain ⟨a,rfl,_⟩:=H8 ht fuel cs x h;exact ⟨a,.plain rfl ⟨rfl,fun j _ _ hb=>by simp at hb⟩,trivial⟩
theorem Ew {α:Type} [Inhabited α] {c:α->List AV} {s:Nat} {t e:TypeId} (hs:P.cellsOf e=s) (hs0:0<s) (ht:P.underlying t=some (.slice e)) {Good:α->Prop} (fuel:Nat) (cs:List Value) (x:DataW H×List MemPlace)
  (hel:∀ (n:Nat) (cs:List Value) (x:DataW H×List MemPlace),n<fuel->DataW.trod enc P w 0 spare held n e cs=some x->∃ a,RC w (c a) cs/\Good a)
  (h:DataW.trod enc P w 0 spare held fuel t cs=some x):∃ l:List α,RC w (cL c l) cs/\((l.length:Int)<=9223372036854775807/\∀ y∈l,Good y):=by
 obtain ⟨v,rfl,h1,l,hl,hF,hg⟩:=nS hs hs0 ht hel h;exact ⟨l,.one h1 hF,hl,hg⟩
theorem Hs {t e:TypeId} {f0 f1 f2 f3:Field} (ht:P.underlying t=some (.struct #[f0,f1,f2,f3])) (he:P.underlying e=some (.int .i64)) (h0:f0.type=e/\f0.offset=0) (h1:f1.type=e/\f1.offset=1)
  (h2:f2.type=e/\f2.offset=2) (h3:f3.type=e/\f3.offset=3) (hc:P.cellsOf t=4) (hce:P.cellsOf e=1) (fuel:Nat) (cs:List Value) (x:DataW H×List MemPlace)
  (h:DataW.trod enc P w 0 spare held fuel t cs=some x):∃ a:aj,RC w (aj.c a) cs/\True:=by
 obtain ⟨a,rfl,_⟩:=H9 ht he h0 h1 h2 h3 hc hce fuel cs x h;exact ⟨⟨a.op,a.loc,a.reg,a.val⟩,.plain rfl (.plain rfl (.plain rfl (.plain rfl ⟨rfl,fun j _ _ hb=>by simp at hb⟩))),trivial⟩
theorem FD {t tI tS eI:TypeId} {f0 f1:Field} (ht:P.underlying t=some (.struct #[f0,f1])) (hI:P.underlying tI=some (.slice eI)) (hS:P.underlying tS=some (.slice tI)) (he:P.underlying eI=some (.int .i64))
  (h0:f0.type=tI/\f0.offset=0) (h1:f1.type=tS/\f1.offset=1) (hc:P.cellsOf t=2) (hcI:P.cellsOf tI=1) (hcS:P.cellsOf tS=1) (hce:P.cellsOf eI=1) (fuel:Nat) (cs:List Value) (x:DataW H×List MemPlace)
  (h:DataW.trod enc P w 0 spare held fuel t cs=some x):∃ e:aB,RC w (aB.c e) cs/\((e.From.length:Int)<=9223372036854775807/\(e.Order.length:Int)<=9223372036854775807/\∀ r∈e.Order,(r.length:Int)<=9223372036854775807):=by
 obtain ⟨xs,n,_,_,hlen,hxl,hf⟩:=DataW.trod_struct ht h;rw [hc] at hlen
 match cs,hlen with
 | [c0,c1],_=>
  match xs,hxl with
  | [y0,y1],_=>
   have g0:=hf 0 f0 rfl;have g1:=hf 1 f1 rfl;rw [h0.1,h0.2,hcI] at g0;rw [h1.1,h1.2,hcS] at g1;obtain ⟨v1,e1,p1,l1,k1,r1,_⟩:=nS (c:=cI) (Good:=fun _=>True) hce (by omega) hI (fun n cs x _ h=>Ev he n cs x h) (g0.trans rfl);obtain ⟨v2,e2,p2,l2,k2,r2,q2⟩:=nS (c:=cL cI) (Good:=fun l:LI=>(l.length:Int)<=9223372036854775807/\∀ y∈l,True) hcI (by omega) hS (fun n cs x _ h=>Ew hce (by omega) hI n cs x (fun n cs x _ h=>Ev he n cs x h) h) (g1.trans rfl);simp only [PP,PQ,PR,PT,PU,and_true] at e1 e2;subst e1 e2;exact ⟨⟨l1,l2⟩,.cons p1 r1 (.one p2 r2),k1,k2,fun r hr=>(q2 r hr).1⟩
theorem I5:∀ {l:List TXlaws_RelExpr},(∀ t∈l,WT t)->WL l
 | [],_=>by rw [WL];trivial
 | t::l,h=>by
  rw [WL];exact ⟨h t (by simp),I5 fun u hu=>h u (by simp [hu])⟩
section
variable {tR tI tS tK:TypeId} {f0 f1 f2:Field} (ht:P.underlying tR=some (.struct #[f0,f1,f2])) (hI:P.underlying tI=some (.int .i64)) (hS:P.underlying tS=some .string) (hK:P.underlying tK=some (.slice tR))
 (h0:f0.type=tI/\f0.offset=0) (h1:f1.type=tS/\f1.offset=1) (h2:f2.type=tK/\f2.offset=2) (hc:P.cellsOf tR=3) (hcI:P.cellsOf tI=1) (hcS:P.cellsOf tS=1) (hcK:P.cellsOf tK=1)
include ht hI hS hK h0 h1 h2 hc hcI hcS hcK
theorem FE:∀ (fuel:Nat) (cs:List Value) (x:DataW H×List MemPlace),DataW.trod enc P w 0 spare held fuel tR cs=some x->∃ t:TXlaws_RelExpr,RC w (TXlaws_RelExpr.c t) cs/\WT t:=by
 intro fuel
 induction fuel using Nat.strongRecOn with
 | _ fuel ih=>
  intro cs x h;obtain ⟨xs,n,hn,_,hlen,hxl,hf⟩:=DataW.trod_struct ht h;rw [hc] at hlen
  match cs,hlen with
  | [c0,c1,c2],_=>
   match xs,hxl with
   | [y0,y1,y2],_=>
    have g0:=hf 0 f0 rfl;have g1:=hf 1 f1 rfl;have g2:=hf 2 f2 rfl;rw [h0.1,h0.2,hcI] at g0;rw [h1.1,h1.2,hcS] at g1;rw [h2.1,h2.2,hcK] at g2;obtain ⟨a0,e0,_⟩:=DataW.trod_int hI (g0.trans rfl);obtain ⟨a1,e1,_,z1⟩:=DataW.trod_string hS (g1.trans rfl);obtain ⟨v2,e2,p2,l2,k2,r2,q2⟩:=nS (c:=TXlaws_RelExpr.c) (Good:=WT) hc (by omega) hK (fun m cs x hm h=>ih m (by omega) cs x h) (g2.trans rfl);simp only [PP,PQ,PR,PT,PU,and_true] at e0 e1 e2;subst e0 e1 e2;refine ⟨.mk a0 a1 l2,?_,?_⟩
    ·simp only [TXlaws_RelExpr.c];exact .plain rfl (.plain rfl (.one p2 (EqS.slr' TXlaws_RelExpr.r0 TXlaws_RelExpr.r1 l2 _ _ _ r2)))
    rw [WT];simp only [maxLen] at z1;exact ⟨by omega,k2,I5 q2⟩
theorem FG {tU:TypeId} {k0 k1:Field} (hU:P.underlying tU=some (.struct #[k0,k1])) (d0:k0.type=tI/\k0.offset=0) (d1:k1.type=tR/\k1.offset=1) (hcU:P.cellsOf tU=4) (fuel:Nat) (cs:List Value) (x:DataW H×List MemPlace)
  (h:DataW.trod enc P w 0 spare held fuel tU cs=some x):∃ r:au,RC w (au.c r) cs/\WT r.Expr.inn:=by
 obtain ⟨xs,n,_,_,hlen,hxl,hf⟩:=DataW.trod_struct hU h;rw [hcU] at hlen
 match cs,hlen with
 | [c0,c1,c2,c3],_=>
  match xs,hxl with
  | [y0,y1],_=>
   have g0:=hf 0 k0 rfl;have g1:=hf 1 k1 rfl;rw [d0.1,d0.2,hcI] at g0;rw [d1.1,d1.2,hc] at g1;obtain ⟨a0,e0,_⟩:=DataW.trod_int hI (g0.trans rfl);obtain ⟨t,ht1,ht2⟩:=FE ht hI hS hK h0 h1 h2 hc hcI hcS hcK n _ _ (g1.trans rfl);simp only [PP,PQ,PR,PT,PU,and_true] at e0 ht1;subst e0;refine ⟨⟨a0,t.out⟩,.plain rfl (ht1.rowS (TXlaws_RelExpr.out_c t)),?_⟩;rw [show t.out.inn=t by cases t;rfl];exact ht2
end
theorem FH {row:List AV} {cs:Array Value} (h:RC w row cs.toList):FRel w (fun g=>g<w.heap.size) (.agg row) (.agg cs):=by
 have hl:cs.size=row.length:=by simpa using h.1
 refine .agg hl (fun i u hu=>?_) fun i c u hc hu=>?_
 ·have hi:i<cs.size:=(PX.1 hu).1;exact (h.2 i row[i] u (geq (by omega)) (by simpa using hu)).1
 exact (h.2 i c u hc (by simpa using hu)).2
end
theorem JN {w:World} {fz:Nat->Prop} {a b c:AV} {u v x:Value} (h1:FRel w fz a u) (h2:FRel w fz b v) (h3:FRel w fz c x):∀ (i:Nat) (d:AV) (y:Value),[a,b,c][i]? = some d -> #[u,v,x][i]? = some y->FRel w fz d y:=by
 intro i d y hd hy
 match i with
 | 0=>
  obtain rfl:=osl hd;obtain rfl:u=y:=by simpa using hy
  exact h1
 | 1=>
  obtain rfl:=osl hd;obtain rfl:v=y:=by simpa using hy
  exact h2
 | 2=>
  obtain rfl:=osl hd;obtain rfl:x=y:=by simpa using hy
  exact h3
 | i+3=>simp at hd
theorem KN:TyF Tryz.prog 3 false 1:=⟨by kernel_rfl,by kernel_rfl,by kernel_rfl,by kernel_rfl⟩
theorem zs3:TyZ Tryz.prog 3 [I (0:Int)]:=⟨by kernel_rfl,by kernel_rfl⟩
theorem ty4:TyF Tryz.prog 4 false 1:=⟨by kernel_rfl,by kernel_rfl,by kernel_rfl,by kernel_rfl⟩
theorem zs4:TyZ Tryz.prog 4 [Bo false]:=⟨by kernel_rfl,by kernel_rfl⟩
theorem bt4:qQ Tryz.prog 4=true:=by kernel_rfl
theorem ty5:TyF Tryz.prog 5 false 1:=⟨by kernel_rfl,by kernel_rfl,by kernel_rfl,by kernel_rfl⟩
theorem zs5:TyZ Tryz.prog 5 [Y (0:Int)]:=⟨by kernel_rfl,by kernel_rfl⟩
theorem ty9:TyF Tryz.prog 9 false 1:=⟨by kernel_rfl,by kernel_rfl,by kernel_rfl,by kernel_rfl⟩
theorem zs9:TyZ Tryz.prog 9 [St (⟨#[]⟩:ByteArray)]:=⟨by kernel_rfl,by kernel_rfl⟩
theorem nu:TyF Tryz.prog 23 false 1:=⟨by kernel_rfl,by kernel_rfl,by kernel_rfl,by kernel_rfl⟩
theorem Kl:TyZ Tryz.prog 23 [.nil]:=⟨by kernel_rfl,by kernel_rfl⟩
theorem Cf:TyF Tryz.prog 24 false 1:=⟨by kernel_rfl,by kernel_rfl,by kernel_rfl,by kernel_rfl⟩
theorem Ji:TyF Tryz.prog 26 true 2:=⟨by kernel_rfl,by kernel_rfl,by kernel_rfl,by kernel_rfl⟩
theorem Jj:TyS Tryz.prog 26 [(0,1),(1,1)]:=⟨by kernel_rfl⟩
theorem Jk:TyF Tryz.prog 32 false 1:=⟨by kernel_rfl,by kernel_rfl,by kernel_rfl,by kernel_rfl⟩
theorem qX:TyF Tryz.prog 34 true 2:=⟨by kernel_rfl,by kernel_rfl,by kernel_rfl,by kernel_rfl⟩
theorem JO:TyZ Tryz.prog 34 [.nil,.nil]:=⟨by kernel_rfl,by kernel_rfl⟩
theorem uG:TyS Tryz.prog 34 [(0,1),(1,1)]:=⟨by kernel_rfl⟩
theorem JP:TyF Tryz.prog 47 false 1:=⟨by kernel_rfl,by kernel_rfl,by kernel_rfl,by kernel_rfl⟩
theorem Km:TyZ Tryz.prog 47 [.nil]:=⟨by kernel_rfl,by kernel_rfl⟩
theorem J5:TyF Tryz.prog 51 false 1:=⟨by kernel_rfl,by kernel_rfl,by kernel_rfl,by kernel_rfl⟩
theorem I6:TyF Tryz.prog 53 true 3:=⟨by kernel_rfl,by kernel_rfl,by kernel_rfl,by kernel_rfl⟩
theorem Ko:TyZ Tryz.prog 53 [I (0:Int),St (⟨#[]⟩:ByteArray),.nil]:=⟨by kernel_rfl,by kernel_rfl⟩
theorem I7:TyS Tryz.prog 53 [(0,1),(1,1),(2,1)]:=⟨by kernel_rfl⟩
theorem JQ:TyF Tryz.prog 55 true 4:=⟨by kernel_rfl,by kernel_rfl,by kernel_rfl,by kernel_rfl⟩
theorem Kq:TyZ Tryz.prog 55 [I (0:Int),I (0:Int),St (⟨#[]⟩:ByteArray),.nil]:=⟨by kernel_rfl,by kernel_rfl⟩
theorem Kr:TyS Tryz.prog 55 [(0,1),(1,3)]:=⟨by kernel_rfl⟩
theorem AK:TyF Tryz.prog 58 false 1:=⟨by kernel_rfl,by kernel_rfl,by kernel_rfl,by kernel_rfl⟩
theorem Ks:TyZ Tryz.prog 58 [.nil]:=⟨by kernel_rfl,by kernel_rfl⟩
theorem Bz:TyF Tryz.prog 61 false 1:=⟨by kernel_rfl,by kernel_rfl,by kernel_rfl,by kernel_rfl⟩
theorem tT:TyF Tryz.prog 63 true 3:=⟨by kernel_rfl,by kernel_rfl,by kernel_rfl,by kernel_rfl⟩
theorem Jl:TyZ Tryz.prog 63 [I (0:Int),St (⟨#[]⟩:ByteArray),.nil]:=⟨by kernel_rfl,by kernel_rfl⟩
theorem oU:TyS Tryz.prog 63 [(0,1),(1,1),(2,1)]:=⟨by kernel_rfl⟩
theorem EG:TyF Tryz.prog 65 true 4:=⟨by kernel_rfl,by kernel_rfl,by kernel_rfl,by kernel_rfl⟩
theorem Jm:TyZ Tryz.prog 65 [I (0:Int),I (0:Int),St (⟨#[]⟩:ByteArray),.nil]:=⟨by kernel_rfl,by kernel_rfl⟩
theorem Ci:TyS Tryz.prog 65 [(0,1),(1,3)]:=⟨by kernel_rfl⟩
theorem Ht:TyF Tryz.prog 77 false 1:=⟨by kernel_rfl,by kernel_rfl,by kernel_rfl,by kernel_rfl⟩
theorem Kt:TyZ Tryz.prog 77 [.nil]:=⟨by kernel_rfl,by kernel_rfl⟩
theorem rY:TyF Tryz.prog 80 true 5:=⟨by kernel_rfl,by kernel_rfl,by kernel_rfl,by kernel_rfl⟩
theorem zU:TyZ Tryz.prog 80 [I (0:Int),I (0:Int),I (0:Int),Bo false,Bo false]:=⟨by kernel_rfl,by kernel_rfl⟩
theorem cg:TyS Tryz.prog 80 [(0,1),(1,1),(2,1),(3,1),(4,1)]:=⟨by kernel_rfl⟩
theorem xp:TyF Tryz.prog 90 true 4:=⟨by kernel_rfl,by kernel_rfl,by kernel_rfl,by kernel_rfl⟩
theorem Hu:TyZ Tryz.prog 90 [I (0:Int),I (0:Int),I (0:Int),I (0:Int)]:=⟨by kernel_rfl,by kernel_rfl⟩
theorem mq:TyS Tryz.prog 90 [(0,1),(1,1),(2,1),(3,1)]:=⟨by kernel_rfl⟩
theorem J6:TyF Tryz.prog 92 true 4:=⟨by kernel_rfl,by kernel_rfl,by kernel_rfl,by kernel_rfl⟩
theorem Ku:TyZ Tryz.prog 92 [I (0:Int),I (0:Int),I (0:Int),I (0:Int)]:=⟨by kernel_rfl,by kernel_rfl⟩
theorem Jn:TyS Tryz.prog 92 [(0,1),(1,1),(2,1),(3,1)]:=⟨by kernel_rfl⟩
theorem FI:TyF Tryz.prog 134 false 1:=⟨by kernel_rfl,by kernel_rfl,by kernel_rfl,by kernel_rfl⟩
theorem JR:TyZ Tryz.prog 136 [.nil,.nil,.nil,.nil,.nil,.nil]:=⟨by kernel_rfl,by kernel_rfl⟩
theorem qY:TyS Tryz.prog 136 [(0,1),(1,2),(3,1),(4,1),(5,1)]:=⟨by kernel_rfl⟩
theorem JS:TyF Tryz.prog 182 false 1:=⟨by kernel_rfl,by kernel_rfl,by kernel_rfl,by kernel_rfl⟩
theorem H3:SlT Tryz.prog 22 47 false 1 [.nil] 24:=⟨Tryz.underlying22,JP,Km,rfl,rfl,by kernel_rfl⟩
theorem aK:SlT Tryz.prog 23 3 false 1 [I (0:Int)] 8:=⟨Tryz.underlying23,KN,zs3,rfl,rfl,by kernel_rfl⟩
theorem pU:SlT Tryz.prog 24 23 false 1 [.nil] 24:=⟨Tryz.underlying24,nu,Kl,rfl,rfl,by kernel_rfl⟩
theorem H4:SlT Tryz.prog 27 55 true 4 [I (0:Int),I (0:Int),St (⟨#[]⟩:ByteArray),.nil] 56:=⟨Tryz.underlying27,JQ,Kq,rfl,rfl,by kernel_rfl⟩
theorem yj:SlT Tryz.prog 32 58 false 1 [.nil] 24:=⟨Tryz.underlying32,AK,Ks,rfl,rfl,by kernel_rfl⟩
theorem vS:SlT Tryz.prog 36 65 true 4 [I (0:Int),I (0:Int),St (⟨#[]⟩:ByteArray),.nil] 56:=⟨Tryz.underlying36,EG,Jm,rfl,rfl,by kernel_rfl⟩
theorem Jo:SlT Tryz.prog 47 92 true 4 [I (0:Int),I (0:Int),I (0:Int),I (0:Int)] 32:=⟨Tryz.underlying47,J6,Ku,rfl,rfl,by kernel_rfl⟩
theorem H5:SlT Tryz.prog 51 53 true 3 [I (0:Int),St (⟨#[]⟩:ByteArray),.nil] 48:=⟨Tryz.underlying51,I6,Ko,rfl,rfl,by kernel_rfl⟩
theorem xB:SlT Tryz.prog 58 90 true 4 [I (0:Int),I (0:Int),I (0:Int),I (0:Int)] 32:=⟨Tryz.underlying58,xp,Hu,rfl,rfl,by kernel_rfl⟩
theorem yT:SlT Tryz.prog 61 63 true 3 [I (0:Int),St (⟨#[]⟩:ByteArray),.nil] 48:=⟨Tryz.underlying61,tT,Jl,rfl,rfl,by kernel_rfl⟩
theorem mR:SlT Tryz.prog 77 80 true 5 [I (0:Int),I (0:Int),I (0:Int),Bo false,Bo false] 32:=⟨Tryz.underlying77,rY,zU,rfl,rfl,by kernel_rfl⟩
theorem AL:SlT Tryz.prog 101 9 false 1 [St (⟨#[]⟩:ByteArray)] 16:=⟨Tryz.underlying101,ty9,zs9,rfl,rfl,by kernel_rfl⟩
theorem Hv:SlT Tryz.prog 123 5 false 1 [Y (0:Int)] 1:=⟨Tryz.underlying123,ty5,zs5,rfl,rfl,by kernel_rfl⟩
theorem FJ:SlT Tryz.prog 134 4 false 1 [Bo false] 1:=⟨Tryz.underlying134,ty4,zs4,rfl,rfl,by kernel_rfl⟩
open Go.Shelf Go.RowKit Go.Lib
def Gd:Go.Shelf.Ren:=⟨fun | 156=>73 | 165=>124 | 166=>125 | 169=>126 | 240=>180 | 241=>181 | 276=>209 | 277=>210 | n=>n,fun | 31=>101 | 9=>9 | 3=>3 | 4=>4 | 0=>0 | 20=>20 | 72=>143 | 76=>147 | 70=>141 | 37=>123 | 75=>146 | 127=>187 | 164=>208 | 5=>5 | 80=>149 | n=>n,fun | n=>n⟩
theorem Gf:Go.Proofs.Lays.n156 Tryz.prog Gd where
 mixed:=by kernel_rfl
 f156:=Tryz.func73.trans (congrArg some (by kernel_rfl))
 f165:=Tryz.func124.trans (congrArg some (by kernel_rfl))
 f166:=Tryz.func125.trans (congrArg some (by kernel_rfl))
 f169:=Tryz.func126.trans (congrArg some (by kernel_rfl))
 f240:=Tryz.func180.trans (congrArg some (by kernel_rfl))
 f241:=Tryz.func181.trans (congrArg some (by kernel_rfl))
 f276:=Tryz.func209.trans (congrArg some (by kernel_rfl))
 f277:=Tryz.func210.trans (congrArg some (by kernel_rfl))
 t0:=Tryz.underlying0
 a0:=Tryz.isAgg0
 z0:=Tryz.sizeOf0
 v0:=Tryz.zeroValue0
 t3:=Tryz.underlying3
 a3:=Tryz.isAgg3
 z3:=Tryz.sizeOf3
 v3:=Tryz.zeroValue3
 t4:=Tryz.underlying4
 a4:=Tryz.isAgg4
 z4:=Tryz.sizeOf4
 v4:=Tryz.zeroValue4
 t9:=Tryz.underlying9
 a9:=Tryz.isAgg9
 z9:=Tryz.sizeOf9
 v9:=Tryz.zeroValue9
 t20:=Tryz.underlying20
 a20:=Tryz.isAgg20
 z20:=Tryz.sizeOf20
 v20:=Tryz.zeroValue20
 t31:=Tryz.underlying101
 a31:=Tryz.isAgg101
 z31:=Tryz.sizeOf101
 v31:=Tryz.zeroValue101
 t37:=Tryz.underlying123
 a37:=Tryz.isAgg123
 z37:=Tryz.sizeOf123
 v37:=Tryz.zeroValue123
 t70:=Tryz.underlying141
 a70:=Tryz.isAgg141
 z70:=Tryz.sizeOf141
 v70:=Tryz.zeroValue141
 t72:=Tryz.underlying143
 a72:=Tryz.isAgg143
 z72:=Tryz.sizeOf143
 v72:=Tryz.zeroValue143
 t75:=Tryz.underlying146
 a75:=Tryz.isAgg146
 z75:=Tryz.sizeOf146
 v75:=Tryz.zeroValue146
 t76:=Tryz.underlying147
 a76:=Tryz.isAgg147
 z76:=Tryz.sizeOf147
 v76:=Tryz.zeroValue147
 t127:=Tryz.underlying187
 a127:=Tryz.isAgg187
 z127:=Tryz.sizeOf187
 v127:=Tryz.zeroValue187
 t164:=Tryz.underlying208
 a164:=Tryz.isAgg208
 z164:=Tryz.sizeOf208
 v164:=Tryz.zeroValue208
theorem J7:Builder.Extra Tryz.prog Gd where
 sizeBuilder:=by kernel_rfl
 liesBuilder:=by kernel_rfl
 t5:=Tryz.underlying5
 a5:=Tryz.isAgg5
 z5:=Tryz.sizeOf5
 v5:=Tryz.zeroValue5
 infoByte:=by kernel_rfl
 cellsByte:=by kernel_rfl
 sizeByte:=by kernel_rfl
 neB5:=by decide
open Go.RowKit Go.Shelf
abbrev jA:=@TO.nil
abbrev jC:=@T.region
abbrev jE:=@T.block
abbrev jG:=@T.skip
abbrev jH:=@T.seq
abbrev jI:=@T.sr
abbrev jK:=@T.ret
abbrev jM:=@T.exit
abbrev jN:=@T.ifH
abbrev jO:=@T.loop
abbrev jP:=@T.drawF
abbrev jQ:=@Fin.ret
abbrev jR:=@TF.nil
theorem qC {m:Nat} {H:AH} {a:AV} (h:isF 9 a=true):Fz m H a a:=.of_isF 9 _ h
theorem qD {α:Sort _} {β:α->Sort _} {f:(x:α)->β x}:∀ x,f x=f x:=fun _=>rfl
theorem uN (l:List ByteArray) (sep:ByteArray) {q} (h:nD l sep=some q):ax Tryz.prog 73 [eL cS l,St sep] (St q):=by
 unfold nD at h;obtain ⟨⟨h1,h2⟩,h⟩:=gdD h;obtain rfl:=osl h;refine ⟨by kernel_rfl,fun w fz vs hlt _ hl hrel=>?_⟩;obtain ⟨u,v,rfl⟩:∃ u v,vs = #[u,v]:=by
  obtain ⟨l⟩:=vs
  match l,hl with
  | [u,v],_=>exact ⟨u,v,rfl⟩
 obtain rfl:=C9 (hrel 1 _ v rfl rfl);have hs:=xQ (f:=fun s=>[Value.string s]) (s:=1) (c:=cS) (e:=id) (fun _=>rfl) (fun _=>rfl) (hrel 0 _ u rfl rfl);rw [List.map_id] at hs;obtain ⟨A,cap,rfl,hc,hm,hx⟩:=hs;have key:Calls Tryz.prog 73 #[.slice A l.length cap,.string sep] w fun e w'=>e = .returned (.string (o6 l sep))/\Below w.heap.size w w':=by
  by_cases hn:0<l.length
  ·obtain ⟨b,o,rfl,_,_,hlt,hcell⟩:=hx hn;exact Any.strings_Join Gf J7 b o cap l sep w (fun j x hj=>by
    obtain ⟨hj1,rfl⟩:=ges hj;have := hcell j hj1 0 _ rfl;simpa using this) hlt h1 hc (by simpa [o6,ByteArray.size] using h2)
  obtain rfl:l=[]:=P8 (by omega);exact (Any.strings_Join_none Gf J7 A cap sep w).mono fun e w' ⟨he,hw⟩=>⟨he,hw ▸ Below.refl _ _⟩
 refine key.mono fun e w' ⟨he,hb⟩ => ?_;exact ⟨_,fz,he,hb,.v Z,fun g hg=>hg,fun g hg => .inl hg,fun g hg=>PY (hlt g hg) hb.size⟩
theorem Gg {vs:Array Value} {a:AV} (hl:vs.size=[a].length):∃ u,vs = #[u]:=by
 obtain ⟨l⟩:=vs
 match l,hl with
 | [u],_=>exact ⟨u,rfl⟩
theorem pV (p:List (List KE)) {q} (h:cm p=some q):ax Tryz.prog 57 [eL (cL KE.c) p] (Bo q):=by
 unfold cm at h;obtain ⟨⟨h1,h2⟩,h⟩:=gdD h;obtain rfl:=osl h;refine ⟨by kernel_rfl,fun w fz vs hlt _ hl hrel=>?_⟩;obtain ⟨u,rfl⟩:=Gg hl;have hs:=uC (f:=Ins.cells) (s:=4) (e:=ia) (fun _=>rfl) (fun _=>rfl) (hrel 0 _ u rfl rfl);refine (pJ hs (PG _) (by rw [zz];exact h2)).mono fun e w' ⟨he,hb⟩ => ?_;exact ⟨_,fz,he,hb,.v Z,fun g hg=>hg,fun g hg => .inl hg,fun g hg=>PY (hlt g hg) hb.size⟩
theorem pW (p:List (List KE)) {q} (h:cn p=some q):ax Tryz.prog 43 [eL (cL KE.c) p] (Bo q):=by
 unfold cn at h;obtain ⟨⟨h1,h2⟩,h⟩:=gdD h;obtain rfl:=osl h;refine ⟨by kernel_rfl,fun w fz vs hlt _ hl hrel=>?_⟩;obtain ⟨u,rfl⟩:=Gg hl;have hs:=uC (f:=Ins.cells) (s:=4) (e:=ia) (fun _=>rfl) (fun _=>rfl) (hrel 0 _ u rfl rfl);refine (pI hs (PG _) (by rw [zz];exact h2)).mono fun e w' ⟨he,hb⟩ => ?_;exact ⟨_,fz,he,hb,.v Z,fun g hg=>hg,fun g hg => .inl hg,fun g hg=>PY (hlt g hg) hb.size⟩
open Go.ChangeShapes Go.WideShapes Go.ChangeAt Go.RowKit Go.Sort
theorem wW {w:World} {blk off g:Nat} {d:Array Int} (h:g≠blk):(putRow (Value.int .i64) w blk off d).heap[g]? = w.heap[g]? := by
 show (w.heap.modify blk _)[g]? = _;rw [P9,if_neg (Ne.symm h)]
theorem wX {w:World} {blk off:Nat} {d:Array Int} {cs:Array Value} {t:TypeId} {fr:Nat×Nat} (h:w.heap[blk]? = some (.cells cs t fr)):(putRow (Value.int .i64) w blk off d).heap[blk]? = some (.cells (putCells (Value.int .i64) off d cs) t fr):=by
 show (w.heap.modify blk _)[blk]? = _;rw [P9,if_pos rfl,h]
 rfl
theorem nL {off:Nat} {d:Array Int} {cs:Array Value}:(putCells (Value.int .i64) off d cs).size=cs.size:=by simp [putCells]
theorem yU {off:Nat} {d:Array Int} {cs:Array Value} {k:Nat} (h:off+d.size<=cs.size) (hk:k<d.size):(putCells (Value.int .i64) off d cs)[off+k]? = some (.int .i64 d[k]!):=by
 unfold putCells;rw [Array.getElem?_mapIdx,Array.getElem?_eq_getElem (by omega)];simp only [Option.map_some];rw [if_pos (by omega),show off+k-off=k by omega]
theorem FK {c:Cx} (hr:HRel c) {l q:LI} {ver ver':Nat} (hH:c.H=[some ⟨ver,1,3,l.map cI⟩]) {cs:Array Value} {fr0:Nat×Nat} (hB:BRel c 0 ⟨ver,1,3,l.map cI⟩ cs (some fr0)) {d':Array Int} (hd:d'.size=l.length) (hq:q.length<=d'.size)
  (hqe:∀ i (h:i<q.length),d'[i]! = q[i]) {m:Nat} {os:Array Obj} (hv:(ver'=ver/\q.length=l.length)\/ver<ver') :
  ∃ c',c'.w=grow (putRow (Value.int .i64) (Sort.ahead c.w m) (c.φ 0).1 (c.φ 0).2 d') os/\c'.H=[some ⟨ver',1,3,q.map cI⟩]/\HRel c'/\Ext c c'/\c'.φ 0=c.φ 0/\c'.w.heap[(c.φ 0).1]? = some (.cells (putCells (Value.int .i64) (c.φ 0).2 d' cs) 3 fr0):=by
 have hlv:c.live 0 ⟨ver,1,3,l.map cI⟩:=by
  unfold Cx.live;rw [hH]
  rfl
 have hat:c.w.heap[(c.φ 0).1]? = some (.cells cs 3 fr0):=hB.at_;have hblk:(c.φ 0).1<c.w.heap.size:=hr.live_lt hlv;have hfit:(c.φ 0).2+l.length<=cs.size:=by
  have := hB.fits;simpa using this
 have he1:Ext c (c.upd 0 ⟨ver',1,3,q.map cI⟩ ((c.φ 0).1,(c.φ 0).2) (putCells (Value.int .i64) (c.φ 0).2 d' cs)):=Cx.upd_ext hr hlv hB nL (by
  rcases hv with ⟨h1,h2⟩ | h
  ·exact .inl ⟨h1,rfl,by simp [h2],rfl⟩
  exact .inr h)
 have hr1:=Cx.upd_rel hr hlv hB (k:=⟨ver',1,3,q.map cI⟩) (o:=(c.φ 0).2) (cs:=putCells (Value.int .i64) (c.φ 0).2 d' cs) nL rfl he1 Nat.one_pos (by rw [nL];simp;omega) (fun i row h=>by
  obtain ⟨x,_,rfl⟩:=by simpa [PO,Option.map_eq_some_iff] using h
  rfl) (fun i row j a h1 h2=>by
  have hi:i<q.length:=by simpa using (ges h1).1
  have hrw:row=cI q[i]:=by
   have := (ges h1).2;rw [<- this];simp
  subst hrw
  match j,h2 with
  | 0,h2=>
   obtain rfl:=osl h2;refine ⟨.int .i64 d'[i]!,?_,rfl,?_⟩
   ·have := yU (off:=(c.φ 0).2) (d:=d') (cs:=cs) (k:=i) (by omega) (by omega);simpa using this
   rw [hqe i hi];exact .fr (.v rfl)
  | j+1,h2=>simp [cI] at h2)
 have hbl:Below (c.upd 0 ⟨ver',1,3,q.map cI⟩ ((c.φ 0).1,(c.φ 0).2) (putCells (Value.int .i64) (c.φ 0).2 d' cs)).w.heap.size (c.upd 0 ⟨ver',1,3,q.map cI⟩ ((c.φ 0).1,(c.φ 0).2) (putCells (Value.int .i64) (c.φ 0).2 d' cs)).w (grow (putRow (Value.int .i64) (Sort.ahead c.w m) (c.φ 0).1 (c.φ 0).2 d') os):=by
  have hz:(c.upd 0 ⟨ver',1,3,q.map cI⟩ ((c.φ 0).1,(c.φ 0).2) (putCells (Value.int .i64) (c.φ 0).2 d' cs)).w.heap.size=c.w.heap.size:=by simp [Cx.upd]
  have hs:(putRow (Value.int .i64) (Sort.ahead c.w m) (c.φ 0).1 (c.φ 0).2 d').heap.size=c.w.heap.size:=by rw [size_putRow];rfl
  refine ⟨rfl,rfl,rfl,?_,fun g hg=>?_⟩
  ·rw [hz];show _<=((putRow (Value.int .i64) (Sort.ahead c.w m) (c.φ 0).1 (c.φ 0).2 d').heap++os).size;rw [Array.size_append,hs];omega
  rw [hz] at hg;show ((putRow (Value.int .i64) (Sort.ahead c.w m) (c.φ 0).1 (c.φ 0).2 d').heap++os)[g]? = (c.w.setRow (c.φ 0).1 (putCells (Value.int .i64) (c.φ 0).2 d' cs)).heap[g]?;rw [Array.getElem?_append_left (by rw [hs];exact hg)]
  by_cases e:g=(c.φ 0).1
  ·subst e;rw [wX (w:=Sort.ahead c.w m) hat,setRow_heap _ _ _ _ _ _ hat]
  rw [wW e,setRow_other _ _ _ _ e]
  rfl
 obtain ⟨g1,g2⟩:=wF hr1 hbl (fz':=fun _=>False) (fun _ h=>h.elim) (fun _ h=>h.elim) (fun _ _ _ h=>h);refine ⟨_,rfl,?_,g1,he1.trans g2,?_,?_⟩
 ·show c.H.set 0 _=_;rw [hH]
  rfl
 ·rfl
 have hz:(c.upd 0 ⟨ver',1,3,q.map cI⟩ ((c.φ 0).1,(c.φ 0).2) (putCells (Value.int .i64) (c.φ 0).2 d' cs)).w.heap.size=c.w.heap.size:=by simp [Cx.upd]
 have := hbl.block (c.φ 0).1 (by rw [hz];exact hblk);refine this.trans ?_;show (c.w.setRow (c.φ 0).1 (putCells (Value.int .i64) (c.φ 0).2 d' cs)).heap[_]? = _;exact setRow_heap _ _ _ _ _ _ hat
theorem FL {c:Cx} (hr:HRel c) {l:LI} {ver:Nat} (hH:c.H=[some ⟨ver,1,3,l.map cI⟩]) {u:Value} (hu:c.rel (.hs 0 ver 1 0 l.length) u) (hn:0<l.length) :
  ∃ cs fr0 cap,BRel c 0 ⟨ver,1,3,l.map cI⟩ cs (some fr0)/\u = .slice (some ⟨(c.φ 0).1,(c.φ 0).2,none⟩) l.length cap/\l.length<=cap/\cap<=9223372036854775807/\(c.φ 0).2+cap<=cs.size/\Holds (Value.int .i64) c.w (c.φ 0).1 (c.φ 0).2 l.toArray/\(c.φ 0).1<c.w.heap.size:=by
 have hlv:c.live 0 ⟨ver,1,3,l.map cI⟩:=by
  unfold Cx.live;rw [hH]
  rfl
 obtain ⟨cs,fr0,hB⟩:=hr.blk 0 _ hlv
 cases hu with
 | fr h=>cases h
 | @hs _ _ _ _ _ cap A hb hc hm h0 h=>
 obtain ⟨f,rfl,hat,hhd⟩:=hB.cells hlv (fun x hx=>(h x hx).1);obtain ⟨_,_,h3,h4⟩:=h _ hhd;have hA:=h3 (by omega);simp only [Nat.zero_mul,Nat.add_zero,Nat.mul_one] at hA h4;refine ⟨cs,f,cap,hB,by rw [hA],hc,hm,h4,fun j hj=>?_,hr.live_lt hlv⟩;have hj:j<l.length:=by simpa using hj
 have hj2:(c.φ 0).2+j<cs.size:=by omega
 obtain ⟨u,g1,g2,g3⟩:=hB.rel j (cI l[j]) 0 (I l[j]) (by simp [hj]) rfl;refine ⟨?_,?_⟩
 ·simp only [World.cell?,hat];have := fS g3;simp only [Nat.mul_one,Nat.add_zero] at g1;rw [g1];obtain ⟨rfl,_⟩:=this;simp [hj]
 have := hB.free f rfl _ hj2;obtain ⟨lo,hi'⟩:=f;simp only [World.frozen?,hat,Bool.and_eq_false_iff,decide_eq_false_iff_not];simp only at this;omega
open Go.Shelf Go.RowKit Go.Lib Go.Sort

open Go.ChangeShapes Go.WideShapes Go.ChangeAt Go.RowKit Go.Shelf Go.Sort

def I8:Go.Shelf.Ren:=⟨fun | 5=>62 | 8=>114 | 7=>113 | 19=>162 | 20=>163 | 10=>153 | 11=>154 | 12=>155 | 13=>156 | 14=>157 | 15=>158 | 16=>159 | 17=>160 | 18=>161 | 30=>188 | 31=>189 | 32=>190 | 33=>191 | 34=>192 | 35=>193 | 40=>211 | n=>n,fun | 23=>23 | 25=>3 | 3=>3 | 32=>131 | 22=>23 | 0=>0 | 44=>180 | 46=>182 | 4=>4 | 36=>175 | 35=>174 | 41=>137 | 5=>5 | 9=>9 | 53=>193 | 57=>197 | 63=>211 | 64=>212 | n=>n,fun | n=>n⟩
theorem Gh:Go.Proofs.SlLaysM.n5 Tryz.prog I8 where
 mixed:=by kernel_rfl
 f5 := ⟨"slices.Sort[[]int,int]",by decide,Tryz.func62.trans (congrArg some (by kernel_rfl))⟩
 f7 := ⟨"slices.pdqsortOrdered[int]",by decide,Tryz.func113.trans (congrArg some (by kernel_rfl))⟩
 f8:=Tryz.func114.trans (congrArg some (by kernel_rfl))
 f10 := ⟨"slices.insertionSortOrdered[int]",by decide,Tryz.func153.trans (congrArg some (by kernel_rfl))⟩
 f11 := ⟨"slices.heapSortOrdered[int]",by decide,Tryz.func154.trans (congrArg some (by kernel_rfl))⟩
 f12 := ⟨"slices.breakPatternsOrdered[int]",by decide,Tryz.func155.trans (congrArg some (by kernel_rfl))⟩
 f13 := ⟨"slices.choosePivotOrdered[int]",by decide,Tryz.func156.trans (congrArg some (by kernel_rfl))⟩
 f14 := ⟨"slices.reverseRangeOrdered[int]",by decide,Tryz.func157.trans (congrArg some (by kernel_rfl))⟩
 f15 := ⟨"slices.partialInsertionSortOrdered[int]",by decide,Tryz.func158.trans (congrArg some (by kernel_rfl))⟩
 f16 := ⟨"cmp.Less[int]",by decide,Tryz.func159.trans (congrArg some (by kernel_rfl))⟩
 f17 := ⟨"slices.partitionEqualOrdered[int]",by decide,Tryz.func160.trans (congrArg some (by kernel_rfl))⟩
 f18 := ⟨"slices.partitionOrdered[int]",by decide,Tryz.func161.trans (congrArg some (by kernel_rfl))⟩
 f19:=Tryz.func162.trans (congrArg some (by kernel_rfl))
 f20:=Tryz.func163.trans (congrArg some (by kernel_rfl))
 f30 := ⟨"slices.siftDownOrdered[int]",by decide,Tryz.func188.trans (congrArg some (by kernel_rfl))⟩
 f31:=Tryz.func189.trans (congrArg some (by kernel_rfl))
 f32:=Tryz.func190.trans (congrArg some (by kernel_rfl))
 f33 := ⟨"slices.medianAdjacentOrdered[int]",by decide,Tryz.func191.trans (congrArg some (by kernel_rfl))⟩
 f34 := ⟨"slices.medianOrdered[int]",by decide,Tryz.func192.trans (congrArg some (by kernel_rfl))⟩
 f35 := ⟨"cmp.isNaN[int]",by decide,Tryz.func193.trans (congrArg some (by kernel_rfl))⟩
 f40 := ⟨"slices.order2Ordered[int]",by decide,Tryz.func211.trans (congrArg some (by kernel_rfl))⟩
 t0:=Tryz.underlying0
 a0:=Tryz.isAgg0
 z0:=Tryz.sizeOf0
 v0:=Tryz.zeroValue0
 t3:=Tryz.underlying3
 a3:=Tryz.isAgg3
 z3:=Tryz.sizeOf3
 v3:=Tryz.zeroValue3
 t4:=Tryz.underlying4
 a4:=Tryz.isAgg4
 z4:=Tryz.sizeOf4
 v4:=Tryz.zeroValue4
 t5:=Tryz.underlying5
 a5:=Tryz.isAgg5
 z5:=Tryz.sizeOf5
 v5:=Tryz.zeroValue5
 t9:=Tryz.underlying9
 a9:=Tryz.isAgg9
 z9:=Tryz.sizeOf9
 v9:=Tryz.zeroValue9
 t22:=Tryz.underlying23
 a22:=Tryz.isAgg23
 z22:=Tryz.sizeOf23
 v22:=Tryz.zeroValue23
 t23:=Tryz.underlying23
 a23:=Tryz.isAgg23
 z23:=Tryz.sizeOf23
 v23:=Tryz.zeroValue23
 t25:=Tryz.underlying3
 a25:=Tryz.isAgg3
 z25:=Tryz.sizeOf3
 v25:=Tryz.zeroValue3
 t32:=Tryz.underlying131
 a32:=Tryz.isAgg131
 z32:=Tryz.sizeOf131
 v32:=Tryz.zeroValue131
 t35:=Tryz.underlying174
 a35:=Tryz.isAgg174
 z35:=Tryz.sizeOf174
 v35:=Tryz.zeroValue174
 t36:=Tryz.underlying175
 a36:=Tryz.isAgg175
 z36:=Tryz.sizeOf175
 v36:=Tryz.zeroValue175
 t41:=Tryz.underlying137
 a41:=Tryz.isAgg137
 z41:=Tryz.sizeOf137
 v41:=Tryz.zeroValue137
 t44:=Tryz.underlying180
 a44:=Tryz.isAgg180
 z44:=Tryz.sizeOf180
 v44:=Tryz.zeroValue180
 t46:=Tryz.underlying182
 a46:=Tryz.isAgg182
 z46:=Tryz.sizeOf182
 v46:=Tryz.zeroValue182
 t53:=Tryz.underlying193
 a53:=Tryz.isAgg193
 z53:=Tryz.sizeOf193
 v53:=Tryz.zeroValue193
 t57:=Tryz.underlying197
 a57:=Tryz.isAgg197
 z57:=Tryz.sizeOf197
 v57:=Tryz.zeroValue197
 t63:=Tryz.underlying211
 a63:=Tryz.isAgg211
 z63:=Tryz.sizeOf211
 v63:=Tryz.zeroValue211
 t64:=Tryz.underlying212
 a64:=Tryz.isAgg212
 z64:=Tryz.sizeOf212
 v64:=Tryz.zeroValue212
theorem wY (l:LI) (g:Bool) (ver:Nat) (hg:g=true->l=[]) {q} (h:l4 l=some q) :
  li Tryz.prog 62 [hS g 0 ver 1 l.length] [bE g ver 1 3 (l.map cI)] (.tup []) [bE g ver 1 3 (q.map cI)]:=by
 obtain ⟨hl,h⟩:=gdD h;obtain rfl:=osl h;refine ⟨by kernel_rfl,fun c vs hH hr hall=>?_⟩;obtain ⟨hsz,hrel⟩:=hall;obtain ⟨u,rfl⟩:∃ u,vs = #[u]:=by
  match vs,hsz with
  | ⟨[u]⟩,_=>exact ⟨u,rfl⟩
 have hu:=hrel 0 _ u rfl rfl
 by_cases hn:0<l.length
 ·obtain rfl:g=false:=by
   cases g with
   | false=>rfl
   | true=>
    rw [hg rfl] at hn;exact absurd hn (by simp)
  have hH:c.H=[some ⟨ver,1,3,l.map cI⟩]:=hH;obtain ⟨cs,fr0,cap,hB,rfl,hc,hm,hcs,hHo,hblk⟩:=FL hr hH hu hn;have hcon:=AnyM.slices_Sort_int Gh (c.φ 0).1 (c.φ 0).2 cap l c.w hHo hblk hl;refine (show Calls Tryz.prog 62 _ _ _ from hcon).mono ?_;rintro e w' ⟨rfl,m,os,rfl⟩;have hll:(EY l).length=l.length:=(mI l).length_eq;obtain ⟨c',w1,w2,w3,w4,w5,w6⟩:=FK hr hH hB (q:=EY l) (ver':=ver) (d':=(EY l).toArray) (by simpa using hll) (by simp) (fun k hk=>by
   rw [getElem!_pos _ k (by simpa using hk)];simp) (m:=m) (os:=os) (.inl ⟨rfl,hll⟩)
  exact ⟨_,c',Z,w1,w2,w3,w4,.tup Z (fun i x y hx=>by simp at hx)⟩
 obtain rfl:l=[]:=P8 (by omega);obtain ⟨A,cap,rfl⟩:∃ A cap,u = .slice A 0 cap:=by
  cases g with
  | true=>
   cases hu with
   | fr h=>cases h;exact ⟨_,_,rfl⟩
  | false=>
   obtain ⟨A,cap,h6,_⟩:=mD hu;exact ⟨A,cap,h6⟩
 refine (show Calls Tryz.prog 62 _ _ _ from AnyM.slices_Sort_int_none Gh A cap c.w).mono ?_;rintro e w' ⟨rfl,rfl⟩;refine ⟨_,c,Z,Z,?_,hr,Ext.refl c,.tup Z (fun i x y hx=>by simp at hx)⟩;rw [hH,(mI []).eq_nil]
section
variable {α:Type} [Inhabited α] {c:α->List AV}
theorem StlRows.repG {m:Nat} {H:AH} {f:α->List AV} {zs:List AV} (h:StlL m H zs (f default)):∀ n:Nat,StlRows m H (List.replicate n zs) ((List.replicate n (default:α)).map f)
 | 0 => .nil
 | n+1 => .cons h (StlRows.repG h n)
def nE (c:α->List AV):List α->AV
 | [] => .nil
 | a::l=>eL c (a::l)
theorem I9 (l:List α):isF 9 (nE c l)=true:=by cases l <;> rfl
theorem JU {l:List α} (h:0<(l.length:Int)):nE c l=eL c l:=by
 cases l with
 | nil=>exact absurd h (by simp)
 | cons a l=>rfl
theorem Ja (l:List α):EqS (nE c l) (eL c l):=by
 cases l with
 | nil=>
  intro w fz v h
  cases h
  exact FRel.sl (s:=0) (g:=0) (o:=0) (fun _ _ => .bool false) (PG _) (by omega) (fun h=>absurd h (by simp)) (fun i h=>absurd h (by simp)) (fun i j c h=>absurd h (by simp)) (fun i j c h=>absurd h (by simp)) (fun i j c h=>absurd h (by simp))
 | cons a l=>exact EqS.refl _
theorem Jb {C:Cx} {l:List α} {v:Value} (h:C.rel (nE c l) v):∃ A n cap,v = .slice A n cap/\A.isNone=l.isEmpty:=by
 cases l with
 | nil=>exact ⟨none,0,0,dC h,rfl⟩
 | cons a l=>
  obtain ⟨A,n,cap,e,k⟩:=C8 (xs:=a::l) h;refine ⟨A,n,cap,e,?_⟩
  cases A with
  | none=>cases k rfl
  | some _=>rfl
variable {P:Program} {ρ:Operand->AV} {x y:Operand} {t u e:TypeId} {ag:Bool} {w m:Nat} {zs:List AV}
theorem Kz.lenE {l:List α} (q:SlT P t e ag w zs m) (hx:ρ x=nE c l):Kz P ρ (.call ⟨.builtin .len,#[x],#[t]⟩) (I l.length):=by
 cases l with
 | nil=>exact Kz.lenZ q hx
 | cons a l=>exact Kz.lenL q hx
theorem Kz.nilB {neq:Bool} {l:List α} (hu:P.underlying t=some (.slice e)) (hx:ρ x=nE c l) (hy:ρ y = .nil):Kz P ρ (.binOp (bif neq then .neq else .eql) t x y u) (Bo (bif neq then !l.isEmpty else l.isEmpty)):=fun o ho G=>by
 intro C a K Q hH hrel hxs hK;have ox:=hx ▸ hxs x (by rw [ho];simp [Op.operands]);have oy:=hy ▸ hxs y (by rw [ho];simp [Op.operands]);obtain ⟨A,n,cap,hv,hA⟩:=Jb ox;have hv2:=dC oy;have hrun:(execOp a.eval o).run P C.w = .ok (.value (.bool (bif neq then !l.isEmpty else l.isEmpty))) C.w:=by
  rw [execOp,ho];refine nQ _ ?_;rw [hv,hv2,<- hA]
  cases neq
  ·simp only [cond_false];have : (eqGuard .eql t x y (.slice A n cap) (.slice none 0 0)).run P C.w = .ok () C.w:=by simp [eqGuard]
   simp only [Sem.run_bind,this,Result.andThen_ok,binOp,qo C.w A n cap hu,Sem.run_pure]
  simp only [cond_true];have : (eqGuard .neq t x y (.slice A n cap) (.slice none 0 0)).run P C.w = .ok () C.w:=by simp [eqGuard]
  simp only [Sem.run_bind,this,Result.andThen_ok,binOp,qo C.w A n cap hu,Sem.run_pure]
 unfold Oper.wp;rw [hrun,Oper.upon_value];exact hK _ C hH hrel (Ext.refl C) (.fr (.v rfl))
theorem Kz.nilEq {l:List α} (hu:P.underlying t=some (.slice e)) (hx:ρ x=nE c l) (hy:ρ y = .nil):Kz P ρ (.binOp .eql t x y u) (Bo l.isEmpty):=Kz.nilB (neq:=false) hu hx hy
theorem Kz.nilNe {l:List α} (hu:P.underlying t=some (.slice e)) (hx:ρ x=nE c l) (hy:ρ y = .nil):Kz P ρ (.binOp .neq t x y u) (Bo (!l.isEmpty)):=Kz.nilB (neq:=true) hu hx hy
end
def oh (ops:Array Oper) (e:Env) (o:Oper) (w:Bool):Prop:=match o.guard with
 | none=>w=true
 | some (j,b)=>(∃ q,fT ops.toList e j = .v (.bool q)/\w=(q==b))\/(fT ops.toList e j = .tup []/\w=false)
theorem oh.wants {ops:Array Oper} {e:Env} {o:Oper} {w:Bool} (h:oh ops e o w):tq ops e o w:=by
 unfold oh at h
 cases hg:o.guard with
 | none=>
  rw [hg] at h;subst h;exact .free hg
 | some x=>
  obtain ⟨j,b⟩:=x;rw [hg] at h;rcases h with ⟨q,h1,h2⟩ | ⟨h1,h2⟩
  ·subst h2
   by_cases e1:q=b
   ·subst e1;rw [beq_self_eq_true];exact .yes hg h1 rfl
   have e2:(q==b)=false:=by simpa using e1
   rw [e2];exact .no hg h1 (by cases q <;> cases b <;> simp_all)
  subst h2;exact .un hg h1
theorem oh.congr {ops:Array Oper} {e e':Env} {o:Oper} {w:Bool} (h:oh ops e o w) (he:∀ t∈o.looksAt ops,e t=e' t):oh ops e' o w:=by
 unfold oh at h ⊢
 cases hg:o.guard with
 | none=>rw [hg] at h;exact h
 | some x=>
  obtain ⟨j,b⟩:=x;rw [hg] at h;have hy:fT ops.toList e' j=fT ops.toList e j:=by
   unfold fT
   cases hd:(ops.toList[j]?).bind (·.dst) with
   | none=>rfl
   | some d=>
    refine (he d ?_).symm;unfold Oper.looksAt;rw [hg];refine List.mem_append_right _ ?_;have : (ops[j]?).bind (·.dst)=some d:=by simpa using hd
    show d∈((ops[j]?).bind (·.dst)).toList;rw [this];simp
  simp only [hy];exact h
theorem Ex {ops:Array Oper} {e e':Env} {o:Oper} (he:∀ t∈o.looksAt ops,e t=e' t):∀ x∈o.op.operands,rho e x=rho e' x:=by
 intro x hx
 cases x with
 | tmp t=>exact he t (PZ _ (List.mem_filterMap.2 ⟨.tmp t,by simpa using hx,rfl⟩))
 | _=>rfl
theorem zR {ops:Array Oper} {e:Env} {oi oj:Oper} {r:AV} (h:∀ d,oi.dst=some d->d∉oj.looksAt ops):∀ t∈oj.looksAt ops,rG e oi.dst r t=e t:=by
 intro t ht
 cases hd:oi.dst with
 | none=>rfl
 | some d=>
  rw [rJ];show (if t=d then r else e t)=e t;have hne:t≠d:=by
   rintro rfl;exact h t hd ht
  rw [if_neg hne]
def Jc (P:Program) (ops:Array Oper) (o:Oper) (e:Env) (H:AH) (r:AV) (H':AH):Prop:=(oh ops e o true/\OpS P o (rho e) H r H')\/(oh ops e o false/\r = .tup []/\H'=H)
theorem Jc.congr {P:Program} {ops:Array Oper} {o:Oper} {e e':Env} {H H':AH} {r:AV} (h:Jc P ops o e H r H') (he:∀ t∈o.looksAt ops,e t=e' t):Jc P ops o e' H r H':=by
 rcases h with ⟨h1,h2⟩ | ⟨h1,h2⟩
 ·exact .inl ⟨h1.congr he,h2.congr (Ex he)⟩
 exact .inr ⟨h1.congr he,h2⟩
def o7 (P:Program) (ops:Array Oper) (o:Oper) (e:Env) (H:AH) (r:AV) (H':AH) (F:List Nat):Prop:=
 H'.length=H.length/\(∀ b,b∉F->H'[b]? = H[b]?)/\∀ G,agree F G H->∃ G',G'.length=G.length/\(∀ b∈F,G'[b]? = H'[b]?)/\(∀ b,b∉F->G'[b]? = G[b]?)/\Jc P ops o e G r G'
section
variable {P:Program} {ops:Array Oper} {o:Oper} {e:Env} {H H':AH} {r:AV} {F:List Nat}
theorem o7.op (h:o7 P ops o e H r H' F):Jc P ops o e H r H':=by
 obtain ⟨h1,h2,h3⟩:=h;obtain ⟨G',g1,g2,g3,g4⟩:=h3 H ⟨rfl,fun _ _=>rfl⟩;have : G'=H':=by
  apply PH;intro b
  by_cases hb:b∈F
  ·exact g2 b hb
  rw [g3 b hb,h2 b hb]
 exact this ▸ g4
theorem o7.congr {e':Env} (h:o7 P ops o e H r H' F) (he:∀ t∈o.looksAt ops,e t=e' t):o7 P ops o e' H r H' F:=by
 obtain ⟨h1,h2,h3⟩:=h;refine ⟨h1,h2,fun G hG=>?_⟩;obtain ⟨G',g1,g2,g3,g4⟩:=h3 G hG;exact ⟨G',g1,g2,g3,g4.congr he⟩
theorem o7.at_ {G:AH} (h:o7 P ops o e H r H' F) (hG:agree F G H):∃ G',G'.length=G.length/\(∀ b∈F,G'[b]? = H'[b]?)/\(∀ b,b∉F->G'[b]? = G[b]?)/\o7 P ops o e G r G' F:=by
 obtain ⟨h1,h2,h3⟩:=h;obtain ⟨G',g1,g2,g3,g4⟩:=h3 G hG;refine ⟨G',g1,g2,g3,g1,g3,fun K hK=>?_⟩;obtain ⟨K',k1,k2,k3,k4⟩:=h3 K ⟨hK.1.trans hG.1,fun b hb=>(hK.2 b hb).trans (hG.2 b hb)⟩;exact ⟨K',k1,fun b hb=>(k2 b hb).trans (g2 b hb).symm,k3,k4⟩
theorem o7.ofF (hw:oh ops e o true) (h:mU P o (rho e) H r H' F):o7 P ops o e H r H' F:=by
 obtain ⟨h1,h2,h3⟩:=h;refine ⟨h1,h2,fun G hG=>?_⟩;obtain ⟨G',g1,g2,g3,g4⟩:=h3 G hG;exact ⟨G',g1,g2,g3,.inl ⟨hw,g4⟩⟩
theorem o7.skip (hw:oh ops e o false) (F:List Nat):o7 P ops o e H (.tup []) H F:=⟨rfl,fun _ _=>rfl,fun G hG=>⟨G,rfl,hG.2,fun _ _=>rfl,.inr ⟨hw,rfl,rfl⟩⟩⟩
def H6 (P:Program) (ops:Array Oper) (fp:Nat->Fp) (Q:Env->AH->Prop):Nat->Array Bool->Env->AH->Prop
 | 0,listed,e,H=>Region.ready .any ops listed=[]/\Q e H
 | fuel+1,listed,e,H=>(Region.ready .any ops listed=[]->Q e H) /\
  ∀ i∈Region.ready .any ops listed,∃ o r H',ops[i]? = some o/\o7 P ops o e H r H' (fp i).1/\((fp i).2=false->H'=H)/\H6 P ops fp Q fuel (listed.setIfInBounds i true) (rG e o.dst r) H'
theorem Cg {ops:Array Oper} {fp:Nat->Fp} {Q:Env->AH->Prop} {i:Nat} {oi:Oper} {r:AV} (hi:ops[i]? = some oi) :
  ∀ (fuel:Nat) (listed:Array Bool) (e:Env) (H Hi:AH),
   (∀ (j:Nat) (oj:Oper),ops[j]? = some oj->j≠i->listed.getD j true=false->(∀ ed∈oj.after,Region.binds .any ed=true->ed.on≠i)->oi.apart ops oj=true/\lC (fp i) (fp j)=true) ->
   i∈Region.ready .any ops listed->o7 P ops oi e H r Hi (fp i).1->((fp i).2=false->Hi=H)->H6 P ops fp Q fuel (listed.setIfInBounds i true) (rG e oi.dst r) Hi->H6 P ops fp Q (fuel+1) listed e H:=by
 intro fuel
 induction fuel with
 | zero=>
  intro listed e H Hi _ hr hy hro hA;refine ⟨fun h=>(by rw [h] at hr;cases hr),fun j hj=>?_⟩
  by_cases hji:j=i
  ·subst hji;exact ⟨oi,r,Hi,hi,hy,hro,hA⟩
  have := ready_mono hj hji;rw [hA.1] at this
  cases this
 | succ fuel ih=>
  intro listed e H Hi hfree hr hy hro hA;refine ⟨fun h=>(by rw [h] at hr;cases hr),fun j hj=>?_⟩
  by_cases hji:j=i
  ·subst hji;exact ⟨oi,r,Hi,hi,hy,hro,hA⟩
  obtain ⟨oj,q,Hj,hoj,hsj,hroj,hAj⟩:=hA.2 j (ready_mono hj hji);obtain ⟨hjun,oj',hoj',hall⟩:=mem_ready.1 hj;rw [hoj] at hoj';injection hoj' with hoj';subst hoj';have hnot:∀ ed∈oj.after,Region.binds .any ed=true->ed.on≠i:=fun ed he hb heq=>by
   have h1:=hall ed he hb;have h0:=(mem_ready.1 hr).1;rw [heq] at h1;rcases Nat.lt_or_ge i listed.size with h' | h'
   ·simp [h'] at h0 h1;rw [h0] at h1;cases h1
   simp [Array.getElem?_eq_none h'] at h1
  obtain ⟨hap,hcm⟩:=hfree j oj hoj hji hjun hnot;obtain ⟨h1,h2,h3⟩:=Oper.apart_spec hap;have ej:=zR (e:=e) (r:=r) h1;have ei:=zR (e:=e) (oi:=oj) (r:=q) h3;have hsj':=hsj.congr ej;have hfree':∀ (k:Nat) (ok:Oper),ops[k]? = some ok->k≠i->(listed.setIfInBounds j true).getD k true=false->(∀ ed∈ok.after,Region.binds .any ed=true->ed.on≠i)->oi.apart ops ok=true/\lC (fp i) (fp k)=true:=fun k ok hk hki hun hno=>by
   refine hfree k ok hk hki ?_ hno
   by_cases hjk:j=k
   ·subst hjk;exact hjun
   rw [getD_set_ne true hjk] at hun;exact hun
  have fin:∀ Hj',o7 P ops oj e H q Hj' (fp j).1->((fp j).2=false->Hj'=H)->o7 P ops oi e Hj' r Hj (fp i).1->((fp i).2=false->Hj=Hj')->∃ o r' H',ops[j]? = some o/\o7 P ops o e H r' H' (fp j).1/\((fp j).2=false->H'=H)/\H6 P ops fp Q (fuel+1) (listed.setIfInBounds j true) (rG e o.dst r') H':=fun Hj' s1 s1' s2 s2'=>by
   refine ⟨oj,q,Hj',hoj,s1,s1',ih (listed.setIfInBounds j true) (rG e oj.dst q) Hj' Hj hfree' (ready_mono hr (Ne.symm hji)) (s2.congr fun x hx=>(ei x hx).symm) s2' ?_⟩;rw [Array.setIfInBounds_comm _ _ hji,wC (fun d hd=>fun hd'=>h2 d (by simpa using hd') (by simpa using hd))];exact hAj
  simp only [lC,Bool.or_eq_true,bae,Bool.not_eq_true',PD,List.contains_eq_mem,decide_eq_false_iff_not] at hcm;rcases hcm with hdis | ⟨w1,w2⟩
  ·have hag:agree (fp j).1 H Hi:=⟨hy.1.symm,fun b hb=>(hy.2.1 b (fun hbi=>hdis b hbi hb)).symm⟩;obtain ⟨Hj',a1,a2,a3,a4⟩:=hsj'.at_ hag;have hag2:agree (fp i).1 Hj' H:=⟨a1,fun b hb=>a3 b (hdis b hb)⟩;obtain ⟨K,b1,b2,b3,b4⟩:=hy.at_ hag2;have hKH:K=Hj:=by
    apply PH;intro b
    by_cases hbi:b∈(fp i).1
    ·rw [b2 b hbi,hsj'.2.1 b (hdis b hbi)]
    rw [b3 b hbi]
    by_cases hbj:b∈(fp j).1
    ·exact a2 b hbj
    rw [a3 b hbj,hsj'.2.1 b hbj,hy.2.1 b hbi]
   subst hKH;refine fin Hj' a4 (fun hw=>?_) b4 (fun hw=>?_)
   ·apply PH;intro b
    by_cases hbj:b∈(fp j).1
    ·rw [a2 b hbj,hroj hw,hy.2.1 b (fun hbi=>hdis b hbi hbj)]
    exact a3 b hbj
   apply PH;intro b
   by_cases hbi:b∈(fp i).1
   ·rw [b2 b hbi,hro hw,a3 b (hdis b hbi)]
   exact b3 b hbi
  obtain rfl:=hro w1;obtain rfl:=hroj w2;exact fin _ hsj' (fun _=>rfl) hy (fun _=>rfl)
def Jp (ops:Array Oper) (fp:Nat->Fp):Bool:=
 Region.lexB .any ops &&
 (Px ops.size).all fun i=>(Px ops.size).all fun j=>decide (j<=i)||lC (fp i) (fp j)||match ops[j]? with
  | some oj=>oj.after.any fun ed=>Region.binds .any ed&&ed.on==i
  | none=>true
def TG (P:Program) (ops:Array Oper) (fp:Nat->Fp):Nat->List Oper->(Env->AH->Prop)->Env->AH->Prop
 | _,[],K,e,H=>K e H
 | k,o::rest,K,e,H=>∃ r H',o7 P ops o e H r H' (fp k).1/\((fp k).2=false->H'=H)/\TG P ops fp (k+1) rest K (rG e o.dst r) H'
theorem Ey {ops:Array Oper} {fp:Nat->Fp} {Q:Env->AH->Prop} (hc:Jp ops fp=true):∀ (l:List Oper) (k:Nat) (listed:Array Bool) (e:Env) (H:AH),(∀ j,l[j]? = ops[k+j]?)->listed.size=ops.size->(∀ j,j<k->listed.getD j true=true) ->
  Region.lexFrom .any ops l.length k listed=true->TG P ops fp k l Q e H->H6 P ops fp Q l.length listed e H
 | [],k,listed,e,H,_,_,_,hB,h=>⟨by simpa [Region.lexFrom] using hB,h⟩
 | o::l,k,listed,e,H,hl,hsz,hbef,hB,h=>by
  have h0:ops[k]? = some o:=by simpa using (hl 0).symm
  have hk:k<ops.size:=(PX.1 h0).1;simp only [llc,Region.lexFrom,bae] at hB;obtain ⟨⟨hr,hf⟩,hB'⟩:=hB;obtain ⟨r,H',hs,hro,hK⟩:=h;refine Cg h0 l.length listed e H H' (fun j oj hj hne hun hno=>⟨Region.free_spec h0 hf j oj hj hne hun hno,?_⟩) (by simpa using hr) hs hro
   (Ey hc l (k+1) _ _ _ (fun j=>by have := hl (j+1);simpa [Nat.add_assoc,Nat.add_comm 1 j] using this) (by simpa using hsz) (fun j hj=>?_) hB' hK)
  ·have hjs:j<ops.size:=(PX.1 hj).1;have hkj : ¬ j<=k:=fun hle=>by
    have := hbef j (by omega);rw [this] at hun
    cases hun
   simp only [Jp,bae,PD,PE] at hc;have := hc.2 k hk j hjs;simp only [hj,Bool.or_eq_true,dte,hkj,false_or] at this;rcases this with h1 | h1
   ·exact h1
   rw [Array.any_eq_true'] at h1;obtain ⟨ed,h2,h3⟩:=h1;simp only [bae,beq_iff_eq] at h3;exact absurd h3.2 (hno ed h2 h3.1)
  by_cases e:j=k
  ·subst e;simp [hsz,hk]
  rw [getD_set_ne true (Ne.symm e)];exact hbef j (by omega)
theorem tV {nt:Nat} {ops:Array Oper} {fp:Nat->Fp} {Q:Exit->Env->AH->Prop} (hd:CI nt ops.toList=true):∀ (fuel:Nat) (listed:Array Bool) (e:Env) (H:AH),H6 P ops fp (Q .normal) fuel listed e H ->
  ∀ (c c0:Cx) (a:Act),c.H=H->Ext c0 c->SRel c nt e a->wpAny P .any ops (Ih nt c0 Q) fuel listed a c.w
 | 0,listed,e,H,h,c,c0,a,hH,hx,hs=>⟨h.1,trivial,c,e,rfl,hx,hs,hH ▸ h.2⟩
 | fuel+1,listed,e,H,h,c,c0,a,hH,hx,hs=>by
  refine ⟨fun hr=>⟨trivial,c,e,rfl,hx,hs,hH ▸ h.1 hr⟩,fun i hi=>?_⟩;obtain ⟨o,r,H',ho,hst,_,hA⟩:=h.2 i hi;have hm:o∈ops.toList:=by rw [Array.mem_toList_iff];exact Array.mem_of_getElem? ho
  unfold wpOp;simp only [ho];rcases hst.op with ⟨hw,hop⟩ | ⟨hw,rfl,rfl⟩
  ·rw [if_pos (hw.wants nt c a hs)];refine .inl (hop c a _ _ hH hs.heap (fun x _=>hs.rho x) fun v c' hH' hr' hx' hv=>?_);exact tV hd fuel _ _ H' hA c' c0 _ hH' (hx.trans hx') (hs.put o.dst (mG hd hm) hx' hr' hv)
  rw [hw.wants nt c a hs];exact tV hd fuel _ _ _ hA c c0 _ hH hx (hs.put o.dst (mG hd hm) (Ext.refl c) hs.heap (.tup (vs:=#[]) rfl (fun i q u hq=>by simp at hq)))
end
section
variable {P:Program} {nt b0:Nat} {Q:Exit->Env->AH->Prop} {e:Env} {H H':AH} {r:AV}
theorem T.drawG {i:Nat} {ops:Array Oper} (fp:Nat->Fp) (hm:P.follows .mixedOrders=true) (hc:Jp ops fp=true) (h:TG P ops fp 0 ops.toList (Q .normal) e H):T P nt b0 (.region i ops true) Q e H:=by
 intro hok c c0 a hH hb hx hs;simp only [codeOk] at hok;have hc':=hc;simp only [Jp,bae,Region.lexB] at hc';refine wp_region_any hm ?_;have hlex:=Ey hc ops.toList 0 (Array.replicate ops.size false) e H (fun j=>by simp) (by simp) (fun j hj=>absurd hj (by omega)) (by simpa using hc'.1.2) h;have := tV hok ops.toList.length _ e H hlex c.drew c0 a hH (hx.trans c.drew_ext) ⟨hs.size,hs.defers,fun t=>(hs.rel t).ext hs.heap c.drew_ext,Cx.drew_rel hs.heap⟩;rw [Array.length_toList] at this;exact this
variable {ops:Array Oper} {d:Tmp} {op:Op} {ty:TypeId} {pos:String} {af:Array Edge} {en:List (Nat×AV)} {fp:Nat->Fp} {i:Nat} {K:Env->AH->Prop} {l:List Oper}
theorem TG.nil {k:Nat} (h:K e H):TG P ops fp k [] K e H:=h
theorem oh.y {o:Oper} {j:Nat} {b q:Bool} (hg:o.guard=some (j,b)) (hy:fT ops.toList e j = .v (.bool q)) (hq:q=b):oh ops e o true:=by
 unfold oh;rw [hg];exact .inl ⟨q,hy,by rw [hq];simp⟩
theorem oh.n {o:Oper} {j:Nat} {b q:Bool} (hg:o.guard=some (j,b)) (hy:fT ops.toList e j = .v (.bool q)) (hq:q = !b):oh ops e o false:=by
 unfold oh;rw [hg];exact .inl ⟨q,hy,by rw [hq];cases b <;> rfl⟩
theorem oh.u {o:Oper} {j:Nat} {b:Bool} (hg:o.guard=some (j,b)) (hy:fT ops.toList e j = .tup []):oh ops e o false:=by
 unfold oh;rw [hg];exact .inr ⟨hy,rfl⟩
theorem tN (hc:fp i=([],false)) (hv:Kz P (rho (ak en)) op r) (h:TG P ops fp (i+1) l K (ak ((d,r)::en)) H):TG P ops fp i (⟨some d,op,ty,pos,af,none⟩::l) K (ak en) H:=
 ⟨r,H,by rw [hc];exact .ofF rfl (Af hv),fun _=>rfl,h⟩
theorem tR (F:List Nat) (hc:fp i=(F,false)) (hv:∀ G,agree F G H->EvA P (rho (ak en)) op G r G) (h:TG P ops fp (i+1) l K (ak ((d,r)::en)) H):TG P ops fp i (⟨some d,op,ty,pos,af,none⟩::l) K (ak en) H:=
 ⟨r,H,by rw [hc];exact .ofF rfl (Ag hv),fun _=>rfl,h⟩
theorem KO {j:Nat} {b q:Bool} (hy:fT ops.toList (ak en) j = .v (.bool q)) (hq:q=b) (hc:fp i=([],false)) (hv:Kz P (rho (ak en)) op r) (h:TG P ops fp (i+1) l K (ak ((d,r)::en)) H):TG P ops fp i (⟨some d,op,ty,pos,af,some (j,b)⟩::l) K (ak en) H:=
 ⟨r,H,by rw [hc];exact .ofF (.y rfl hy hq) (Af hv),fun _=>rfl,h⟩
theorem tgR {j:Nat} {b q:Bool} (hy:fT ops.toList (ak en) j = .v (.bool q)) (hq:q=b) (F:List Nat) (hc:fp i=(F,false)) (hv:∀ G,agree F G H->EvA P (rho (ak en)) op G r G) (h:TG P ops fp (i+1) l K (ak ((d,r)::en)) H):TG P ops fp i (⟨some d,op,ty,pos,af,some (j,b)⟩::l) K (ak en) H:=
 ⟨r,H,by rw [hc];exact .ofF (.y rfl hy hq) (Ag hv),fun _=>rfl,h⟩
theorem KP {j:Nat} {b q:Bool} (hy:fT ops.toList (ak en) j = .v (.bool q)) (hq:q = !b) (h:TG P ops fp (i+1) l K (ak ((d,.tup [])::en)) H):TG P ops fp i (⟨some d,op,ty,pos,af,some (j,b)⟩::l) K (ak en) H:=
 ⟨.tup [],H,.skip (.n rfl hy hq) _,fun _=>rfl,h⟩
theorem tgU {j:Nat} {b:Bool} (hy:fT ops.toList (ak en) j = .tup []) (h:TG P ops fp (i+1) l K (ak ((d,.tup [])::en)) H):TG P ops fp i (⟨some d,op,ty,pos,af,some (j,b)⟩::l) K (ak en) H:=
 ⟨.tup [],H,.skip (.u rfl hy) _,fun _=>rfl,h⟩
end
end
end Go.Proofs.YtpkhamajimidnaaGreatDoor
