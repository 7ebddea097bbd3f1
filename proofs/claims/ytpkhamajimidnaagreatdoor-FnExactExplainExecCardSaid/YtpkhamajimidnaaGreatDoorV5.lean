/- Texts joined. No conditions. -/
import Derived.Lib.Bytealg
import Derived.Laws.Externs
import Derived.Lib.Join
import Derived.Test.YtpkhamajimidnaaGreatDoorV4
namespace Go.Proofs.YtpkhamajimidnaaGreatDoor
noncomputable section
open _root_.List renaming getElem?_cons_zero -> MX, range -> M0, getElem?_cons_succ -> M4, getElem?_set_self -> M5, getElem?_set_ne -> M6, mem_map -> M7, getElem_map -> M8, getElem?_map -> M9, length_range -> Na, all_eq_true -> Nc, getElem?_take -> Nf, length_take -> Ng, ext_getElem? -> Nk, getElem?_drop -> Nn, length_set -> Nq, take_of_length_le -> Nw, map_congr_left -> Ny
open _root_.Nat renaming ble -> MZ, le_refl -> M3, lt_or_ge -> Nb, add_assoc -> Nl, min_eq_left -> Np, eq_of_beq_eq_true -> Nz
open _root_.Option renaming bind_eq_some_iff -> Nh
open _root_.Array renaming getElem?_eq_none -> Ni, getElem?_setIfInBounds_ne -> Nr, any_eq_true' -> Ns, getElem?_eq_some_iff -> Nt, getElem?_append_left -> Nu, getElem?_toList -> Nv
open _root_.Bool renaming or_eq_true -> Nj
open Go.RowKit
set_option maxRecDepth 100000
section
variable {α β:Type} [Inhabited β] {f:α->List Value} {s:Nat} {c:β->List AV} {w:World} {fz:Nat->Prop} {v:Value}
theorem C9 {u x:Value} (h:FRel w fz (.v u) x):x=u:=by
 cases h with
 | v _=>rfl
theorem xQ {e:β->α} (hf:∀ x,c x=(f (e x)).map AV.v) (hs:∀ x,(f (e x)).length=s) {l:List β} (h:FRel w fz (eL c l) v):Sl f s w 0 w.heap.size v (l.map e):=by
 unfold eL at h
 cases h with
 | sl us hc hm ha hr hu h1 h=>
  refine ⟨_,_,by rw [llm],by simpa using hc,hm,fun hn=>?_⟩;rw [llm] at hn;obtain ⟨rfl,hg,hlt⟩:=ha hn;refine ⟨_,_,rfl,Nat.zero_le _,hlt,hlt,fun k hk j u hu' => ?_⟩;rw [llm] at hk;rw [M8] at hu';have hk0:l.getD k default=l[k]:=by simp [List.getD,hk]
  have hrow:(c (l.getD k default))[j]? = some (.v u):=by rw [hk0,hf,M9,hu'];rfl
  have hs':=hr k hk
  dsimp only at hs'
  rw [hf,llm,hs] at hs';subst hs';have h2:=hu k j _ hk hrow;rw [C9 (h k j _ hk hrow)] at h2;exact h2
theorem uC {e:β->α} (hf:∀ x,c x=(f (e x)).map AV.v) (hs:∀ x,(f (e x)).length=s) {l:List (List β)} (h:FRel w fz (eL (cL c) l) v):uH f s w 0 w.heap.size v (l.map fun r=>r.map e):=by
 unfold eL at h
 cases h with
 | sl us hc hm ha hr hu h1 h=>
  refine ⟨(M0 l.length).map fun i=>us i 0,?_,by simp,fun k hk hk' => ?_⟩
  ·refine ⟨_,_,by rw [llm,Na],by simpa using hc,hm,fun hn=>?_⟩;rw [llm,Na] at hn;obtain ⟨rfl,hg,hlt⟩:=ha hn;refine ⟨_,_,rfl,Nat.zero_le _,hlt,hlt,fun k hk j u hu' => ?_⟩;rw [llm,Na] at hk;rw [M8,List.getElem_range] at hu';have hs':=hr k hk;change 1=_ at hs';subst hs'
   match j with
   | 0=>
    have h2:=hu k 0 _ hk rfl;rw [h2];simpa [H7] using hu'
   | j+1=>simp [H7] at hu'
  rw [llm,Na] at hk;rw [M8,M8,List.getElem_range];have h2:=h k 0 _ hk rfl;have hk0:l.getD k default=l[k]:=by simp [List.getD,hk]
  rw [hk0] at h2;exact xQ hf hs h2
theorem yA {P:Program} {g:FuncId} {ars:List AV} {r:AV} (h:ax P g ars r) (vs:Array Value) (hl:vs.size=ars.length) (hr:∀ (i:Nat) (a:AV) (v:Value),ars[i]? = some a->vs[i]? = some v->FRel w (fun g=>g<w.heap.size) a v) (hgl:Gl w (fun g=>g<w.heap.size):=by exact gl_none) :
  Calls P g vs w fun e w'=>∃ v fz',e = .returned v/\Below w.heap.size w w'/\FRel w' fz' r v:=
 (h.2 w _ vs (fun g hg=>hg) hgl hl hr).mono fun e w' ⟨v,fz',h1,h2,h3,_⟩=>⟨v,fz',h1,h2,h3⟩
end
theorem Ah {P:Program} {g:FuncId} {ars:List AV} {w:World} {vs:Array Value} (h:ax P g ars (Bo true)) (hl:vs.size=ars.length) (hr:∀ (i:Nat) (a:AV) (v:Value),ars[i]? = some a->vs[i]? = some v->FRel w (fun g=>g<w.heap.size) a v) (hgl:Gl w (fun g=>g<w.heap.size):=by exact gl_none) :
  Calls P g vs w fun e w'=>e = .returned (.bool true)/\Below w.heap.size w w':=
 (yA h vs hl hr hgl).mono fun e w' ⟨v,fz',h1,h2,h3⟩=>⟨by rw [h1,C9 h3],h2⟩
open Go.RowKit Go.WideShapes Go.ChangeShapes Go.Deep
def RC (w:World) (row:List AV) (cs:List Value):Prop:=
 cs.length=row.length/\∀ (j:Nat) (a:AV) (u:Value),row[j]? = some a->cs[j]? = some u->u.oneCell'=true/\FRel w (fun g=>g<w.heap.size) a u
section
variable {H:Type} {enc:TypeId×Value->H} {P:Program} {w:World} {spare:Nat->Bool} {held:Bool}
theorem nS {α:Type} [Inhabited α] {c:α->List AV} {s:Nat} {t e:TypeId} (hs:P.cellsOf e=s) (hs0:0<s) (ht:P.underlying t=some (.slice e)) {Good:α->Prop} {fuel:Nat} {cs:List Value} {x:DataW H×List MemPlace}
  (hel:∀ (n:Nat) (cs:List Value) (x:DataW H×List MemPlace),n<fuel->DataW.trod enc P w 0 spare held n e cs=some x->∃ a,RC w (c a) cs/\Good a)
  (h:DataW.trod enc P w 0 spare held fuel t cs=some x):∃ v,cs=[v]/\v.oneCell'=true/\∃ l:List α,(l.length:Int)<=9223372036854775807/\FRel w (fun g=>g<w.heap.size) (eL c l) v/\∀ y∈l,Good y:=by
 rcases DataW.trod_slice ht h with ⟨rfl,_⟩ | ⟨a,len,cap,elems,rest,n,hfu,rfl,_,_,hl,hm,hlen,hi,_⟩
 ·refine ⟨_,rfl,rfl,[],by simp,?_,fun y hy=>absurd hy (by simp)⟩;exact FRel.sl (s:=0) (g:=0) (o:=0) (fun _ _ => .bool false) (M3 _) (by omega) (fun h=>absurd h (by simp)) (fun i h=>absurd h (by simp)) (fun i j c h=>absurd h (by simp)) (fun i j c h=>absurd h (by simp)) (fun i j c h=>absurd h (by simp))
 simp only [maxLen] at hm;have key:∀ i,i<len->∃ y:α×List Value,RC w (c y.1) y.2/\Good y.1/\y.2.length=s/\∀ j,j<s->w.cell? ((a.add (i*s)).add j)=y.2[j]? := by
  intro i hil;have hb:=hi i hil;rw [geq (by omega)] at hb;obtain ⟨cs',h1,h2⟩:=Nh.1 hb;obtain ⟨y,hy,hg⟩:=hel n cs' _ (by omega) h2;rw [hs] at h1;obtain ⟨_,hcl,hat⟩:=World.cells?_some h1;exact ⟨(y,cs'),hy,hg,hcl,hat⟩
 clear hi
 by_cases hn:0<len
 ·obtain ⟨⟨y0,cs0⟩,hr0,_,hcl0,hat0⟩:=key 0 hn;have h00:=hat0 0 hs0;simp only at hcl0 h00;rw [geq (by omega)] at h00;have hspot:=World.cell?_spot h00;obtain ⟨b,o,sp⟩:=a;have hsp:sp=none:=by simpa [Addr.add] using hspot
  subst hsp;have hb:b<w.heap.size:=by
   have := World.block_lt_of_cell? w _ h00;simpa [sU] using this
  have hch:∃ F:Nat->α×List Value,∀ i,i<len->RC w (c (F i).1) (F i).2/\Good (F i).1/\(F i).2.length=s/\∀ j,j<s->w.cell? (((⟨b,o,none⟩:Addr).add (i*s)).add j)=(F i).2[j]? := by
   refine ⟨fun i=>if h:i<len then (key i h).choose else (y0,cs0),fun i hil=>?_⟩;simp only [dif_pos hil];exact (key i hil).choose_spec
  obtain ⟨F,hF⟩:=hch;have hgd:∀ i,i<len->((M0 len).map fun i=>(F i).1).getD i default=(F i).1:=fun i hi=>by
   rw [gdq,M9,List.getElem?_range hi]
   rfl
  have hrow:∀ (i j:Nat) (av:AV),i<len->(c (((M0 len).map fun i=>(F i).1).getD i default))[j]? = some av->∃ u,(F i).2[j]? = some u/\(F i).2.getD j (.bool false)=u/\j<s/\u.oneCell'=true/\FRel w (fun g=>g<w.heap.size) av u:=fun i j av hi ha=>by
   rw [hgd i hi] at ha;obtain ⟨⟨r1,r2⟩,_,r3,_⟩:=hF i hi;have hj:j<(F i).2.length:=by rw [r1];exact (ges ha).1
   obtain ⟨q1,q2⟩:=r2 j av _ ha (geq hj);exact ⟨_,geq hj,by rw [gdq,geq hj];rfl,by omega,q1,q2⟩
  refine ⟨_,rfl,rfl,(M0 len).map fun i=>(F i).1,by simp;omega,?_,fun y hy=>?_⟩
  ·unfold eL;rw [show ((M0 len).map fun i=>(F i).1).length=len by simp];refine FRel.sl (s:=s) (g:=b) (o:=o) (fun i j=>(F i).2.getD j (.bool false)) hl (by omega) (fun _=>⟨rfl,hb,hb⟩) (fun i hi=>?_) (fun i j av hi ha=>?_) (fun i j av hi ha=>?_) (fun i j av hi ha=>?_)
   ·rw [hgd i hi,<- (hF i hi).1.1];exact (hF i hi).2.2.1
   ·obtain ⟨u,u1,u2,u3,_⟩:=hrow i j av hi ha;have := (hF i hi).2.2.2 j u3;rw [sU,sU,u1] at this;rw [u2];exact this
   ·obtain ⟨u,u1,u2,u3,u4,_⟩:=hrow i j av hi ha;rw [u2];exact u4
   obtain ⟨u,u1,u2,u3,_,u5⟩:=hrow i j av hi ha;rw [u2];exact u5
  rw [M7] at hy;obtain ⟨i,hi,rfl⟩:=hy;exact (hF i (by simpa using hi)).2.1
 have h0:len=0:=by omega
 subst h0;refine ⟨_,rfl,rfl,[],by simp,?_,fun y hy=>absurd hy (by simp)⟩;exact FRel.sl (s:=0) (g:=0) (o:=0) (fun _ _ => .bool false) hl (by omega) (fun h=>absurd h (by simp)) (fun i h=>absurd h (by simp)) (fun i j c h=>absurd h (by simp)) (fun i j c h=>absurd h (by simp)) (fun i j c h=>absurd h (by simp))
end
section
variable {P:Program} {o:Oper} {ρ:Operand->AV} {H:AH} {x y:Operand} {t e:TypeId}
end
section
variable {P:Program}
def OSQ (bs:List Nat) (K:AH) (r:AV):AV->AH->Prop:=fun r0 G=>
 bs.Nodup/\bs.length=K.length/\(∀ (j b:Nat),bs[j]? = some b->∃ k,rV k/\G[b]? = some (some k)/\K[j]? = some (some k))/\Ren (fun i j=>bs[j]? = some i) r0 r
inductive Lies (G:AH):List Nat->AH->Prop
 | nil:Lies G [] []
 | cons {b:Nat} {k:ABlk} {bs:List Nat} {K:AH} (h:G[b]? = some (some k)) (hk:rV k) (t:Lies G bs K):Lies G (b::bs) (some k::K)
theorem Lies.spec {G:AH} {bs:List Nat} {K:AH} (h:Lies G bs K):bs.length=K.length/\∀ (j b:Nat),bs[j]? = some b->∃ k,rV k/\G[b]? = some (some k)/\K[j]? = some (some k):=by
 induction h with
 | nil=>exact ⟨rfl,fun j b h=>by simp at h⟩
 | @cons b k bs K h hk t ih=>
  refine ⟨by simp [ih.1],fun j c hc=>?_⟩
  match j with
  | 0=>
   obtain rfl:=osl hc;exact ⟨k,hk,h,rfl⟩
  | j+1=>exact ih.2 j c hc
theorem OSQ.mk {bs:List Nat} {K G:AH} {r r0:AV} (hnd:bs.Nodup) (hl:Lies G bs K) (hr:Ren (fun i j=>bs[j]? = some i) r0 r):OSQ bs K r r0 G:=⟨hnd,hl.spec.1,hl.spec.2,hr⟩
inductive RowsF:AH->Prop
 | nil:RowsF []
 | cons {k:ABlk} {K:AH} (hk:rV k) (t:RowsF K):RowsF (some k::K)
theorem RowsF.spec {K:AH} (h:RowsF K):∀ (j:Nat) (k:ABlk),K[j]? = some (some k)->rV k:=by
 induction h with
 | nil=>intro j k h;simp at h
 | cons hk t ih=>
  intro j k h
  match j with
  | 0=>
   obtain rfl:=osl (osl h);exact hk
  | j+1=>exact ih j k h
end
def FT (ops:Array Oper):Nat->Nat->Nat->Bool
 | 0,_,_=>false
 | n+1,j,i=>match ops[j]? with
  | some oj=>oj.after.any fun ed=>Region.binds .any ed&&(ed.on==i||FT ops n ed.on i)
  | none=>false
def ClL (ops:Array Oper) (listed:Array Bool):Prop:=∀ (j:Nat) (oj:Oper),ops[j]? = some oj->listed.getD j false=true->∀ ed∈oj.after,Region.binds .any ed=true->listed.getD ed.on false=true
theorem Da {listed:Array Bool} {i j:Nat} (h:listed.getD i false=true):(listed.setIfInBounds j true).getD i false=true:=by
 by_cases e:j=i
 ·subst e;rcases Nb j listed.size with h' | h'
  ·simp [h']
  simp [Ni h'] at h
 simpa [Nr e] using h
theorem ClL.up {ops:Array Oper} {listed:Array Bool} {j:Nat} (h:ClL ops listed) (hj:j∈Region.ready .any ops listed):ClL ops (listed.setIfInBounds j true):=by
 intro i oi hoi hl ed he hb
 by_cases e:j=i
 ·subst e;obtain ⟨_,oj,hoj,hall⟩:=mem_ready.1 hj;rw [hoi] at hoj;injection hoj with hoj;subst hoj;exact Da (hall ed he hb)
 refine Da (h i oi hoi ?_ ed he hb);simpa [Nr e] using hl
theorem xR {ops:Array Oper} {listed:Array Bool} {i:Nat} (h:ClL ops listed) (hi:listed.getD i true=false):∀ (n j:Nat),(∀ oj,ops[j]? = some oj->∀ ed∈oj.after,Region.binds .any ed=true->listed.getD ed.on false=true)->FT ops n j i=false
 | 0,_,_=>rfl
 | n+1,j,hj=>by
  unfold FT
  split
  ·rename_i oj hoj;rw [Bool.eq_false_iff];intro hany;rw [Ns] at hany;obtain ⟨ed,h1,h2⟩:=hany;simp only [bae,Nj,beq_iff_eq] at h2;have hl:=hj oj hoj ed h1 h2.1;rcases h2.2 with h3 | h3
   ·rw [h3] at hl;rcases Nb i listed.size with h' | h'
    ·simp [h'] at hl hi;rw [hi] at hl;cases hl
    simp [Ni h'] at hl
   rw [xR h hi n ed.on fun oj' hoj'=>h ed.on oj' hoj' hl] at h3
   cases h3
  rfl
section
variable {P:Program}
theorem Ai {ops:Array Oper} {fp:Nat->Fp} {Q:Env->AH->Prop} {i n:Nat} {oi:Oper} {r:AV} (hi:ops[i]? = some oi) :
  ∀ (fuel:Nat) (listed:Array Bool) (e:Env) (H Hi:AH),ClL ops listed ->
   (∀ (j:Nat) (oj:Oper),ops[j]? = some oj->j≠i->listed.getD j true=false->FT ops (n+1) j i=false->oi.apart ops oj=true/\lC (fp i) (fp j)=true) ->
   i∈Region.ready .any ops listed->mU P oi (rho e) H r Hi (fp i).1->((fp i).2=false->Hi=H)->EF P ops fp Q fuel (listed.setIfInBounds i true) (rG e oi.dst r) Hi->EF P ops fp Q (fuel+1) listed e H:=by
 intro fuel
 induction fuel with
 | zero=>
  intro listed e H Hi _ _ hr hy hro hA;refine ⟨fun h=>(by rw [h] at hr;cases hr),fun j hj=>?_⟩
  by_cases hji:j=i
  ·subst hji;exact ⟨oi,r,Hi,hi,hy,hro,hA⟩
  have := ready_mono hj hji;rw [hA.1] at this
  cases this
 | succ fuel ih=>
  intro listed e H Hi hcl hfree hr hy hro hA;refine ⟨fun h=>(by rw [h] at hr;cases hr),fun j hj=>?_⟩
  by_cases hji:j=i
  ·subst hji;exact ⟨oi,r,Hi,hi,hy,hro,hA⟩
  obtain ⟨oj,q,Hj,hoj,hsj,hroj,hAj⟩:=hA.2 j (ready_mono hj hji);obtain ⟨hjun,oj',hoj',hall⟩:=mem_ready.1 hj;rw [hoj] at hoj';injection hoj' with hoj';subst hoj';have hnot:FT ops (n+1) j i=false:=xR hcl (mem_ready.1 hr).1 (n+1) j fun oj' hoj'=>by
   rw [hoj] at hoj';injection hoj' with hoj';subst hoj';exact hall
  obtain ⟨hap,hcm⟩:=hfree j oj hoj hji hjun hnot;obtain ⟨h1,h2,h3⟩:=Oper.apart_spec hap;have ej:=rS (e:=e) (r:=r) h1;have ei:=rS (e:=e) (oi:=oj) (r:=q) h3;have hsj':=hsj.congr ej;have hfree':∀ (k:Nat) (ok:Oper),ops[k]? = some ok->k≠i->(listed.setIfInBounds j true).getD k true=false->FT ops (n+1) k i=false->oi.apart ops ok=true/\lC (fp i) (fp k)=true:=fun k ok hk hki hun hno=>by
   refine hfree k ok hk hki ?_ hno
   by_cases hjk:j=k
   ·subst hjk;exact hjun
   rw [getD_set_ne true hjk] at hun;exact hun
  have fin:∀ Hj',mU P oj (rho e) H q Hj' (fp j).1->((fp j).2=false->Hj'=H)->mU P oi (rho e) Hj' r Hj (fp i).1->((fp i).2=false->Hj=Hj')->∃ o r' H',ops[j]? = some o/\mU P o (rho e) H r' H' (fp j).1/\((fp j).2=false->H'=H)/\EF P ops fp Q (fuel+1) (listed.setIfInBounds j true) (rG e o.dst r') H':=fun Hj' s1 s1' s2 s2'=>by
   refine ⟨oj,q,Hj',hoj,s1,s1',ih (listed.setIfInBounds j true) (rG e oj.dst q) Hj' Hj (hcl.up hj) hfree' (ready_mono hr (Ne.symm hji)) (s2.congr fun x hx=>(ei x hx).symm) s2' ?_⟩;rw [Array.setIfInBounds_comm _ _ hji,wC (fun d hd=>fun hd'=>h2 d (by simpa using hd') (by simpa using hd))];exact hAj
  simp only [lC,Nj,bae,Bool.not_eq_true',Nc,List.contains_eq_mem,decide_eq_false_iff_not] at hcm;rcases hcm with hdis | ⟨w1,w2⟩
  ·have hag:agree (fp j).1 H Hi:=⟨hy.1.symm,fun b hb=>(hy.2.1 b (fun hbi=>hdis b hbi hb)).symm⟩;obtain ⟨Hj',a1,a2,a3,a4⟩:=hsj'.at_ hag;have hag2:agree (fp i).1 Hj' H:=⟨a1,fun b hb=>a3 b (hdis b hb)⟩;obtain ⟨K,b1,b2,b3,b4⟩:=hy.at_ hag2;have hKH:K=Hj:=by
    apply Nk;intro b
    by_cases hbi:b∈(fp i).1
    ·rw [b2 b hbi,hsj'.2.1 b (hdis b hbi)]
    rw [b3 b hbi]
    by_cases hbj:b∈(fp j).1
    ·exact a2 b hbj
    rw [a3 b hbj,hsj'.2.1 b hbj,hy.2.1 b hbi]
   subst hKH;refine fin Hj' a4 (fun hw=>?_) b4 (fun hw=>?_)
   ·apply Nk;intro b
    by_cases hbj:b∈(fp j).1
    ·rw [a2 b hbj,hroj hw,hy.2.1 b (fun hbi=>hdis b hbi hbj)]
    exact a3 b hbj
   apply Nk;intro b
   by_cases hbi:b∈(fp i).1
   ·rw [b2 b hbi,hro hw,a3 b (hdis b hbi)]
   exact b3 b hbi
  obtain rfl:=hro w1;obtain rfl:=hroj w2;exact fin _ hsj' (fun _=>rfl) hy (fun _=>rfl)
def Jh (ops:Array Oper) (fp:Nat->Fp):Bool:=
 Region.lexB .any ops&&ops.all (fun o=>o.guard.isNone) &&
 (M0 ops.size).all fun i=>(M0 ops.size).all fun j=>decide (j<=i)||lC (fp i) (fp j)||FT ops 6 j i
theorem Be {ops:Array Oper} {fp:Nat->Fp} {Q:Env->AH->Prop} (hc:Jh ops fp=true):∀ (l:List Oper) (k:Nat) (listed:Array Bool) (e:Env) (H:AH),ClL ops listed->(∀ j,l[j]? = ops[k+j]?)->listed.size=ops.size->(∀ j,j<k->listed.getD j true=true) ->
  Region.lexFrom .any ops l.length k listed=true->TF P fp k l Q e H->EF P ops fp Q l.length listed e H
 | [],k,listed,e,H,_,_,_,_,hB,h=>⟨by simpa [Region.lexFrom] using hB,h⟩
 | o::l,k,listed,e,H,hcl,hl,hsz,hbef,hB,h=>by
  have h0:ops[k]? = some o:=by simpa using (hl 0).symm
  have hk:k<ops.size:=(Nt.1 h0).1;simp only [llc,Region.lexFrom,bae] at hB;obtain ⟨⟨hr,hf⟩,hB'⟩:=hB;obtain ⟨r,H',hs,hro,hK⟩:=h;have hrk:k∈Region.ready .any ops listed:=by simpa using hr
  refine Ai (n:=5) h0 l.length listed e H H' hcl (fun j oj hj hne hun hno=>?_) hrk hs hro
   (Be hc l (k+1) _ _ _ (hcl.up hrk) (fun j=>by have := hl (j+1);simpa [Nl,Nat.add_comm 1 j] using this) (by simpa using hsz) (fun j hj=>?_) hB' hK)
  ·have hno1:∀ ed∈oj.after,Region.binds .any ed=true->ed.on≠k:=fun ed he hb heq=>by
    unfold FT at hno;simp only [hj] at hno;rw [Bool.eq_false_iff] at hno;refine hno ?_;rw [Ns];exact ⟨ed,he,by simp [hb,heq]⟩
   refine ⟨Region.free_spec h0 hf j oj hj hne hun hno1,?_⟩;have hjs:j<ops.size:=(Nt.1 hj).1;have hkj : ¬ j<=k:=fun hle=>by
    have := hbef j (by omega);rw [this] at hun
    cases hun
   simp only [Jh,bae,Nc,List.mem_range] at hc;have := hc.2 k hk j hjs;simp only [Nj,dte,hkj,false_or] at this;rcases this with h1 | h1
   ·exact h1
   rw [hno] at h1
   cases h1
  by_cases e:j=k
  ·subst e;simp [hsz,hk]
  rw [getD_set_ne true (Ne.symm e)];exact hbef j (by omega)
variable {nt b0:Nat} {Q:Exit->Env->AH->Prop} {e:Env} {H:AH}
theorem T.drawH {i:Nat} {ops:Array Oper} (fp:Nat->Fp) (hm:P.follows .mixedOrders=true) (hc:Jh ops fp=true) (h:TF P fp 0 ops.toList (Q .normal) e H):T P nt b0 (.region i ops true) Q e H:=by
 intro hok c c0 a hH hb hx hs;simp only [codeOk] at hok;have hc':=hc;simp only [Jh,bae,Region.lexB] at hc';refine wp_region_any hm ?_;have hlex:=Be hc ops.toList 0 (Array.replicate ops.size false) e H (fun j oj hj hl=>by
  rcases Nb j ops.size with h' | h'
  ·simp [h'] at hl
  simp [Ni h'] at hj) (fun j=>by simp) (by simp) (fun j hj=>absurd hj (by omega)) (by simpa using hc'.1.1.2) h
 have := tE hok hc'.1.2 ops.toList.length _ e H hlex c.drew c0 a hH (hx.trans c.drew_ext) ⟨hs.size,hs.defers,fun t=>(hs.rel t).ext hs.heap c.drew_ext,Cx.drew_rel hs.heap⟩;rw [Array.length_toList] at this;exact this
end
section
variable {P:Program} {ρ:Operand->AV} {H H':AH}
structure MethT (P:Program) (t:TypeId) (name:String) (g:FuncId) (off:Nat):Prop where
 ex:∃ i m e,P.info? t=some i/\i.methods.find? (·.name==name)=some m/\m.func=some (g,true)/\P.underlying t=some (.pointer e) /\
  ((m.path.toList=[]/\off=0)\/∃ s k fs fl u,m.path.toList=[⟨s,k,true⟩]/\P.underlying s=some (.struct fs)/\fs[k]? = some fl/\P.cellsOf fl.type≠0/\(P.info? fl.type).isSome=true/\fl.offset=off/\P.underlying fl.type=some u/\(∀ e,u ≠ .pointer e))
def Ir (P:Program) (t:TypeId) (name:String) (g:FuncId) (off:Nat):Bool:=
 match P.info? t,P.underlying t with
 | some i,some (.pointer _)=>(match i.methods.find? (·.name==name) with
  | some m=>m.func==some (g,true)&&(match m.path.toList with
   | []=>off==0
   | [⟨s,k,true⟩]=>(match P.underlying s with
    | some (.struct fs)=>(match fs[k]? with
     | some fl=>P.cellsOf fl.type != 0&&(P.info? fl.type).isSome&&fl.offset==off&&(match P.underlying fl.type with
      | some (.pointer _) | none=>false
      | some _=>true)
     | none=>false)
    | _=>false)
   | _=>false)
  | none=>false)
 | _,_=>false
theorem MethT.of {t:TypeId} {name:String} {g off:Nat} (h:Ir P t name g off=true):MethT P t name g off:=by
 unfold Ir at h
 split at h
 ·rename_i i e hi hu
  split at h
  ·rename_i m hm;simp only [bae,beq_iff_eq] at h;obtain ⟨hf,h⟩:=h;refine ⟨i,m,e,hi,hm,hf,hu,?_⟩
   split at h
   ·rename_i hp;exact .inl ⟨hp,by simpa using h⟩
   ·rename_i s k hp
    split at h
    ·rename_i fs hs
     split at h
     ·rename_i fl hfl;simp only [bae,beq_iff_eq,bne_iff_ne,ne_eq] at h;obtain ⟨⟨⟨h1,h2⟩,h3⟩,h4⟩:=h
      cases hfu:P.underlying fl.type with
      | none=>rw [hfu] at h4;cases h4
      | some u=>exact .inr ⟨s,k,fs,fl,u,hp,hs,hfl,h1,h2,h3,hfu,fun e' he=>by subst he;rw [hfu] at h4;cases h4⟩
     cases h
    cases h
   cases h
  cases h
 cases h
def Kv (off:Nat):AV->AV
 | .fp row j => .fp row (j+off)
 | .hp b v s i j => .hp b v s i (j+off)
 | a=>a
theorem BQ {t:TypeId} {name:String} {g off:Nat} (hm:MethT P t name g off) (w:World) (n:Nat) {g0:Nat} {o0:Nat} (v:Value) (hv:v = .pointer (some ⟨g0,o0,none⟩)):(method (n+1) t v name).run P w = .ok (g,.pointer (some ⟨g0,o0+off,none⟩)) w:=by
 obtain ⟨i,m,e,hi,hf,hg,hu,hp⟩:=hm.ex;have e1:(typeInfo t).run P w = .ok i w:=run_typeInfo w hi;rcases hp with ⟨hp,rfl⟩ | ⟨s,k,fs,fl,u,hp,hs,hk,hc,_,rfl,hfu,hne⟩
 ·simp only [method,Sem.run_bind,e1,Result.andThen_ok,hf,hp,follow,Sem.run_pure,hg,receiverAt,ay hu,Place.get,hv,Nat.add_zero]
 obtain ⟨i2,hi2⟩:=rN hc
 have e2 : (receiverAt fl.type (.var ⟨g0,o0 + fl.offset,none⟩) true (if m.path.isEmpty then some ((name.splitOn ".").getLastD name) else none)).run P w = .ok (.pointer (some ⟨g0,o0 + fl.offset,none⟩)) w := by
  unfold receiverAt;simp only [Sem.run_bind,ay hfu,Result.andThen_ok]
  cases u <;> first | rfl | exact absurd rfl (hne _)
 simp only [method,Sem.run_bind,e1,Result.andThen_ok,hf,hp,follow,Sem.run_pure,hg,ay hs,hk,Place.get,hv,asAddr,fieldPlace,run_sizeOf w hi2,hc,if_false,if_true,add0,e2]
theorem xy {t:TypeId} {name:String} {g off:Nat} (hm:MethT P t name g off) (hcl:gy P g=true) (w:World) {g0 o0:Nat} (args:Array Value) :
  (callMethod (.iface t (.pointer (some ⟨g0,o0,none⟩))) name args).run P w = .ok (.enter g (#[.pointer (some ⟨g0,o0+off,none⟩)]++args)) w:=by
 have h0:0<Made.depth:=by decide
 obtain ⟨n,hn⟩:∃ n,P.types.size+Made.depth=n+1:=⟨P.types.size+Made.depth-1,by omega⟩;have h1:=BQ hm w n (g0:=g0) (o0:=o0) _ rfl;have h2:=pE hcl (#[.pointer (some ⟨g0,o0+off,none⟩)]++args) w;have hp:(program:Sem Program).run P w = .ok P w:=rfl;simp only [callMethod,Sem.run_bind,hp,Result.andThen_ok,hn,h1];exact h2
theorem BR {o:Oper} {cl:Call} {x:Operand} {name:String} {t:TypeId} {row:List AV} {j:Nat} {g:FuncId} {off:Nat} {r:AV} (ho:o.op = .call cl) (hc:cl.callee = .invoke x name) (hx:ρ x = .ifc t (.fp row j)) (hm:MethT P t name g off)
  (h:li P g (.fp row (j+off)::cl.args.toList.map ρ) H r H'):OpS P o ρ H r H':=by
 intro c a K Q hH hr hxs hK;have hf1:=hx ▸ hxs x (by rw [ho];simp [Op.operands,Call.operands,hc]);obtain ⟨y,he,hrel⟩:=sW hf1;have hfp:=oP hrel;have key:∃ g0 o0,y = .pointer (some ⟨g0,o0,none⟩)/\c.rel (.fp row (j+off)) (.pointer (some ⟨g0,o0+off,none⟩)):=by
  cases hfp with
  | fp us hg hlt hu h1 h=>
   refine ⟨_,_,rfl,?_⟩;rw [Nl];exact .fr (.fp us hg hlt hu h1 h)
 obtain ⟨g0,o0,hy,hrec⟩:=key;have hargs:zr c (.fp row (j+off)::cl.args.toList.map ρ) (#[.pointer (some ⟨g0,o0+off,none⟩)]++cl.args.map a.eval):=by
  refine ⟨by simp;omega,fun i q v hq hv=>?_⟩
  match i with
  | 0=>
   simp only [MX,sie] at hq;have : (#[Value.pointer (some ⟨g0,o0+off,none⟩)]++cl.args.map a.eval)[0]? = some (Value.pointer (some ⟨g0,o0+off,none⟩)):=by
    rw [Nu (show 0<1 by decide)]
    rfl
   rw [this] at hv;injection hv with hv;subst hq hv;exact hrec
  | i+1=>
   simp only [M4,M9,Nv] at hq;have e:(#[Value.pointer (some ⟨g0,o0+off,none⟩)]++cl.args.map a.eval)[i+1]? = (cl.args.map a.eval)[i]? := by
    rw [Array.getElem?_append_right (by simp)];simp
   rw [e,Array.getElem?_map] at hv
   cases ha:cl.args[i]? with
   | none=>rw [ha] at hq;cases hq
   | some z=>
    rw [ha] at hq hv;injection hq with hq;injection hv with hv;subst hq hv;refine hxs z ?_;rw [ho];have hz:=Array.mem_of_getElem? ha;simp [Op.operands,Call.operands,hz]
 have hrun:(execOp a.eval o).run P c.w = .ok (.enter g (#[.pointer (some ⟨g0,o0+off,none⟩)]++cl.args.map a.eval)) c.w:=by
  have h3:=xy hm h.1 c.w (g0:=g0) (o0:=o0) (cl.args.map a.eval);rw [execOp,ho];simp only [resolve,hc,he,hy,Sem.run_bind,Sem.run_pure,Result.andThen_ok,invoke];have e1:((#[Value.iface t (.pointer (some ⟨g0,o0,none⟩))]++cl.args.map a.eval)[0]? : Option Value)=some (Value.iface t (.pointer (some ⟨g0,o0,none⟩))):=by
   rw [Nu (show 0<1 by decide)]
   rfl
  have e2:(#[Value.iface t (.pointer (some ⟨g0,o0,none⟩))]++cl.args.map a.eval).extract 1 (#[Value.iface t (.pointer (some ⟨g0,o0,none⟩))]++cl.args.map a.eval).size=cl.args.map a.eval:=by
   apply Array.ext';simp;exact Nw (by simp)
  rw [e1,e2];exact h3
 unfold Oper.wp;rw [hrun,Oper.upon_enter];refine (h.2 c _ hH hr hargs).mono fun e w' ⟨v,c',he,hw,hH',hr',hx,hv⟩ => ?_;subst he hw;exact hK v c' hH' hr' hx hv
theorem Kz.inv {cl:Call} {x:Operand} {name:String} {t:TypeId} {row:List AV} {j:Nat} {g:FuncId} {off:Nat} {ars:List AV} {r:AV} (hc:cl.callee = .invoke x name) (hx:ρ x = .ifc t (.fp row j)) (hm:MethT P t name g off) (ha:cl.args.toList.map ρ=ars)
  (h:ax P g (.fp row (j+off)::ars) r) (hF:ars.all (isF 9)=true):Kz P ρ (.call cl) r:=fun o ho G=>by
 subst ha;refine BR ho hc hx hm (h.acall ?_ G);simp only [List.all_cons,hF,Bool.and_true]
 rfl
end
structure A3 (α:Type) where
 x0:α
 x1:α
 x2:α
section
variable {α:Type}
instance [Inhabited α]:Inhabited (A3 α):=⟨⟨default,default,default⟩⟩
def A3.get (a:A3 α) (q:Int):α:=if q=0 then a.x0 else if q=1 then a.x1 else a.x2
def A3.set (a:A3 α) (q:Int) (v:α):A3 α:=if q=0 then ⟨v,a.x1,a.x2⟩ else if q=1 then ⟨a.x0,v,a.x2⟩ else ⟨a.x0,a.x1,v⟩
end
section
variable {P:Program} {ρ:Operand->AV} {H H':AH} {x y:Operand} {t e:TypeId}
end
def up (m:Nat) (gh:NG):NG:=fun i=>((gh i).1,(gh i).2.1+m,(gh i).2.2)
section
variable {α:Type}
def nrs (m:Nat) (gh:NG) (w:Nat) (l:List (List α)):List (List AV):=uK (up m gh) w l
structure NN (K:AH) (gh:NG) (w:Nat) (ty:TypeId) (f:α->List AV) (l:List (List α)):Prop where
 nk:NK 0 K gh w ty f l
 kf:KF K
variable {K:AH} {gh:NG} {w:Nat} {ty:TypeId} {f:α->List AV} {l:List (List α)}
theorem NN.at_ (h:NN K gh w ty f l) {i:Nat} (hi:i<l.length):K[(gh i).2.1]? = some (bE (gh i).1 (gh i).2.2 w ty ((l.getD i []).map f)):=(h.nk.at_ i hi).2
theorem NN.lt (h:NN K gh w ty f l) {i:Nat} (hi:i<l.length):(gh i).2.1<K.length:=(ges (h.at_ hi)).1
theorem NN.nil_ (h:NN K gh w ty f l) {i:Nat} (hi:i<l.length):(gh i).1=true->l.getD i []=[]:=h.nk.nil_ i hi
theorem KF.set {k:Nat} {x:Option ABlk} (h:KF K) (hx:∀ b,x=some b->rV b):KF (K.set k x):=fun i b hb=>by
 by_cases e:k=i
 ·subst e;have hl:=(ges hb).1;rw [M5 (by simpa using hl)] at hb;exact hx b (osl hb)
 rw [M6 e] at hb;exact h i b hb
theorem KF.cons {x:Option ABlk} (h:KF K) (hx:∀ b,x=some b->rV b):KF (x::K):=fun i b hb=>by
 match i,hb with
 | 0,hb=>exact hx b (osl hb)
 | i+1,hb=>exact h i b hb
theorem ET {g:Bool} {v:Nat} {l:List α} (hf:∀ x,(f x).all (isF 9)=true):∀ b,bE g v w ty (l.map f)=some b->rV b:=fun b hb=>by
 cases g with
 | true=>cases hb
 | false=>
  obtain rfl:=osl hb;exact fun r hr a ha=>wH hf r hr a ha
theorem NN.set (h:NN K gh w ty f l) {i:Nat} (hi:i<l.length) {g:Bool} {ver:Nat} {r:List α} (hg:g=true->r=[]) (hf:∀ x,(f x).all (isF 9)=true):NN (K.set (gh i).2.1 (bE g ver w ty (r.map f))) (gh.put i (g,(gh i).2.1,ver)) w ty f (l.set i r):=
 ⟨h.nk.set hi hg,h.kf.set (ET hf)⟩
theorem NN.nil:NN ([]:AH) gh w ty f []:=⟨⟨fun i hi=>by simp at hi,fun i hi=>by simp at hi,fun i j hi=>by simp at hi⟩,fun i k hk=>by simp at hk⟩
theorem NN.fz [Inhabited α] (h:NN K gh w ty f l) (S:AH) {b ver n:Nat} {to:TypeId} (hb:(S++K)[b]? = some (bE false ver 1 to (nrs S.length gh w l))) (hn:n=l.length) (hf:∀ x,(f x).all (isF 9)=true):Fz 0 (S++K) (hS false b ver 1 n) (eL (cL f) l):=by
 have hk:NK 0 (S++K) (up S.length gh) w ty f l:=⟨fun i hi=>⟨Nat.zero_le _,by
  show (S++K)[(gh i).2.1+S.length]? = _;rw [gar (by omega),Nat.add_sub_cancel];exact h.at_ hi⟩,fun i hi=>h.nil_ hi,fun i j hi hj hne he=>h.nk.sep i j hi hj hne (by simpa [up] using he)⟩
 exact hk.fz hb hn hf
end
def Rot (m N:Nat) (i j:Nat):Prop:=(i<m/\j=i)\/(m<=i/\i<N+m/\j=i+1)\/(i=N+m/\j=m)
theorem Rot.low {m N i:Nat} (h:Nat.blt i m=true):Rot m N i i := .inl ⟨nlb h,rfl⟩
theorem Rot.up {m N k:Nat} (h:k<N):Rot m N (k+m) (k+(m+1)) := .inr (.inl ⟨by omega,by omega,rfl⟩)
theorem Rot.new {m N:Nat}:Rot m N (N+m) m := .inr (.inr ⟨rfl,rfl⟩)
inductive RenHL (S:Nat->Nat->Prop):AH->AH->Prop
 | nil:RenHL S [] []
 | none {l l':AH} (t:RenHL S l l'):RenHL S (none::l) (none::l')
 | some {k k':ABlk} {l l':AH} (h:RenK S k k') (t:RenHL S l l'):RenHL S (some k::l) (some k'::l')
theorem RenHL.bE {S:Nat->Nat->Prop} {α:Type} {g:Bool} {v w:Nat} {ty:TypeId} {f:α->List AV} {x:List α} {l l':AH} (hf:∀ x,(f x).all (isF 9)=true) (t:RenHL S l l'):RenHL S (bE g v w ty (x.map f)::l) (Go.Proofs.YtpkhamajimidnaaGreatDoor.bE g v w ty (x.map f)::l'):=by
 cases g with
 | true=>exact .none t
 | false=>exact .some (.ofF fun r hr a ha=>wH hf r hr a ha) t
theorem RenHL.spec {S:Nat->Nat->Prop} {l l':AH} (h:RenHL S l l'):l.length=l'.length/\(∀ (i:Nat) (k:ABlk),l[i]? = Option.some (Option.some k)->∃ k',l'[i]? = Option.some (Option.some k')/\RenK S k k')/\∀ (i:Nat) (k':ABlk),l'[i]? = Option.some (Option.some k')->∃ k,l[i]? = Option.some (Option.some k)/\RenK S k k':=by
 induction h with
 | nil=>exact ⟨rfl,fun i k hk=>by simp at hk,fun i k hk=>by simp at hk⟩
 | none t ih=>
  refine ⟨by simp [ih.1],fun i k hk=>?_,fun i k hk=>?_⟩
  ·match i,hk with
   | i+1,hk=>exact ih.2.1 i k hk
  match i,hk with
  | i+1,hk=>exact ih.2.2 i k hk
 | some h t ih=>
  refine ⟨by simp [ih.1],fun i k hk=>?_,fun i k hk=>?_⟩
  ·match i,hk with
   | 0,hk=>
    obtain rfl:=osl (osl hk);exact ⟨_,rfl,h⟩
   | i+1,hk=>exact ih.2.1 i k hk
  match i,hk with
  | 0,hk=>
   obtain rfl:=osl (osl hk);exact ⟨_,rfl,h⟩
  | i+1,hk=>exact ih.2.2 i k hk
theorem kC {S:Nat->Nat->Prop} {g:Bool} {i j v w n:Nat} (h:S i j):Ren S (hS g i v w n) (hS g j v w n):=by
 cases g with
 | true=>exact .nil
 | false=>exact .hs h
theorem BS {c:Cx} {row row2:List AV} {j n:Nat} {v:Value} (hs:(row.drop j).take n=row2) (h:c.rel (.fp row j) v):c.rel (.fp row2 0) v:=by
 have h:=oP h
 cases h with
 | @fp _ _ g o us hg hlt hu h1 hr=>
  subst hs;have key:∀ (q:Nat) (a:AV),((row.drop j).take n)[q]? = some a->row[j+q]? = some a:=fun q a hq=>by
   rw [Nf] at hq
   split at hq
   ·rwa [Nn] at hq
   cases hq
  exact .fr (.fp (g:=g) (o:=o+j) (j:=0) (fun q=>us (j+q)) hg hlt (fun q a hq=>by rw [Nl];exact hu _ _ (key q a hq)) (fun q a hq=>h1 _ _ (key q a hq)) (fun q a hq=>hr _ _ (key q a hq)))
section
variable {P:Program} {ρ:Operand->AV} {H H':AH} {x y:Operand} {t e:TypeId}
theorem Kz.fafpS (n:Nat) {fs:Array Field} {f:Nat} {fl:Field} {row row2:List AV} {j:Nat} (hu:P.underlying t=some (.struct fs)) (hf:fs[f]? = some fl) (hc:(P.cellsOf fl.type != 0)=true) (hx:ρ x = .fp row j) (hs:(row.drop (j+fl.offset)).take n=row2):Kz P ρ (.fieldAddr t x f) (.fp row2 0):=
 (Kz.fafp hu hf hc hx).res fun _ _ h=>BS hs h
variable {nt b0:Nat} {Q:Exit->Env->AH->Prop} {en:Env} {ops:Array Oper}
end
inductive RenRows (S:Nat->Nat->Prop):List (List AV)->List (List AV)->Prop
 | nil:RenRows S [] []
 | cons {a b:List AV} {l k:List (List AV)} (h:RenL S a b) (t:RenRows S l k):RenRows S (a::l) (b::k)
theorem RenRows.spec {S:Nat->Nat->Prop} {l k:List (List AV)} (h:RenRows S l k):l.length=k.length/\∀ (i:Nat) (c d:List AV),l[i]? = some c->k[i]? = some d->RenL S c d:=by
 induction h with
 | nil=>exact ⟨rfl,fun i c d hc=>by simp at hc⟩
 | cons h t ih=>
  refine ⟨by simp [ih.1],fun i c d hc hd=>?_⟩
  match i,hc,hd with
  | 0,hc,hd=>
   obtain rfl:=osl hc;obtain rfl:=osl hd;exact h
  | i+1,hc,hd=>exact ih.2 i c d hc hd
theorem RenK.rowsL {S:Nat->Nat->Prop} {v s:Nat} {ty:TypeId} {r r':List (List AV)} (h:RenRows S r r'):RenK S ⟨v,s,ty,r⟩ ⟨v,s,ty,r'⟩:=
 ⟨rfl,rfl,rfl,h.spec.1,fun i a b ha hb=>(h.spec.2 i a b ha hb).spec⟩
theorem RenK.rowL {S:Nat->Nat->Prop} {v s:Nat} {ty:TypeId} {r r':List AV} (h:RenL S r r'):RenK S ⟨v,s,ty,[r]⟩ ⟨v,s,ty,[r']⟩ := .rowsL (.cons h .nil)
section
variable {α:Type} {K:AH} {gh:NG} {w:Nat} {ty:TypeId} {f:α->List AV} {l:List (List α)}
def Tk (a:Nat) (i j:Nat):Prop:=(i<=a/\j=i)\/(a+2<=i/\j+1=i)
theorem Tk.low {a i:Nat} (h:MZ i a=true):Tk a i i := .inl ⟨nlb h,rfl⟩
theorem Tk.up {a k:Nat}:Tk a (k+(a+2)) (k+1+a) := .inr ⟨by omega,by omega⟩
theorem Reid.take {b0 a:Nat} {S S' K:AH} {x2 x2' x3:Option ABlk} (hm:S.length=a) (hb:MZ b0 a=true) (hS:RenHL (Tk a) S S') (hK:KF K) (hx:RenHL (Tk a) [x2] [x2']):Reid b0 (Tk a) (S++x2::x3::K) (S'++x2'::K):=by
 have hb:=nlb hb;obtain ⟨h1,h2,h3⟩:=hS.spec;obtain ⟨_,h5,h6⟩:=hx.spec;have hm':S'.length=a:=h1.symm.trans hm;have a1:∀ i,i<a->(S++x2::x3::K)[i]? = S[i]? := fun i hi=>gal (by omega);have a2:(S++x2::x3::K)[a]? = some x2:=by
  rw [gar (by omega)];have : a-S.length=0:=by omega
  rw [this]
  rfl
 have a3:∀ k,(S++x2::x3::K)[k+a+2]? = K[k]? := fun k=>by
  rw [gar (by omega)];have : k+a+2-S.length=k+1+1:=by omega
  rw [this]
  rfl
 have c1:∀ i,i<a->(S'++x2'::K)[i]? = S'[i]? := fun i hi=>gal (by omega);have c2:(S'++x2'::K)[a]? = some x2':=by
  rw [gar (by omega)];have : a-S'.length=0:=by omega
  rw [this]
  rfl
 have c3:∀ k,(S'++x2'::K)[k+a+1]? = K[k]? := fun k=>by
  rw [gar (by omega)];have : k+a+1-S'.length=k+1:=by omega
  rw [this]
  rfl
 refine ⟨fun i j j' e1 e2=>?_,fun i i' j e1 e2=>?_,fun i hi => .inl ⟨by omega,rfl⟩,by simp;omega,fun j k0 hk=>?_,fun i j k hS hk=>?_⟩
 ·rcases e1 with ⟨_,rfl⟩ | ⟨_,e1⟩ <;> rcases e2 with ⟨_,rfl⟩ | ⟨_,e2⟩ <;> omega
 ·rcases e1 with ⟨_,e1⟩ | ⟨_,e1⟩ <;> rcases e2 with ⟨_,e2⟩ | ⟨_,e2⟩ <;> omega
 ·rcases Nat.lt_trichotomy j a with hj | hj | hj
  ·rw [c1 j hj] at hk;obtain ⟨k,g1,g2⟩:=h3 j k0 hk;exact ⟨j,k,.inl ⟨by omega,rfl⟩,by rw [a1 j hj];exact g1,g2⟩
  ·subst hj;rw [c2] at hk;obtain rfl:=osl hk;obtain ⟨k,g1,g2⟩:=h6 0 k0 rfl;obtain rfl:=osl g1;exact ⟨_,k,.inl ⟨by omega,rfl⟩,a2,g2⟩
  obtain ⟨q,rfl⟩:∃ q,j=q+a+1:=⟨j-a-1,by omega⟩;rw [c3 q] at hk;exact ⟨q+a+2,k0,.inr ⟨by omega,by omega⟩,by rw [a3 q];exact hk,.ofF (hK q k0 hk)⟩
 rcases hS with ⟨e1,rfl⟩ | ⟨e1,e2⟩
 ·rcases Nb j a with hj | hj
  ·rw [a1 _ hj] at hk;obtain ⟨k',g1,_⟩:=h2 _ k hk;exact ⟨k',by rw [c1 _ hj];exact g1⟩
  obtain rfl:j=a:=by omega
  rw [a2] at hk;obtain rfl:=osl hk;obtain ⟨k',g1,_⟩:=h5 0 k rfl;obtain rfl:=osl g1;exact ⟨k',c2⟩
 obtain ⟨q,rfl⟩:∃ q,i=q+a+2:=⟨i-a-2,by omega⟩;obtain rfl:j=q+a+1:=by omega
 rw [a3 q] at hk;exact ⟨k,by rw [c3 q];exact hk⟩
def Opn (m k:Nat) (i j:Nat):Prop:=(i<m/\j=i)\/(i=k+m/\j=m)\/(m<=i/\i≠k+m/\j=i+1)
theorem Opn.low {m k i:Nat} (h:Nat.blt i m=true):Opn m k i i := .inl ⟨nlb h,rfl⟩
theorem Reid.open {b0 m:Nat} {S S' K:AH} {k:Nat} {x:Option ABlk} (hm:S.length=m) (hk:K[k]? = some x) (hb:MZ b0 m=true) (hS:RenHL (Opn m k) S S') (hK:KF K):Reid b0 (Opn m k) (S++K) (S'++x::K.set k none):=by
 have hb:=nlb hb;obtain ⟨h1,h2,h3⟩:=hS.spec;have hm':S'.length=m:=h1.symm.trans hm;have hkl:=(ges hk).1;have a1:∀ i,i<m->(S++K)[i]? = S[i]? := fun i hi=>gal (by omega);have a2:∀ q,(S++K)[q+m]? = K[q]? := fun q=>by
  rw [gar (by omega)]
  congr 1
  omega
 have c1:∀ i,i<m->(S'++x::K.set k none)[i]? = S'[i]? := fun i hi=>gal (by omega);have c2:(S'++x::K.set k none)[m]? = some x:=by
  rw [gar (by omega)];have : m-S'.length=0:=by omega
  rw [this]
  rfl
 have c3:∀ q,(S'++x::K.set k none)[q+m+1]? = (K.set k none)[q]? := fun q=>by
  rw [gar (by omega)];have : q+m+1-S'.length=q+1:=by omega
  rw [this]
  rfl
 refine ⟨fun i j j' e1 e2=>?_,fun i i' j e1 e2=>?_,fun i hi => .inl ⟨by omega,rfl⟩,by simp;omega,fun j k0 hk0=>?_,fun i j k1 hS1 hk1=>?_⟩
 ·rcases e1 with ⟨_,rfl⟩ | ⟨_,rfl⟩ | ⟨_,_,rfl⟩ <;> rcases e2 with ⟨_,rfl⟩ | ⟨_,rfl⟩ | ⟨_,_,rfl⟩ <;> omega
 ·rcases e1 with ⟨_,e1⟩ | ⟨_,e1⟩ | ⟨_,_,e1⟩ <;> rcases e2 with ⟨_,e2⟩ | ⟨_,e2⟩ | ⟨_,_,e2⟩ <;> omega
 ·rcases Nat.lt_trichotomy j m with hj | hj | hj
  ·rw [c1 j hj] at hk0;obtain ⟨k1,g1,g2⟩:=h3 j k0 hk0;exact ⟨j,k1,.inl ⟨hj,rfl⟩,by rw [a1 j hj];exact g1,g2⟩
  ·subst hj;rw [c2] at hk0;obtain rfl:=osl hk0;exact ⟨k+j,k0,.inr (.inl ⟨rfl,rfl⟩),by rw [a2];exact hk,.ofF (hK k k0 hk)⟩
  obtain ⟨q,rfl⟩:∃ q,j=q+m+1:=⟨j-m-1,by omega⟩;rw [c3 q] at hk0;have hq:q≠k:=fun e=>by
   subst e;rw [M5 hkl] at hk0
   cases hk0
  rw [M6 (Ne.symm hq)] at hk0;exact ⟨q+m,k0,.inr (.inr ⟨by omega,by omega,by omega⟩),by rw [a2];exact hk0,.ofF (hK q k0 hk0)⟩
 rcases hS1 with ⟨e1,rfl⟩ | ⟨rfl,rfl⟩ | ⟨e1,e2,rfl⟩
 ·rw [a1 _ e1] at hk1;obtain ⟨k',g1,_⟩:=h2 _ k1 hk1;exact ⟨k',by rw [c1 _ e1];exact g1⟩
 ·rw [a2,hk] at hk1;obtain rfl:=osl hk1;exact ⟨k1,c2⟩
 obtain ⟨q,rfl⟩:∃ q,i=q+m:=⟨i-m,by omega⟩;rw [a2] at hk1;exact ⟨k1,by rw [c3 q,M6 (by omega)];exact hk1⟩
end
section
variable {P:Program} {H:AH} {s:Nat}
def HE (P:Program) (H:AH) (s:Nat) (a:AV) (news:List (List AV)):Prop:=∀ (c:Cx) (u:Value),c.H=H->HRel c->c.rel a u ->
 (∀ w,(Builtin.lenOf u).run P w = .ok news.length w)/\(∀ (i:Nat) (row:List AV),news[i]? = some row->row.length=s) /\
 ∀ n,n<=news.length->∃ vs:List Value,(∀ w,w.heap=c.w.heap->(Builtin.firstCells s n u).run P w = .ok vs.toArray w)/\xL c s (news.take n) vs
theorem HE.of {a:AV} {news:List (List AV)} (len:Nat) (hl:news.length=len) (h:∀ (c:Cx) (u:Value),c.H=H->HRel c->c.rel a u->∃ A cap,u = .slice A len cap/\∀ n,n<=len->∃ vs,SrcIs P c s (.slice A n cap) (news.take n) vs):HE P H s a news:=fun c u hH hr hu=>by
 obtain ⟨A,cap,rfl,h1⟩:=h c u hH hr hu;refine ⟨fun w=>by rw [hl];simp [Builtin.lenOf],fun i row hi=>?_,fun n hn=>?_⟩
 ·obtain ⟨vs,h2⟩:=h1 len (M3 _);refine h2.rows i row ?_;rw [Nw (by omega)];exact hi
 obtain ⟨vs,h2⟩:=h1 n (by omega);refine ⟨vs,fun w hw=>?_,h2.is⟩;have h3:=h2.cells w hw;rw [Ng,Np hn] at h3;rw [<- h3]
 cases A <;> rfl
theorem HE.own {b ver off len:Nat} {k:ABlk} (hk:H[b]? = some (some k)) (hv:k.ver=ver) (hs:k.s=s) (hn:off+len<=k.rows.length):HE P H s (.hs b ver s off len) ((k.rows.drop off).take len):=
 .of len (by simp;omega) fun c u hH hr hu=>by
  cases hu with
  | fr h=>cases h
  | @hs _ _ _ _ _ cap A hb hc hm h0 hx=>
   refine ⟨A,cap,rfl,fun n hn' => ?_⟩;rw [List.take_take,Np hn'];exact bK.own hk hv hs (by omega) rfl c _ hH hr (.hs hb (by omega) hm h0 fun x hx'=>⟨(hx x hx').1,by have := (hx x hx').2.1;omega,(hx x hx').2.2.1,(hx x hx').2.2.2⟩)
theorem HE.fz {α:Type} [Inhabited α] {f:α->List AV} {l:List α} (hf:∀ x,(f x).length=s):HE P H s (eL f l) (l.map f):=
 .of l.length (by simp) fun c u hH hr hu=>by
  have h:=pu hu
  cases h with
  | @sl _ cap sz g o _ a us hc hm ha hs hu2 h1 h=>
   refine ⟨a,cap,rfl,fun n hn=>?_⟩;have e:(l.map f).take n=(M0 n).map fun i=>f (l.getD i default):=by
    rw [<- List.map_take,<- qI f (l.take n),Ng,Np hn];apply Ny;intro i hi;have hi':i<n:=by simpa using hi
    simp [Nf,hi']
   rw [e];refine bK.sl (H:=c.H) (n:=n) (row:=fun i=>f (l.getD i default)) (fun i _=>hf _) c _ rfl hr (.fr (.sl (s:=sz) (g:=g) (o:=o) us (by omega) hm (fun h0=>ha (by omega)) (fun i hi=>hs i (by omega)) (fun i j a hi=>hu2 i j a (by omega)) (fun i j a hi=>h1 i j a (by omega)) (fun i j a hi=>h i j a (by omega))))
variable {o:Oper} {ρ:Operand->AV}
variable {α:Type} {c:α->List AV} {l k:List α} {x y:Operand} {t u e:TypeId} {ag:Bool} {w m b ver off len:Nat} {zs:List AV}
end
section
variable {P:Program} {K V:Type} [DecidableEq K] {kn vn:Nat} {kc:K->List Value} {cv:V->List AV} {keyT t e:TypeId} {l:List (K×V)} {ρ:Operand->AV} {H:AH} {x y z:Operand} {b:Nat}
theorem EvA.look (q:KeyA P keyT kn kc) (hv:∀ v,(cv v).length=vn) (d:V) {zv:Value} {ok:Bool} (ht:P.underlying t=some (.map keyT e)) (hz:∀ w,(zeroValue e).run P w = .ok zv w) (hzr:∀ c:Cx,c.rel (mkA (cv d)) zv) (k:K)
 (hx:ρ x = .mp b (kn+vn)) (hy:ρ y=mkA ((kc k).map AV.v)) (hb:H[b]? = some (some (mB kn vn kc cv l))) :
 EvA P ρ (.lookup t x y ok) H (bif ok then .tup [mkA (cv ((ED l k).getD d)),.v (.bool (ED l k).isSome)] else mkA (cv ((ED l k).getD d))) H:=fun _ ho=>BO q hv d ho ht hz hzr k hx hy hb
end
section
variable {K V:Type} {kn vn:Nat} {kc:K->List Value} {cv:V->List AV} {l:List (K×V)} {H:AH}
theorem StayB.mp {m:Nat} (hv:∀ v,(cv v).all (isF 9)=true):StayB m H (some (mB kn vn kc cv l)) (some (mB kn vn kc cv l)) := .keep fun r hr a ha=>by
 obtain ⟨p,_,rfl⟩:=M7.1 hr;rcases List.mem_append.1 ha with ha | ha
 ·obtain ⟨x,_,rfl⟩:=M7.1 ha
  rfl
 exact tC 9 m a (Nc.1 (hv p.2) a ha)
end
section
variable {P:Program} {K V:Type} {kn vn:Nat} {kc:K->List Value} {cv:V->List AV} {keyT t e:TypeId} {l:List (K×V)} {ρ:Operand->AV} {H:AH} {x:Operand} {b:Nat}
end
section
variable {P:Program} {kn:Nat} {t:TypeId} {ρ:Operand->AV} {H:AH}
end
section
variable {P:Program} {keyT e:TypeId} {i:TypeInfo}
end
theorem Cx.trim {c:Cx} {b ver s off n:Nat} {ty:TypeId} {rows:List (List AV)} (hr:HRel c) (hb:c.H[b]? = some (some ⟨ver,s,ty,rows⟩)) (hle:off+n<=rows.length) {v:Value} (hv:c.rel (.hs b ver s off n) v) :
  ∃ c':Cx,c'.w=c.w/\c'.H=c.H.set b (some ⟨ver+1,s,ty,(rows.drop off).take n⟩)/\HRel c'/\Ext c c'/\c'.rel (.hs b (ver+1) s 0 n) v:=by
 have hlv:c.live b ⟨ver,s,ty,rows⟩:=hb;have hblt:b<c.H.length:=(ges hb).1;obtain ⟨cs,fr,hB⟩:=hr.blk b _ hlv
 cases hv with
 | fr h=>cases h
 | @hs _ _ _ _ _ cap A hbn hc hm h0 hh=>
  obtain ⟨fr,rfl,hat,hd⟩:=hB.cells hlv (fun x hx=>(hh x hx).1);obtain ⟨_,hn,hA,hcap⟩:=hh _ hd;let c':Cx:={ w:=c.w,fz:=c.fz,H:=c.H.set b (some ⟨ver+1,s,ty,(rows.drop off).take n⟩),φ:=fun j=>if j=b then ((c.φ b).1,(c.φ b).2+off*s) else c.φ j };have φb:c'.φ b=((c.φ b).1,(c.φ b).2+off*s):=if_pos rfl;have φo:∀ {j},j≠b->c'.φ j=c.φ j:=fun {j} hj=>if_neg hj;have φ1:∀ j,(c'.φ j).1=(c.φ j).1:=fun j=>by
   by_cases hj:j=b
   ·subst hj;rw [φb]
   rw [φo hj]
  have Hb:c'.H[b]? = some (some ⟨ver+1,s,ty,(rows.drop off).take n⟩):=by
   show (c.H.set b _)[b]? = _;rw [M5 hblt]
  have Ho:∀ {j},j≠b->c'.H[j]? = c.H[j]? := fun {j} hj=>by
   show (c.H.set b _)[j]? = _;rw [M6 (Ne.symm hj)]
  have lv:∀ {j k},c'.live j k->(j=b/\k=⟨ver+1,s,ty,(rows.drop off).take n⟩)\/(j≠b/\c.live j k):=fun {j k} hl=>by
   by_cases hj:j=b
   ·subst hj;have hl':c'.H[j]? = some (some k):=hl;rw [Hb] at hl';injection hl' with hl';injection hl' with hl';exact .inl ⟨rfl,hl'.symm⟩
   have hl':c'.H[j]? = some (some k):=hl;rw [Ho hj] at hl';exact .inr ⟨hj,hl'⟩
  have hx:Ext c c':=by
   refine ⟨rfl,rfl,rfl,M3 _,fun _ _ _=>rfl,fun _ h=>h,fun _ h => .inl h,by show c.H.length<=(c.H.set b _).length;rw [Nq];exact M3 _,fun j q hj=>?_,fun j q x hj hx=>?_,fun j k hl => .inr ?_⟩
   ·by_cases e:j=b
    ·subst e;unfold Cx.born at hj ⊢;rw [hb] at hj;rw [Hb];simp only at hj ⊢;omega
    unfold Cx.born at hj ⊢;rw [Ho e];exact hj
   ·by_cases e:j=b
    ·subst e;unfold Cx.born at hj;rw [hb] at hj;unfold Cx.hd at hx;rw [Hb] at hx;simp only at hj hx;rw [if_neg (by omega)] at hx
     cases hx
    unfold Cx.hd at hx ⊢;rw [Ho e,φo e] at hx;exact hx
   rcases lv hl with ⟨rfl,_⟩ | ⟨_,h⟩
   ·exact ⟨j,_,hlv,(φ1 j).symm⟩
   exact ⟨j,k,h,(φ1 j).symm⟩
  have hlen:((rows.drop off).take n).length=n:=by rw [Ng,List.length_drop];omega
  have hfit:=hB.fits;simp only at hfit;refine ⟨c',rfl,rfl,⟨hr.lt,fun j k hl=>?_,fun j j' k k' hl hl' hne=>?_,hr.glx hx⟩,hx,?_⟩
  ·rcases lv hl with ⟨rfl,rfl⟩ | ⟨hj,h⟩
   ·refine ⟨cs,some fr,⟨?_,?_,hB.pos,hB.free,?_,fun i r hi=>?_,fun i r q a hi ha=>?_⟩⟩
    ·show c.w.heap[(c'.φ j).1]? = _;rw [φ1,hat]
     rfl
    ·rw [φ1];exact hB.nf
    ·rw [φb];show (c.φ j).2+off*s+((rows.drop off).take n).length*s<=cs.size;rw [hlen];have : off*s+n*s<=rows.length*s:=by rw [<- Nat.add_mul];exact Nat.mul_le_mul_right s hle
     omega
    ·have hi':((rows.drop off).take n)[i]? = some r:=hi;rw [Nf] at hi'
     split at hi'
     ·rw [Nn] at hi';exact hB.len _ r hi'
     cases hi'
    have hi':((rows.drop off).take n)[i]? = some r:=hi;rw [Nf] at hi'
    split at hi'
    ·rw [Nn] at hi';obtain ⟨u,g1,g2,g3⟩:=hB.rel _ r q a hi' ha;refine ⟨u,?_,g2,g3.ext hr hx⟩;rw [φb];show cs[(c.φ j).2+off*s+i*s+q]? = some u;rw [<- g1]
     congr 1
     show (c.φ j).2+off*s+i*s+q=(c.φ j).2+(off+i)*s+q;rw [Nat.add_mul];omega
    cases hi'
   obtain ⟨cs',fr',hB'⟩:=hr.blk j k h;exact ⟨cs',fr',⟨by rw [φo hj];exact hB'.at_,by rw [φo hj];exact hB'.nf,hB'.pos,hB'.free,by rw [φo hj];exact hB'.fits,hB'.len,fun i r q a hi ha=>by
    obtain ⟨u,g1,g2,g3⟩:=hB'.rel i r q a hi ha;exact ⟨u,by rw [φo hj];exact g1,g2,g3.ext hr hx⟩⟩⟩
  ·have old:∀ {j k},c'.live j k->∃ k0,c.live j k0:=fun {j k} hl=>by
    rcases lv hl with ⟨rfl,_⟩ | ⟨_,h⟩
    ·exact ⟨_,hlv⟩
    exact ⟨_,h⟩
   obtain ⟨_,h1⟩:=old hl;obtain ⟨_,h2⟩:=old hl';rw [φ1,φ1];exact hr.inj j j' _ _ h1 h2 hne
  refine .hs ?_ hc hm h0 fun x hx=>?_
  ·unfold Cx.born;rw [Hb];exact M3 _
  have hat':c'.w.heap[(c'.φ b).1]? = some (.cells cs ty fr):=by rw [φ1];exact hat
  have := Cx.hd_of (c:=c') (b:=b) (k:=⟨ver+1,s,ty,(rows.drop off).take n⟩) Hb hat';have he:=hx.symm.trans this;simp only [hdo,sie] at he;subst he;rw [φb];refine ⟨rfl,by show 0+n<=((rows.drop off).take n).length;rw [hlen];omega,fun hp=>?_,?_⟩
  ·show A=some ⟨(c.φ b).1,(c.φ b).2+off*s+0*s,none⟩;rw [Nat.zero_mul];exact hA hp
  show (c.φ b).2+off*s+0*s+cap*s<=cs.size;rw [Nat.zero_mul];exact hcap
section
variable {P:Program} {ρ:Operand->AV} {H:AH}
theorem EvA.trim {op:Op} {b ver s off n:Nat} {ty:TypeId} {rows:List (List AV)} (h:Kz P ρ op (.hs b ver s off n)) (hb:H[b]? = some (some ⟨ver,s,ty,rows⟩)) (hle:off+n<=rows.length) :
  EvA P ρ op H (.hs b (ver+1) s 0 n) (H.set b (some ⟨ver+1,s,ty,(rows.drop off).take n⟩)):=fun o ho c a K Q hH hr hxs hK=>
 h o ho H c a K Q hH hr hxs fun v c1 hH1 hr1 hx1 hv1=>by
  obtain ⟨c2,e1,e2,e3,e4,e5⟩:=Cx.trim hr1 (by rw [hH1];exact hb) hle hv1;rw [<- e1];exact hK v c2 (by rw [e2,hH1]) e3 (hx1.trans e4) e5
theorem EvA.cutO {α:Type} {f:α->List AV} {op:Op} {b ver w n:Nat} {ty:TypeId} (l:List α) {zl zh:Int} (h:Kz P ρ op (.hs b ver w (0+zl.toNat) (zh.toNat-zl.toNat))) (hb:H[b]? = some (bE false ver w ty (l.map f))) (hn:n=l.length)
  (g:0<=zl/\zl<=zh/\zh<=(n:Int)) :
  EvA P ρ op H (hS false b (ver+1) w ((l.drop zl.toNat).take (zh.toNat-zl.toNat)).length) (H.set b (bE false (ver+1) w ty (((l.drop zl.toNat).take (zh.toNat-zl.toNat)).map f))):=by
 obtain ⟨g1,g2,g3⟩:=g;have hl:((l.drop zl.toNat).take (zh.toNat-zl.toNat)).length=zh.toNat-zl.toNat:=by rw [Ng,List.length_drop];omega
 have := EvA.trim h (rows:=l.map f) hb (by rw [llm];omega);rw [hl,List.map_take,List.map_drop];rw [Nat.zero_add] at this;exact this
inductive FzP (H:AH):AV->AV->Prop
 | fz {a a':AV} (h:Fz 0 H a a'):FzP H a a'
 | hp {b ver s j:Nat} {ty:TypeId} {r x row':List AV} (hk:H[b]? = some (some ⟨ver,s,ty,[r++x]⟩)) (h:FzL 0 H r row'):FzP H (.hp b ver s 0 j) (.fp row' j)
inductive FzPL (H:AH):List AV->List AV->Prop
 | nil:FzPL H [] []
 | cons {a b:AV} {l k:List AV} (h:FzP H a b) (t:FzPL H l k):FzPL H (a::l) (b::k)
theorem FzPL.spec {l k:List AV} (h:FzPL H l k):l.length=k.length/\∀ (i:Nat) (c d:AV),l[i]? = some c->k[i]? = some d->FzP H c d:=by
 induction h with
 | nil=>exact ⟨rfl,fun i c d h=>by simp at h⟩
 | cons h t ih=>
  refine ⟨by simp [ih.1],fun i c d h1 h2=>?_⟩
  cases i with
  | zero=>
   simp only [MX,sie] at h1 h2;subst h1 h2;exact h
  | succ i=>
   simp only [M4] at h1 h2;exact ih.2 i c d h1 h2
end
def HL (r:AV) (G:Nat->AH):AV->AH->Prop:=fun r' G'=>∃ ver,r'=r/\G'=G ver
def JY:List Nat->AH->AH->AH
 | [],_,H=>H
 | b::bs,G,H=>match G with
  | []=>H
  | x::xs=>JY bs xs (H.set b x)
def HQ (H:AH) (ids:List Nat) (G:AH):AH:=JY ids G H
theorem wL {H:AH} {b:Nat} {bs:List Nat} {x:Option ABlk} {xs:AH}:HQ H (b::bs) (x::xs)=HQ (H.set b x) bs xs:=rfl
theorem wM:∀ (ids:List Nat) (H G:AH),(HQ H ids G).length=H.length
 | [],_,_=>rfl
 | _::_,_,[]=>rfl
 | b::bs,H,x::xs=>by rw [wL,wM bs,Nq]
theorem Aj {b:Nat}:∀ (ids:List Nat) (H G:AH),b∉ids->(HQ H ids G)[b]? = H[b]?
 | [],_,_,_=>rfl
 | _::_,_,[],_=>rfl
 | c::bs,H,x::xs,h=>by
  rw [wL,Aj bs _ _ (fun hm=>h (.tail _ hm)),M6 (fun e=>h (by rw [e];exact List.mem_cons_self))]
theorem Al:∀ (ids:List Nat) (H G:AH) (i b:Nat),ids.Nodup->ids[i]? = some b->b<H.length->i<G.length->(HQ H ids G)[b]? = G[i]?
 | [],_,_,_,_,_,h,_,_=>by simp at h
 | _::_,_,[],_,_,_,_,_,h=>by simp at h
 | c::bs,H,x::xs,i,b,hn,h,hb,hi=>by
  rw [wL];obtain ⟨hn1,hn2⟩:=List.nodup_cons.1 hn
  cases i with
  | zero=>
   simp only [MX,sie] at h;subst h;rw [Aj bs _ _ hn1,M5 hb]
   rfl
  | succ i=>
   simp only [M4] at h;rw [Al bs _ xs i b hn2 h (by rw [Nq];exact hb) (by simpa using hi)]
   rfl
inductive OutAt (S:Nat->Nat->Prop) (H:AH):List Nat->AH->Prop
 | nil:OutAt S H [] []
 | cons {b:Nat} {k k0:ABlk} {bs:List Nat} {G:AH} (hb:H[b]? = some (some k)) (hk:RenK S k k0) (t:OutAt S H bs G):OutAt S H (b::bs) (some k0::G)
 | none {b:Nat} {bs:List Nat} {G:AH} (hb:H[b]? = some Option.none) (t:OutAt S H bs G):OutAt S H (b::bs) (Option.none::G)
theorem OutAt.bE {S:Nat->Nat->Prop} {H:AH} {α:Type} {g:Bool} {v w b:Nat} {ty:TypeId} {f:α->List AV} {x:List α} {bs:List Nat} {G:AH} (hb:H[b]? = some (bE g v w ty (x.map f))) (hf:∀ x,(f x).all (isF 9)=true) (t:OutAt S H bs G):OutAt S H (b::bs) (Go.Proofs.YtpkhamajimidnaaGreatDoor.bE g v w ty (x.map f)::G):=by
 cases g with
 | true=>exact .none hb t
 | false=>exact .cons hb (.ofF fun r hr a ha=>wH hf r hr a ha) t
theorem OutAt.spec {S:Nat->Nat->Prop} {H:AH} {ids:List Nat} {G:AH} (h:OutAt S H ids G):ids.length=G.length/\∀ (i b:Nat),ids[i]? = some b->(H[b]? = some Option.none/\G[i]? = some Option.none)\/∃ k k0:ABlk,H[b]? = some (some k)/\G[i]? = some (some k0)/\RenK S k k0:=by
 induction h with
 | nil=>exact ⟨rfl,fun i b h=>by simp at h⟩
 | @none b bs G hb t ih=>
  refine ⟨by simp [ih.1],fun i c h=>?_⟩
  cases i with
  | zero=>
   simp only [MX,sie] at h;subst h;exact .inl ⟨hb,rfl⟩
  | succ i=>
   simp only [M4] at h ⊢;exact ih.2 i c h
 | @cons b k k0 bs G hb hk t ih=>
  refine ⟨by simp [ih.1],fun i c h=>?_⟩
  cases i with
  | zero=>
   simp only [MX,sie] at h;subst h;exact .inr ⟨k,k0,hb,rfl,hk⟩
  | succ i=>
   simp only [M4] at h ⊢;exact ih.2 i c h
section
variable {P:Program}
theorem dX.outAt {f:FuncId} {as0 KQ:List AV} {H0 H:AH} {r0 r:AV} {G0:Nat->AH} (h:dX P f as0 H0 (HL r0 G0)) (ids:List Nat) (hn:ids.Nodup) (hin:OutAt (fun b i=>ids[i]? = some b) H ids H0) (has:RenL (fun b i=>ids[i]? = some b) KQ as0)
  {G G':Nat->AH} (N:Nat) (hN:H.length=N) (hout:∀ v,RenHL (sg ids N) (G0 v) (G v)) (hlen:∀ v,(G0 v).length=ids.length) (hr:Ren (sg ids N) r0 r) (hG:∀ v,HQ H ids (G v)=G' v):dX P f KQ H (HL r G'):=by
 subst hN;refine h.frameN ids hn hin.spec.1 hin.spec.2 has.spec.1 has.spec.2 fun r1 G1 ⟨v,e1,e2⟩=>⟨r,G' v,?_,by rw [e1];exact hr,v,rfl,rfl⟩;subst e2;obtain ⟨l1,l2,l3⟩:=(hout v).spec;have hl:=hlen v;have lt:∀ {i b},ids[i]? = some b->b<H.length:=fun {i b} hi=>by
  rcases hin.spec.2 i b hi with ⟨h1,_⟩ | ⟨k,_,h1,_⟩
  ·exact (ges h1).1
  exact (ges h1).1
 have sgi:∀ {i b},i<(G0 v).length->sg ids H.length i b->ids[i]? = some b:=fun {i b} hi hs=>by
  rcases hs with hs | ⟨hs,_⟩
  ·exact hs
  omega
 refine ⟨by omega,by rw [<- hG,wM];omega,fun i b hi hs hd=>?_,fun i b k0 hs hk=>?_,fun b hb hni=>by rw [<- hG,Aj _ _ _ hni]⟩
 ·have hib:=sgi hi hs;rw [<- hG,Al ids H (G v) i b hn hib (lt hib) (by omega)];have hg:i<(G v).length:=by omega
  rw [geq hg]
  cases hc:(G v)[i] with
  | none=>rfl
  | some k'=>
   obtain ⟨k,h1,_⟩:=l3 i k' (by rw [geq hg,hc]);rw [hd] at h1
   cases h1
 have hi:=(ges hk).1;have hib:=sgi hi hs;obtain ⟨k',h1,h2⟩:=l2 i k0 hk;refine ⟨k',?_,h2⟩;rw [<- hG,Al ids H (G v) i b hn hib (lt hib) (by omega)];exact h1
end
section
variable {P:Program} {nt b0:Nat} {Q:Exit->Env->AH->Prop} {en:List (Nat×AV)} {H:AH} {ops:Array Oper} {l:List Oper} {d:Tmp} {t:TypeId} {pos:String} {af:Array Edge}
theorem oW {cl:Call} {f:Operand} {g:FuncId} {nO KQ:List AV} {r:AV} {G:Nat->AH} (hc:cl.callee = .value f) (hf:rho (ak en) f = .fn (.func g) nO) (ha:cl.args.toList.map (rho (ak en))++nO=KQ)
  (h:dX P g KQ H (HL r G)) (k:∀ ver,TO P nt b0 ops l Q (ak ((d,r)::en)) (G ver)):TO P nt b0 ops (⟨some d,.call cl,t,pos,af,none⟩::l) Q (ak en) H:=by
 subst ha;exact TO.runG (.free rfl) (Bc rfl hc hf h) fun r' H' ⟨ver,hr,hH⟩=>by
  subst hr hH;exact k ver
end
theorem RenK.mB {K V:Type} {kn vn:Nat} {kc:K->List Value} {cv:V->List AV} {l:List (K×V)} (S:Nat->Nat->Prop) (hv:∀ v,(cv v).all (isF 9)=true):RenK S (mB kn vn kc cv l) (mB kn vn kc cv l) := .ofF fun r hr a ha=>by
 obtain ⟨p,_,rfl⟩:=M7.1 hr;rcases List.mem_append.1 ha with ha | ha
 ·obtain ⟨x,_,rfl⟩:=M7.1 ha
  rfl
 exact Nc.1 (hv p.2) a ha
theorem RenK.bE' {S:Nat->Nat->Prop} {α:Type} {v w:Nat} {ty:TypeId} {f:α->List AV} {x:List α} (hf:∀ x,(f x).all (isF 9)=true):RenK S ⟨v,w,ty,x.map f⟩ ⟨v,w,ty,x.map f⟩ := .ofF fun r hr a ha=>wH hf r hr a ha
section
variable {P:Program} {K:Type} [DecidableEq K] {kn:Nat} {kc:K->List Value} {keyT t e:TypeId} {l:List (K×Bool)} {ρ:Operand->AV} {H:AH} {x y z:Operand} {b:Nat}
omit [DecidableEq K] in
end
section
variable {P:Program}
theorem dX.mkS {f:FuncId} {fn:Func} {body:Code} {KQ:List AV} {H:AH} {R:AV->AH->Prop} (hf:P.funcs[f]? = some fn) (hb:fn.body=some body) (hcall:gy P f=true) (hn:MZ KQ.length fn.ntmps=true)
 (hok:codeOk fn.ntmps body=true) {e0:Env} (hw:za (FP KQ) e0) (h:T P fn.ntmps H.length body (SQ H.length (Fin P fn R)) e0 H):dX P f KQ H R:=dX.mkT hf hb hcall hn hok hw h.leaf
end
section
variable {P:Program} {ρ:Operand->AV} {H:AH}
theorem Db {o:Oper} {t:TypeId} {x:Operand} {cs:List AV} {b:Nat} (ho:o.op = .box t x) (hc:(ρ x).cells=some cs) (h0:0<cs.length) (hb:H[b]? = some none):OpS P o ρ H (.hp b 0 cs.length 0 0) (H.set b (some ⟨0,cs.length,t,[cs]⟩)):=by
 intro c a K Q hH hr hx hK;have hx1:=hx x (by rw [ho];simp [Op.operands]);have hz':=rO hx1 hc;have hsz:=hz'.size;subst hH;have hrel:HRel (c.newAt b ⟨0,cs.length,t,[cs]⟩ (a.eval x).cells):=by
  refine Cx.newAt_rel hr hb h0 (by simp;omega) (fun i row h=>?_) (fun i row j a h1 h2=>?_)
  ·match i,h with
   | 0,h=>simp at h;rw [<- h]
   | i+1,h=>simp at h
  match i,h1 with
  | 0,h1=>
   simp only [MX,sie] at h1;subst h1;simpa using hz'.get h2
  | i+1,h1=>simp at h1
 have hrun:(execOp a.eval o).run P c.w = .ok (.value (.pointer (some ⟨c.w.heap.size,0,none⟩))) (c.newAt b ⟨0,cs.length,t,[cs]⟩ (a.eval x).cells).w:=by
  rw [execOp,ho];refine (?_:Sem.run P _ c.w=_);have : (Instr.box t (a.eval x)).run P c.w = .ok (.pointer (some ⟨c.w.heap.size,0,none⟩)) (c.w.alloc (.cells (a.eval x).cells t)):=by
   simp [Instr.box,newVar,newRow]
  simp only [Sem.run_bind,this,Result.andThen_ok,Sem.run_pure]
  rfl
 unfold Oper.wp;rw [hrun];have hl2:=Cx.newAt_self (c:=c) (k:=⟨0,cs.length,t,[cs]⟩) (cs:=(a.eval x).cells) hb;have hφ2:(c.newAt b ⟨0,cs.length,t,[cs]⟩ (a.eval x).cells).φ b=(c.w.heap.size,0):=if_pos rfl;refine hK _ (c.newAt b ⟨0,cs.length,t,[cs]⟩ (a.eval x).cells) rfl hrel (Cx.newAt_ext hr hb) (.hp ?_ fun q hq=>?_)
 ·unfold Cx.born;rw [show (c.newAt b ⟨0,cs.length,t,[cs]⟩ (a.eval x).cells).H[b]? = some (some _) from hl2];exact M3 _
 have := Cx.hd_of hl2 (o:=.cells (a.eval x).cells t) (by rw [hφ2];exact heap_alloc_new _ _);rw [hφ2] at this;have he:=hq.symm.trans this;simp only [hdo,sie] at he;subst he;exact ⟨rfl,by simp⟩
theorem EvA.bxA {t:TypeId} {x:Operand} {cs:List AV} (b:Nat) (hx:(ρ x).cells=some cs) (hn:(Nat.blt 0 cs.length)=true) (hb:H[b]? = some none):EvA P ρ (.box t x) H (.hp b 0 cs.length 0 0) (H.set b (some ⟨0,cs.length,t,[cs]⟩)):=
 fun _ ho=>Db ho hx (nlb hn) hb
end
section
variable {c:Cx} {b:Nat} {k:ABlk}
end
section
variable {P:Program} {ρ:Operand->AV} {H:AH}
end
section
variable {P:Program} {ρ:Operand->AV} {t e:TypeId}
end
section
variable {P:Program} {nt b0:Nat} {Q:Exit->Env->AH->Prop} {e:Env} {H:AH}
theorem T.ifH {α:Type} {q:Bool} {x:Operand} {t f:Code} {X Y:Option α} {r:α} (hc:rho e x = .v (.bool q)) (h:(bif q then X else Y)=some r) (h1:q=true->X=some r->T P nt b0 t Q e H) (h2:q=false->Y=some r->T P nt b0 f Q e H):T P nt b0 (.cond x t f) Q e H:=
 T.cond hc (fun hq=>h1 hq (Js hq h)) fun hq=>h2 hq (Jt hq h)
end
theorem KD {α:Type} {a b:α} (h:some a=some b):a=b:=osl h
def Jy (e:Env):List (Nat×AV)->List (Nat×AV)
 | []=>[]
 | p::l=>(p.1,e p.1)::Jy e l
theorem wk {e:Env}:∀ {en:List (Nat×AV)},Jy e en=en->za e (ak en)
 | [],_=>Kw
 | (t,a)::l,h=>by
  injection h with h1 h2;injection h1 with _ h1;exact Ky h1 (wk h2)
theorem kw {b0:Nat} {e:Env} {H H0:AH} {en:List (Nat×AV)} (hH:H0=H) (h:Jy e en=en):dW b0 e H (ak en) H0:=yV hH (wk h)
def HY:Nat->List AV->List (Nat×AV)
 | _,[]=>[]
 | i,a::l=>(i,a)::HY (i+1) l
theorem Dc:∀ (l:List AV) (i t:Nat),ak (HY i l) t=if t<i then .top else l.getD (t-i) .top
 | [],i,t=>by
  show AV.top=_
  split <;> simp
 | a::l,i,t=>by
  show (bif Nat.beq t i then a else ak (HY (i+1) l) t)=_
  cases hb:Nat.beq t i with
  | true=>
   have := Nz hb;subst this;simp
  | false=>
   have hne:t≠i:=fun h=>by rw [h,show Nat.beq i i=true from Nat.beq_refl i] at hb;cases hb
   rw [cond_false,Dc l (i+1) t]
   by_cases h:t<i
   ·rw [if_pos h,if_pos (by omega)]
   rw [if_neg h,if_neg (by omega),show t-i=(t-(i+1))+1 by omega]
   rfl
theorem Bf (l:List AV):za (FP l) (ak (HY 0 l)):=fun t => .inr (by rw [Dc,if_neg (by omega)];rfl)
section
variable {P:Program} {f:FuncId} {fn:Func} {body:Code} {KQ:List AV} {r:AV} {H H':AH}
def okF (P:Program) (f:FuncId) (fn:Func) (body:Code):Bool:=gy P f&&codeOk fn.ntmps body
theorem Bg (h:okF P f fn body=true):gy P f=true/\codeOk fn.ntmps body=true:=by
 unfold okF at h;simpa using h
theorem pM (hf:P.funcs[f]? = some fn) (hb:fn.body=some body) (hk:okF P f fn body=true) (hn:MZ KQ.length fn.ntmps=true) (h:T P fn.ntmps 0 body (Fin P fn fun r0 G=>Fz 0 G r0 r) (ak (HY 0 KQ)) []):ax P f KQ r:=
 ax.mkT hf hb (Bg hk).1 hn (Bg hk).2 (Bf KQ) h
theorem aM (hf:P.funcs[f]? = some fn) (hb:fn.body=some body) (hk:okF P f fn body=true) (hn:MZ KQ.length fn.ntmps=true) (h:T P fn.ntmps H.length body (SQ H.length (Fin P fn fun r0 G=>r0=r/\G=H')) (ak (HY 0 KQ)) H):li P f KQ H r H':=
 li.mkT hf hb (Bg hk).1 hn (Bg hk).2 (Bf KQ) h
end
section
variable {α β:Type} {G:Prop} {r:β} {x:Option β}
theorem jW {k:IntKind} {n:Int} (h:gd (KC k n) x=some r) (K:k.wrap n=n->x=some r->G):G:=K (gdW h).1 (gdW h).2
theorem jD {A:Prop} [Decidable A] (h:gd (decide A) x=some r) (K:A->x=some r->G):G:=K (gdD h).1 (gdD h).2
theorem jL {b:Bool} (h:gd b x=some r) (K:b=true->x=some r->G):G:=K (gdL h).1 (gdL h).2
theorem jB {o:Option α} {k:α->Option β} (h:o.bind k=some r) (K:∀ v,o=some v->k v=some r->G):G:=(GA h).elim fun v h=>K v h.1 h.2
end
section
variable {P:Program} {nt b0:Nat} {Q:Exit->Env->AH->Prop} {e e0:Env} {H H' H0:AH} {ops:Array Oper} {l:List Oper} {W:Type} {w:W}
theorem T.sr {i:Nat} {y:Code} (h:TO P nt b0 ops ops.toList (EE (T P nt b0 y Q) Q) e H):T P nt b0 (.seq (.region i ops false) y) Q e H := .seq (.region h)
theorem T.jU {S:Type} {A:Option S} {K:S->Option W} {x y:Code} (h:A.bind K=some w) (slots:S->List (Nat×AV)) (heap:S->AH)
  (J:∀ s,K s=some w->T P nt b0 y Q (ak (slots s)) (heap s)) (k:∀ s,A=some s->T P nt b0 x (EE (Ju b0 (fun _:Unit=>True) (fun _=>slots s) (fun _=>heap s)) Q) e H):T P nt b0 (.seq x y) Q e H:=
 jB h fun s h1 h2=>T.joinF (fun _:Unit=>True) (fun _=>slots s) (fun _=>heap s) (fun _ _=>J s h2) (k s h1)
theorem T.jF {S G:Type} {A:Option S} {K:S->Option W} {x y:Code} (h:A.bind K=some w) (inv:S->G->Prop) (slots:S->G->List (Nat×AV)) (heap:S->G->AH)
  (J:∀ s g,K s=some w->inv s g->T P nt b0 y Q (ak (slots s g)) (heap s g)) (k:∀ s,A=some s->T P nt b0 x (EE (Ju b0 (inv s) (slots s) (heap s)) Q) e H):T P nt b0 (.seq x y) Q e H:=
 jB h fun s h1 h2=>T.joinF (inv s) (slots s) (heap s) (fun g hg=>J s g h2 hg) (k s h1)
theorem T.lU {S E:Type} {body:Code} {x:E} {step:S->Option (S ⊕ E)} {s0:S} (h:loopO step s0=some x) (slots:S->List (Nat×AV)) (heap:S->AH) (hs:dW b0 e H (ak (slots s0)) (heap s0))
  (round:∀ s z,step s=some z->T P nt b0 body (EE (ES b0 (fun _ (_:Unit)=>True) (fun s _=>slots s) (fun s _=>heap s) z) (Leave Q x z)) (ak (slots s)) (heap s)):T P nt b0 (.loop body) Q e H:=
 T.loop step (fun _ (_:Unit)=>True) (fun s _=>slots s) (fun s _=>heap s) () h trivial hs fun s _ z hz _=>round s z hz
theorem lE {S E:Type} {slots:S->List (Nat×AV)} {heap:S->AH} {a:S} {z:S ⊕ E} (h:some (Sum.inl a)=some z) (c:dW b0 e H (ak (slots a)) (heap a)):ES b0 (fun _ (_:Unit)=>True) (fun s _=>slots s) (fun s _=>heap s) z e H:=
 ⟨a,(),(osl h).symm,trivial,c⟩
theorem lX {S E:Type} {x y:E} {z:S ⊕ E} {ex:Exit} (h:some (Sum.inr y)=some z) (K:some y=some x->Q ex e H):Leave Q x z ex e H:=⟨y,(osl h).symm,fun h=>K (congrArg some h)⟩
theorem TO.jB {S:Type} {q:Bool} {A B:Option S} {K:S->Option W} (h:(bif q then A else B).bind K=some w) (n:Nat) (slots:S->List (Nat×AV)) (heap:S->AH)
  (h1:∀ s,q=true->A=some s->(∀ e H,dW b0 e H (ak (slots s)) (heap s)->TO P nt b0 ops (l.drop n) Q e H)->TO P nt b0 ops l Q e H)
  (h2:∀ s,q=false->B=some s->(∀ e H,dW b0 e H (ak (slots s)) (heap s)->TO P nt b0 ops (l.drop n) Q e H)->TO P nt b0 ops l Q e H)
  (J:∀ s,K s=some w->TO P nt b0 ops (l.drop n) Q (ak (slots s)) (heap s)):TO P nt b0 ops l Q e H:=by
 obtain ⟨s,ha,hk⟩:=GA h;have key:∀ e H,dW b0 e H (ak (slots s)) (heap s)->TO P nt b0 ops (l.drop n) Q e H:=fun e H c=>(J s hk).cut c
 cases q with
 | true=>exact h1 s rfl ha key
 | false=>exact h2 s rfl ha key
end
section
variable {P:Program} {ρ:Operand->AV} {H H':AH} {x y:Operand} {a:AV} {t:TypeId} {ag:Bool} {n:Nat}
theorem mv:Kz P ρ (.move x) (ρ x):=Kz.mv _ rfl
theorem as':Kz P ρ (.assign x) (ρ x):=Kz.asg _ rfl
def Ka:AV->Bool
 | .fp _ _=>true
 | .hp _ _ _ _ _=>true
 | _=>false
theorem nl (h:Ka (ρ x)=true):Kz P ρ (.nilCheck x) (ρ x):=by
 cases e:ρ x with
 | fp row j=>exact Kz.nilfp e
 | hp b v s i j=>exact Kz.nilhp e
 | _=>rw [e] at h;cases h
def ldE (ag:Bool) (n:Nat):AV->Option AV
 | .fp row j=>uJ ag n row j
 | _=>none
theorem lf (a:AV) (ty:TyF P t ag n) (h:ldE ag n (ρ x)=some a):Kz P ρ (.load t x) a:=by
 cases e:ρ x with
 | fp row j=>rw [e] at h;exact Kz.loadfp a ty e h
 | _=>rw [e] at h;cases h
def faE (pl:List (Nat×Nat)) (i:Nat) (v:AV):Option AV:=match pl[i]? with
 | some (o,k+1)=>(match v with
  | .fp row j=>some (.fp row (j+o))
  | .hp b u s q j=>some (.hp b u s q (j+o))
  | _=>none)
 | _=>none
theorem Bh {α β:Type} {f:α->Option β}:∀ {l:List α} {k:List β},l.mapM f=some k->∀ {i:Nat} {b:β},k[i]? = some b->∃ a,l[i]? = some a/\f a=some b
 | [],k,h,i,b,hb=>by
  simp at h;subst h;simp at hb
 | c::l,k,h,i,b,hb=>by
  simp only [List.mapM_cons] at h;obtain ⟨d,hd,h⟩:=Nh.1 h;obtain ⟨k',hk',h⟩:=Nh.1 h;obtain rfl:=osl h
  cases i with
  | zero=>
   simp at hb;subst hb;exact ⟨c,rfl,hd⟩
  | succ i=>exact Bh hk' (by simpa using hb)
theorem fa {pl:List (Nat×Nat)} {i:Nat} (q:TyS P t pl) (h:faE pl i (ρ x)=some a):Kz P ρ (.fieldAddr t x i) a:=by
 have hs:=q.s
 split at hs
 ·rename_i fs hu;unfold faE at h
  split at h
  ·rename_i o k hk;obtain ⟨fl,h1,h2⟩:=Bh hs hk;rw [Nv] at h1;obtain ⟨inf,h3,h4⟩:=Option.map_eq_some_iff.1 h2;injection h4 with h4 h5;have hc:(P.cellsOf fl.type != 0)=true:=by
    unfold Program.cellsOf;rw [h3];simp [h5]
   subst h4
   cases e:ρ x with
   | fp row j=>rw [e] at h;obtain rfl:=osl h;exact Kz.fafp hu h1 hc e
   | hp b u s w j=>rw [e] at h;obtain rfl:=osl h;exact Kz.fahp hu h1 hc e
   | _=>rw [e] at h;cases h
  cases h
 cases hs
theorem lh (a:AV) (ty:TyF P t ag n) {b ver s j:Nat} {ty':TypeId} {row:List AV} (h:ρ x = .hp b ver s 0 j) (hk:H[b]? = some (some ⟨ver,s,ty',[row]⟩)) (hp:uJ ag n row j=some a):EvA P ρ (.load t x) H a H:=EvA.loadhp a ty h hk rfl rfl rfl hp
def srE (n s j:Nat) (row cs:List AV):Option (List AV):=bif Nat.beq cs.length n&&MZ (j+n) s then some (splice row j cs) else none
theorem sr (row':List AV) (ty:TyF P t ag n) {b ver s j:Nat} {ty':TypeId} {row cs:List AV} (hx:ρ x = .hp b ver s 0 j) (hy:(ρ y).cells=some cs) (hk:H[b]? = some (some ⟨ver,s,ty',[row]⟩)) (hr:srE n s j row cs=some row'):EvA P ρ (.store t x y) H .top (H.set b (some ⟨ver,s,ty',[row']⟩)):=by
 unfold srE at hr
 cases hb:(Nat.beq cs.length n&&MZ (j+n) s) with
 | false=>rw [hb] at hr;cases hr
 | true=>
  rw [hb] at hr;obtain rfl:=osl hr;rw [bae] at hb;exact EvA.st (k:=⟨ver,s,ty',[row]⟩) _ ty hx hy hk rfl rfl rfl (Nz hb.1) hb.2 rfl
end
section
variable {P:Program} {nt b0:Nat} {Q:Exit->Env->AH->Prop} {H H':AH} {ops:Array Oper} {l:List Oper} {d:Tmp} {ty:TypeId} {pos:String} {af:Array Edge} {en:List (Nat×AV)} {fp:Nat->Fp} {i:Nat} {K:Env->AH->Prop} {S W:Type} {r:W} {A:Option S} {k:S->Option W} {v:S->AV} {cl:Call} {f:Operand} {g:FuncId} {nO KQ:List AV}
theorem oC (h:A.bind k=some r) (hp:∀ s,A=some s->ax P g KQ (v s)) (hc:cl.callee = .value f) (hf:rho (ak en) f = .fn (.func g) nO) (ha:cl.args.toList.map (rho (ak en))++nO=KQ) (hF:KQ.all (isF 9)=true)
  (J:∀ s,A=some s->k s=some r->TO P nt b0 ops l Q (ak ((d,v s)::en)) H):TO P nt b0 ops (⟨some d,.call cl,ty,pos,af,none⟩::l) Q (ak en) H:=
 jB h fun s h1 h2=>oN (Kz.call hc hf ha (hp s h1) hF) (J s h1 h2)
theorem fC (h:A.bind k=some r) (hp:∀ s,A=some s->ax P g KQ (v s)) (hc:cl.callee = .value f) (hf:rho (ak en) f = .fn (.func g) nO) (ha:cl.args.toList.map (rho (ak en))++nO=KQ) (hF:KQ.all (isF 9)=true) (h0:fp i=([],false))
  (J:∀ s,A=some s->k s=some r->TF P fp (i+1) l K (ak ((d,v s)::en)) H):TF P fp i (⟨some d,.call cl,ty,pos,af,none⟩::l) K (ak en) H:=
 jB h fun s h1 h2=>fN h0 (Kz.call hc hf ha (hp s h1) hF) (J s h1 h2)
end
section
variable {P:Program} {fn:Func} {e:Env} {G:AH} {a:AV} {t:Tmp} {m:Nat}
theorem aD (h:fn.results.toList=[.tmp t]) (h1:e t=a) (h2:isF 9 a=true):Fin P fn (fun r0 G=>Fz m G r0 a) .ret e G:=Fin.ret (vs:=[a]) (by rw [h];exact .cons (.tmp h1) .nil) (.of_isF 9 _ h2)
end
section
variable {P:Program} {ρ:Operand->AV} {H:AH} {x y:Operand} {t:TypeId} {ag:Bool} {n j w:Nat} {q:Int}
variable {v:Nat} {u:Int}
end
section
variable {P:Program} {H:AH} {s:Nat} {o:Oper} {ρ:Operand->AV}
variable {α:Type} {c:α->List AV} {l:List α} {x y:Operand} {t e:TypeId} {ag:Bool} {w m b ver off len:Nat} {zs:List AV}
end
section
variable {P:Program} {H:AH}
theorem li.oneE {f:FuncId} {as0 KQ:List AV} {b:Nat} {g:Bool} {ver w:Nat} {ty:TypeId} {xn rows:List (List AV)} {r:AV} (h:li P f as0 [bE g ver w ty xn] r [bE g ver w ty rows]) (hb:H[b]? = some (bE g ver w ty xn))
  (has:RenL (fun c i=>[b][i]? = some c) KQ as0) (hk0:∀ r∈xn,∀ a∈r,isF 9 a=true) (hk:∀ r∈rows,∀ a∈r,isF 9 a=true) (hr:isF 9 r=true):li P f KQ H r (H.set b (bE g ver w ty rows)):=by
 have hlt:b<H.length:=(ges hb).1;have h0:dX P f as0 [bE g ver w ty xn] (fun r' G=>r'=r/\G=[bE g ver w ty rows]):=⟨h.1,fun c vs hH hr hall=>(h.2 c vs hH hr hall).mono fun e w' ⟨v,c',h1,h2,h3,h4,h5,h6⟩=>⟨v,c',r,h1,h2,⟨rfl,h3⟩,h4,h5,h6⟩⟩;refine dX.acall (h0.frameN [b] (by simp) rfl (fun i c hi=>?_) has.spec.1 has.spec.2 fun r0 G0 ⟨hr0,hG0⟩ => ?_)
 ·match i with
  | 0=>
   obtain rfl:b=c:=by simpa using hi
   cases g with
   | true=>exact .inl ⟨hb,rfl⟩
   | false=>exact .inr ⟨_,_,hb,rfl,.ofF hk0⟩
  | i+1=>simp at hi
 subst hr0 hG0;have key:∀ i c,sg [b] H.length i c->i<1->c=b:=fun i c hs hi=>by
  rcases hs with hs | ⟨hs,_⟩
  ·obtain rfl:i=0:=by omega
   simpa using hs.symm
  simp at hs;omega
 refine ⟨_,_,⟨by simp,by simp,fun i c hi hs hn=>?_,fun i c k0 hs hk0=>?_,fun c hc hne=>M6 (fun e=>hne (by simp [e]))⟩,aR 9 _ hr,rfl,rfl⟩
 ·simp only [List.length_singleton] at hi;obtain rfl:=key i c hs hi;obtain rfl:i=0:=by omega
  simp only [MX,sie] at hn;rw [M5 hlt,hn]
 have hi:i<1:=by
  have := (ges hk0).1;simpa using this
 obtain rfl:=key i c hs hi;obtain rfl:i=0:=by omega
 simp only [MX,sie] at hk0;refine ⟨k0,by rw [M5 hlt,hk0],.ofF fun r hr a ha=>?_⟩
 cases g with
 | true=>cases hk0
 | false=>
  obtain rfl:=osl hk0;exact hk r hr a ha
theorem EU {S:Nat->Nat->Prop} {g:Bool} {i j v w n n':Nat} (h:S i j) (hn:n=n'):Ren S (hS g i v w n) (hS g j v w n'):=hn ▸ kC h
variable {nt b0:Nat} {Q:Exit->Env->AH->Prop} {en:List (Nat×AV)} {ops:Array Oper} {l:List Oper} {d:Tmp} {t:TypeId} {pos:String} {af:Array Edge}
end
section
variable {P:Program} {ρ:Operand->AV} {H:AH} {x y z:Operand} {t e keyT:TypeId} {ag:Bool} {w j b kn:Nat}
variable {K:Type} [DecidableEq K] {kc:K->List Value} {l:List (K×Bool)}
omit [DecidableEq K] in
end
section
variable {P:Program} {o:Oper} {ρ ρ':Operand->AV} {H:AH} {K K':AV->AH->Prop}
theorem OpG.congr {R:AV->AH->Prop} (h:OpG P o ρ H R) (he:∀ x∈o.op.operands,ρ x=ρ' x):OpG P o ρ' H R:=
 fun c a K Q hH hr hxs hK=>h c a K Q hH hr (fun x hx=>by rw [he x hx];exact hxs x hx) hK
theorem OpG.mono {R R':AV->AH->Prop} (h:OpG P o ρ H R) (hR:∀ r G,R r G->R' r G):OpG P o ρ H R':=
 fun c a K Q hH hr hxs hK=>h c a K Q hH hr hxs fun v c' r hr1 hr2 hr3 hr4=>hK v c' r (hR _ _ hr1) hr2 hr3 hr4
abbrev Xc:=Bool×List Nat
def agr (F:List Nat) (G H:AH):Prop:=∀ b∈F,G[b]? = H[b]?
theorem agr.a0 {b:Nat} {F:List Nat} {G H:AH} (h:agr (b::F) G H) {x:Option ABlk} (hx:H[b]? = some x):G[b]? = some x:=(h b (by simp)).trans hx
theorem agr.a1 {b c:Nat} {F:List Nat} {G H:AH} (h:agr (c::b::F) G H) {x:Option ABlk} (hx:H[b]? = some x):G[b]? = some x:=(h b (by simp)).trans hx
theorem agr.a2 {a b c:Nat} {F:List Nat} {G H:AH} (h:agr (a::c::b::F) G H) {x:Option ABlk} (hx:H[b]? = some x):G[b]? = some x:=(h b (by simp)).trans hx
def De (W:List Nat) (H H':AH):Prop:=∀ b,b<H.length->b∉W->H'[b]? = H[b]?
def Am (P:Program) (o:Oper) (ρ:Operand->AV) (H:AH) (b:Xc) (K:AV->AH->Prop):Prop:=match b.1 with
 | false=>∃ r,(∀ c∈b.2,c<H.length)/\(∀ G,agr b.2 G H->OpS P o ρ G r G)/\K r H
 | true=>OpG P o ρ H fun r H'=>De b.2 H H'/\K r H'
theorem Am.mono {b:Xc} (h:Am P o ρ H b K) (hK:∀ r G,K r G->K' r G):Am P o ρ H b K':=by
 obtain ⟨b,F⟩:=b
 cases b with
 | false=>
  obtain ⟨r,h0,h1,h2⟩:=h;exact ⟨r,h0,h1,hK _ _ h2⟩
 | true=>
  show OpG P o ρ H fun r H'=>De F H H'/\K' r H';exact OpG.mono (R:=fun r H'=>De F H H'/\K r H') h fun r G hr=>⟨hr.1,hK _ _ hr.2⟩
theorem Am.congr {b:Xc} (h:Am P o ρ H b K) (he:∀ x∈o.op.operands,ρ x=ρ' x):Am P o ρ' H b K:=by
 obtain ⟨b,F⟩:=b
 cases b with
 | false=>
  obtain ⟨r,h0,h1,h2⟩:=h;exact ⟨r,h0,fun G hG=>(h1 G hG).congr he,h2⟩
 | true=>
  show OpG P o ρ' H fun r H'=>De F H H'/\K r H';exact OpG.congr (R:=fun r H'=>De F H H'/\K r H') h he
def TX (P:Program) (ops:Array Oper) (cls:Nat->Xc):List Nat->(Env->AH->Prop)->Env->AH->Prop
 | [],K,e,H=>K e H
 | i::l,K,e,H=>∃ o,ops[i]? = some o/\Am P o (rho e) H (cls i) fun r H'=>TX P ops cls l K (rG e o.dst r) H'
end
section
variable {P:Program} {nt b0:Nat} {Q:Exit->Env->AH->Prop} {e:Env} {H H':AH} {r:AV}
variable {d:Tmp} {op:Op} {ty:TypeId} {pos:String} {af:Array Edge} {en:List (Nat×AV)} {cls:Nat->Xc} {ops:Array Oper} {i:Nat} {K:Env->AH->Prop} {l:List Nat}
theorem TX.nil (h:K e H):TX P ops cls [] K e H:=h
end
def EqS (a b:AV):Prop:=∀ (w:World) (fz:Nat->Prop) (v:Value),FRel w fz a v->FRel w fz b v
def yB:List AV->List AV->Prop
 | [],[]=>True
 | a::r,b::q=>EqS a b/\yB r q
 | _,_=>False
theorem EqS.refl (a:AV):EqS a a:=fun _ _ _ h=>h
theorem yB.refl:∀ r:List AV,yB r r
 | []=>trivial
 | a::r=>⟨EqS.refl a,yB.refl r⟩
theorem yB.len:∀ {r q:List AV},yB r q->r.length=q.length
 | [],[],_=>rfl
 | a::r,b::q,h=>by rw [llc,llc,yB.len h.2]
 | [],_::_,h=>h.elim
 | _::_,[],h=>h.elim
theorem yB.get:∀ {r q:List AV},yB r q->∀ {j:Nat} {b:AV},q[j]? = some b->∃ a,r[j]? = some a/\EqS a b
 | [],[],_,j,b,h=>by simp at h
 | a::r,b::q,h,0,c,hc=>by
  simp only [MX,sie] at hc;subst hc;exact ⟨a,rfl,h.1⟩
 | a::r,b::q,h,j+1,c,hc=>by
  simp only [M4] at hc ⊢;exact h.2.get hc
 | [],_::_,h,_,_,_=>h.elim
 | _::_,[],h,_,_,_=>h.elim
theorem EqS.sl {n:Nat} {row row':Nat->List AV} (he:∀ i,i<n->yB (row i) (row' i)):EqS (.sl n row) (.sl n row'):=fun w fz v h=>by
 cases h with
 | @sl _ cap s g o _ a us hc hm ha hs hu h1 h3=>
  refine .sl (s:=s) (g:=g) (o:=o) us hc hm ha (fun i hi=>?_) (fun i j b hi hj=>?_) (fun i j b hi hj=>?_) (fun i j b hi hj=>?_)
  ·rw [<- (he i hi).len];exact hs i hi
  ·obtain ⟨a',ha',_⟩:=(he i hi).get hj;exact hu i j a' hi ha'
  ·obtain ⟨a',ha',_⟩:=(he i hi).get hj;exact h1 i j a' hi ha'
  obtain ⟨a',ha',e⟩:=(he i hi).get hj;exact e _ _ _ (h3 i j a' hi ha')
theorem EqS.fp {row row':List AV} (he:yB row row') {j:Nat}:EqS (.fp row j) (.fp row' j):=fun w fz v h=>by
 cases h with
 | fp us hg hlt hu h1 h3=>
  refine .fp us hg hlt (fun j b hj=>?_) (fun j b hj=>?_) (fun j b hj=>?_)
  ·obtain ⟨a',ha',_⟩:=he.get hj;exact hu j a' ha'
  ·obtain ⟨a',ha',_⟩:=he.get hj;exact h1 j a' ha'
  obtain ⟨a',ha',e⟩:=he.get hj;exact e _ _ _ (h3 j a' ha')
theorem mH {c:Cx} {row row':List AV} {v:Value} {j:Nat} (he:yB row row') (h:c.rel (.fp row j) v):c.rel (.fp row' j) v := .fr (EqS.fp he _ _ _ (oP h))
theorem EqS.eL {α β:Type} [Inhabited α] [Inhabited β] {f:α->List AV} {g:β->List AV} {i:α->β} (h:∀ x,yB (f x) (g (i x))) (l:List α):EqS (eL f l) (eL g (l.map i)):=by
 unfold Go.Proofs.YtpkhamajimidnaaGreatDoor.eL;rw [llm];refine .sl fun k hk=>?_;have e1:l.getD k default=l[k]:=by rw [gdq,geq hk];rfl
 have e2:(l.map i).getD k default=i l[k]:=by rw [gdq,M9,geq hk];rfl
 rw [e1,e2];exact h _
theorem row_in {α:Type} [Inhabited α] {f:α->List AV} {r:List α->Nat->List AV} (h0:∀ x l,r (x::l) 0=f x) (h1:∀ x l i,r (x::l) (i+1)=r l i):∀ (l:List α) (i:Nat),i<l.length->r l i=f (l.getD i default)
 | [],i,h=>by simp at h
 | x::l,0,_=>h0 x l
 | x::l,i+1,h=>by
  rw [h1,row_in h0 h1 l i (by simpa using h)]
  rfl
theorem EqS.slr {α:Type} [Inhabited α] {f:α->List AV} {r:List α->Nat->List AV} (h0:∀ x l,r (x::l) 0=f x) (h1:∀ x l i,r (x::l) (i+1)=r l i) (l:List α):EqS (.sl l.length (r l)) (Go.Proofs.YtpkhamajimidnaaGreatDoor.eL f l):=
 .sl fun i hi=>by rw [row_in h0 h1 l i hi];exact yB.refl _
theorem EqS.slr' {α:Type} [Inhabited α] {f:α->List AV} {r:List α->Nat->List AV} (h0:∀ x l,r (x::l) 0=f x) (h1:∀ x l i,r (x::l) (i+1)=r l i) (l:List α):EqS (Go.Proofs.YtpkhamajimidnaaGreatDoor.eL f l) (.sl l.length (r l)):=
 .sl fun i hi=>by rw [row_in h0 h1 l i hi];exact yB.refl _
section
variable {P:Program} {ρ:Operand->AV} {x:Operand} {t e:TypeId} {ag:Bool}
theorem Kz.slG {α:Type} [Inhabited α] {c:α->List AV} (l:List α) {n w:Nat} {row:List AV} (hu:P.underlying t=some (.array n e)) (ty:TyF P e ag w) (hx:ρ x = .fp row 0) (hl:l.length=n) (hn:(MZ n 16777216)=true) (hr:row.length=n*w/\∀ i,i<n->(row.drop (i*w)).take w=c (l.getD i default)) :
  Kz P ρ (.slice t x none none none) (eL c l):=by
 have hn':=nlb hn;have key:Kz P ρ (.slice t x none none none) (.sl n (fun i=>(row.drop (0+i*w)).take w)) := .mk fun K hK=>by
  show sS P ρ (.slice t x none none none) K;simp only [sS,qF,hu,hx,Option.map_none];show (0<=(0:Int)/\(0:Int)<=(n:Int)/\(n:Int)<=(n:Int)/\0+n*P.cellsOf e<=row.length/\(P.info? e).isSome=true/\n<=9223372036854775807)/\_;rw [ty.cells];exact ⟨⟨by omega,by omega,by omega,by omega,ty.info,by omega⟩,hK⟩
 refine key.res fun C v hv=>?_;unfold Go.Proofs.YtpkhamajimidnaaGreatDoor.eL;rw [hl];exact zy (fun i hi=>by rw [Nat.zero_add];exact hr.2 i hi) hv
end
section
variable {P:Program} {ρ:Operand->AV} {H:AH}
end
def vJ:List ByteArray:=[(⟨#[112,111]⟩:ByteArray),(⟨#[108,111,99]⟩:ByteArray),(⟨#[101,120,116]⟩:ByteArray),(⟨#[114,102]⟩:ByteArray),(⟨#[99,111]⟩:ByteArray),(⟨#[102,114]⟩:ByteArray),(⟨#[102,101,110,99,101]⟩:ByteArray),(⟨#[119,114]⟩:ByteArray),(⟨#[119,119]⟩:ByteArray),(⟨#[105,100]⟩:ByteArray)]
def JZ:List AV:=[St (⟨#[112,111]⟩:ByteArray),St (⟨#[108,111,99]⟩:ByteArray),St (⟨#[101,120,116]⟩:ByteArray),St (⟨#[114,102]⟩:ByteArray),St (⟨#[99,111]⟩:ByteArray),St (⟨#[102,114]⟩:ByteArray),St (⟨#[102,101,110,99,101]⟩:ByteArray),St (⟨#[119,114]⟩:ByteArray),St (⟨#[119,119]⟩:ByteArray),St (⟨#[105,100]⟩:ByteArray)]
theorem EW:JZ.length=10*1/\∀ i,i<10->(JZ.drop (i*1)).take 1=cS (vJ.getD i default):=⟨rfl,fun i h=>by
 match i,h with
 | 0,_=>rfl
 | 1,_=>rfl
 | 2,_=>rfl
 | 3,_=>rfl
 | 4,_=>rfl
 | 5,_=>rfl
 | 6,_=>rfl
 | 7,_=>rfl
 | 8,_=>rfl
 | 9,_=>rfl
 | q+10,h=>exact absurd h (Nat.not_lt.2 (Nat.le_add_left 10 q))⟩
structure KE where
 Op:Int
 Loc:Int
 Reg:Int
 Val:Int
instance:Inhabited KE:=⟨⟨default,default,default,default⟩⟩
def KE.c (x:KE):List AV:=[I x.Op,I x.Loc,I x.Reg,I x.Val]
theorem KE.len (x:KE):(KE.c x).length=4:=rfl
theorem KE.isF (x:KE):(KE.c x).all (isF 9)=true:=rfl
structure KG where
 From:LI
 Order:LL
instance:Inhabited KG:=⟨⟨default,default⟩⟩
def KG.c (x:KG):List AV:=[eL cI x.From,eL (cL cI) x.Order]
theorem KG.len (x:KG):(KG.c x).length=2:=rfl
theorem KG.isF (x:KG):(KG.c x).all (isF 9)=true:=rfl
structure KH where
 Thread:Int
 Index:Int
 Loc:Int
 Reads:Bool
 aC:Bool
instance:Inhabited KH:=⟨⟨default,default,default,default,default⟩⟩
def KH.c (x:KH):List AV:=[I x.Thread,I x.Index,I x.Loc,Bo x.Reads,Bo x.aC]
theorem KH.len (x:KH):(KH.c x).length=5:=rfl
theorem KH.isF (x:KH):(KH.c x).all (isF 9)=true:=rfl
structure aA where
 p:List (List KE)
 x:KG
 events:List KH
 values:LI
 busy:List Bool
structure XV_impl_valuer where
 p:List (List KE)
 x:KG
 events:List KH
instance:Inhabited XV_impl_valuer:=⟨⟨default,default,default⟩⟩
def XV_impl_valuer.c (x:XV_impl_valuer):List AV:=[eL (cL KE.c) x.p,eL cI x.x.From,eL (cL cI) x.x.Order,eL KH.c x.events]
theorem XV_impl_valuer.len (x:XV_impl_valuer):(XV_impl_valuer.c x).length=4:=rfl
theorem XV_impl_valuer.isF (x:XV_impl_valuer):(XV_impl_valuer.c x).all (isF 9)=true:=rfl
structure aj where
 Op:Int
 Loc:Int
 Reg:Int
 Val:Int
instance:Inhabited aj:=⟨⟨default,default,default,default⟩⟩
def aj.c (x:aj):List AV:=[I x.Op,I x.Loc,I x.Reg,I x.Val]
theorem aj.len (x:aj):(aj.c x).length=4:=rfl
theorem aj.isF (x:aj):(aj.c x).all (isF 9)=true:=rfl
structure aB where
 From:LI
 Order:LL
instance:Inhabited aB:=⟨⟨default,default⟩⟩
def aB.c (x:aB):List AV:=[eL cI x.From,eL (cL cI) x.Order]
theorem aB.len (x:aB):(aB.c x).length=2:=rfl
theorem aB.isF (x:aB):(aB.c x).all (isF 9)=true:=rfl
inductive TXlaws_RelExpr where
 | mk (Op:Int) (Name:ByteArray) (Kids:List TXlaws_RelExpr)
structure ai where
 Op:Int
 Name:ByteArray
 Kids:List TXlaws_RelExpr
instance:Inhabited TXlaws_RelExpr:=⟨.mk default default []⟩
instance:Inhabited ai:=⟨⟨default,default,[]⟩⟩
def TXlaws_RelExpr.out:TXlaws_RelExpr->ai
 | .mk a0 a1 a2=>⟨a0,a1,a2⟩
def ai.inn (x:ai):TXlaws_RelExpr := .mk x.Op x.Name x.Kids
mutual
def TXlaws_RelExpr.c:TXlaws_RelExpr->List AV
 | .mk a0 a1 a2=>[I a0,St a1,.sl a2.length (TXlaws_RelExpr.r a2)]
def TXlaws_RelExpr.r:List TXlaws_RelExpr->Nat->List AV
 | []=>fun _=>[.nil,.nil,.nil]
 | x::l=>fun i=>match i with
  | 0=>TXlaws_RelExpr.c x
  | i+1=>TXlaws_RelExpr.r l i
end
theorem TXlaws_RelExpr.len (x:TXlaws_RelExpr):(TXlaws_RelExpr.c x).length=3:=by
 cases x;simp only [TXlaws_RelExpr.c];rfl
theorem TXlaws_RelExpr.isF (x:TXlaws_RelExpr):(TXlaws_RelExpr.c x).all (isF 9)=true:=by
 cases x;simp only [TXlaws_RelExpr.c];rfl
theorem TXlaws_RelExpr.r0 (x:TXlaws_RelExpr) (l:List TXlaws_RelExpr):TXlaws_RelExpr.r (x::l) 0=TXlaws_RelExpr.c x:=by simp only [TXlaws_RelExpr.r]
theorem TXlaws_RelExpr.r1 (x:TXlaws_RelExpr) (l:List TXlaws_RelExpr) (i:Nat):TXlaws_RelExpr.r (x::l) (i+1)=TXlaws_RelExpr.r l i:=by simp only [TXlaws_RelExpr.r]
def ai.c (x:ai):List AV:=[I x.Op,St x.Name,eL TXlaws_RelExpr.c x.Kids]
theorem ai.len (x:ai):(ai.c x).length=3:=rfl
theorem ai.isF (x:ai):(ai.c x).all (isF 9)=true:=rfl
theorem TXlaws_RelExpr.out_c (x:TXlaws_RelExpr):yB (TXlaws_RelExpr.c x) (ai.c x.out):=by
 cases x;simp only [TXlaws_RelExpr.c];exact ⟨EqS.refl _,⟨EqS.refl _,⟨EqS.slr TXlaws_RelExpr.r0 TXlaws_RelExpr.r1 _,trivial⟩⟩⟩
structure au where
 Kind:Int
 Expr:ai
instance:Inhabited au:=⟨⟨default,default⟩⟩
def au.c (x:au):List AV:=[I x.Kind,I x.Expr.Op,St x.Expr.Name,eL TXlaws_RelExpr.c x.Expr.Kids]
theorem au.len (x:au):(au.c x).length=4:=rfl
theorem au.isF (x:au):(au.c x).all (isF 9)=true:=rfl
inductive TXimpl_RelExpr where
 | mk (Op:Int) (Name:ByteArray) (Kids:List TXimpl_RelExpr)
structure aa where
 Op:Int
 Name:ByteArray
 Kids:List TXimpl_RelExpr
instance:Inhabited TXimpl_RelExpr:=⟨.mk default default []⟩
instance:Inhabited aa:=⟨⟨default,default,[]⟩⟩
def TXimpl_RelExpr.out:TXimpl_RelExpr->aa
 | .mk a0 a1 a2=>⟨a0,a1,a2⟩
def aa.inn (x:aa):TXimpl_RelExpr := .mk x.Op x.Name x.Kids
mutual
def TXimpl_RelExpr.c:TXimpl_RelExpr->List AV
 | .mk a0 a1 a2=>[I a0,St a1,.sl a2.length (TXimpl_RelExpr.r a2)]
def TXimpl_RelExpr.r:List TXimpl_RelExpr->Nat->List AV
 | []=>fun _=>[.nil,.nil,.nil]
 | x::l=>fun i=>match i with
  | 0=>TXimpl_RelExpr.c x
  | i+1=>TXimpl_RelExpr.r l i
end
theorem TXimpl_RelExpr.len (x:TXimpl_RelExpr):(TXimpl_RelExpr.c x).length=3:=by
 cases x;simp only [TXimpl_RelExpr.c];rfl
theorem TXimpl_RelExpr.isF (x:TXimpl_RelExpr):(TXimpl_RelExpr.c x).all (isF 9)=true:=by
 cases x;simp only [TXimpl_RelExpr.c];rfl
theorem TXimpl_RelExpr.r0 (x:TXimpl_RelExpr) (l:List TXimpl_RelExpr):TXimpl_RelExpr.r (x::l) 0=TXimpl_RelExpr.c x:=by simp only [TXimpl_RelExpr.r]
theorem TXimpl_RelExpr.r1 (x:TXimpl_RelExpr) (l:List TXimpl_RelExpr) (i:Nat):TXimpl_RelExpr.r (x::l) (i+1)=TXimpl_RelExpr.r l i:=by simp only [TXimpl_RelExpr.r]
def aa.c (x:aa):List AV:=[I x.Op,St x.Name,eL TXimpl_RelExpr.c x.Kids]
theorem aa.len (x:aa):(aa.c x).length=3:=rfl
theorem aa.isF (x:aa):(aa.c x).all (isF 9)=true:=rfl
theorem TXimpl_RelExpr.out_c (x:TXimpl_RelExpr):yB (TXimpl_RelExpr.c x) (aa.c x.out):=by
 cases x;simp only [TXimpl_RelExpr.c];exact ⟨EqS.refl _,⟨EqS.refl _,⟨EqS.slr TXimpl_RelExpr.r0 TXimpl_RelExpr.r1 _,trivial⟩⟩⟩
theorem aa.inn_c (x:aa):yB (aa.c x) (TXimpl_RelExpr.c x.inn):=by
 cases x;simp only [aa.inn,TXimpl_RelExpr.c];exact ⟨EqS.refl _,⟨EqS.refl _,⟨EqS.slr' TXimpl_RelExpr.r0 TXimpl_RelExpr.r1 _,trivial⟩⟩⟩
structure ae where
 Kind:Int
 Expr:aa
instance:Inhabited ae:=⟨⟨default,default⟩⟩
def ae.c (x:ae):List AV:=[I x.Kind,I x.Expr.Op,St x.Expr.Name,eL TXimpl_RelExpr.c x.Expr.Kids]
theorem ae.len (x:ae):(ae.c x).length=4:=rfl
theorem ae.isF (x:ae):(ae.c x).all (isF 9)=true:=rfl
structure Z3b where
 x0:Int
 x1:Int
 x2:Int
instance:Inhabited Z3b:=⟨⟨default,default,default⟩⟩
def Z3b.c (x:Z3b):List AV:=[Y x.x0,Y x.x1,Y x.x2]
theorem Z3b.len (x:Z3b):(Z3b.c x).length=3:=rfl
theorem Z3b.isF (x:Z3b):(Z3b.c x).all (isF 9)=true:=rfl
def Z3b.get (a:Z3b) (q:Int):Int:=if q=0 then a.x0 else if q=1 then a.x1 else a.x2
def Z3b.set (a:Z3b) (q:Int) (v:Int):Z3b:=if q=0 then ⟨v,a.x1,a.x2⟩ else if q=1 then ⟨a.x0,v,a.x2⟩ else ⟨a.x0,a.x1,v⟩
structure Z33 where
 x0:Z3b
 x1:Z3b
 x2:Z3b
instance:Inhabited Z33:=⟨⟨default,default,default⟩⟩
def Z33.c (x:Z33):List AV:=[Y x.x0.x0,Y x.x0.x1,Y x.x0.x2,Y x.x1.x0,Y x.x1.x1,Y x.x1.x2,Y x.x2.x0,Y x.x2.x1,Y x.x2.x2]
theorem Z33.len (x:Z33):(Z33.c x).length=9:=rfl
theorem Z33.isF (x:Z33):(Z33.c x).all (isF 9)=true:=rfl
def Z33.get (a:Z33) (q:Int):Z3b:=if q=0 then a.x0 else if q=1 then a.x1 else a.x2
def Z33.set (a:Z33) (q:Int) (v:Z3b):Z33:=if q=0 then ⟨v,a.x1,a.x2⟩ else if q=1 then ⟨a.x0,v,a.x2⟩ else ⟨a.x0,a.x1,v⟩
structure ZVa where
 p:List (List KE)
 pc:Z3b
 reg:Z33
 mem:Z3b
instance:Inhabited ZVa:=⟨⟨default,default,default,default⟩⟩
def ZVa.c (x:ZVa):List AV:=[eL (cL KE.c) x.p,Y x.pc.x0,Y x.pc.x1,Y x.pc.x2,Y x.reg.x0.x0,Y x.reg.x0.x1,Y x.reg.x0.x2,Y x.reg.x1.x0,Y x.reg.x1.x1,Y x.reg.x1.x2,Y x.reg.x2.x0,Y x.reg.x2.x1,Y x.reg.x2.x2,Y x.mem.x0,Y x.mem.x1,Y x.mem.x2]
theorem ZVa.len (x:ZVa):(ZVa.c x).length=16:=rfl
theorem ZVa.isF (x:ZVa):(ZVa.c x).all (isF 9)=true:=rfl
def o6 (l:List ByteArray) (sep:ByteArray):ByteArray:=⟨(Lib.join (l.map (·.data.toList)) sep.data.toList).toArray⟩
def nD (l:List ByteArray) (sep:ByteArray):Option ByteArray:=
 gd (decide (l.length<=140737488355328/\(o6 l sep).size<=140737488355328))<|some (o6 l sep)
def ia (x:KE):Ins:=⟨x.Op,x.Loc,x.Reg,x.Val⟩
theorem zz {α β:Type} (e:α->β) (p:List (List α)):total (p.map fun r=>r.map e)=total p:=by
 unfold total;rw [List.map_map]
 congr 1
 exact Ny fun r _=>llm _
end
end Go.Proofs.YtpkhamajimidnaaGreatDoor
