/- Texts joined. No conditions. -/
import Derived.Lib.Bytealg
import Derived.Laws.Externs
import Derived.Lib.Join
import Derived.Below
import Derived.Laws.OwnMore
import Derived.Deep.Draws
import Derived.Laws.Rows
import Derived.Laws.MakeOwn
import Derived.Laws.Entries
import Derived.Lib.Hide
import Derived.Test.YtabfkkjdfhbngaaGreatDoorRows
import Derived.WalkKit
import Derived.ProofKit
import Derived.Deep.RegionHeld3
import Derived.Deep.DrawnRows
import Derived.Maps.AppendAt
import Derived.Deep.AppendLies
import Derived.RegionTactic
import Derived.OwnWalk
import Derived.Outline
import Derived.Deep.RegionLaw
import Derived.Test.YtabfkkjdfhbngaaGreatDoorV3
namespace Go.Proofs.YtabfkkjdfhbngaaGreatDoor
noncomputable section
open _root_.Inhabited renaming default -> QW
open _root_.Bool renaming true -> QX
open _root_.Bool renaming false -> QY
open _root_.Option renaming some -> QZ
open _root_.Option renaming none -> Q0
open _root_.Decidable renaming decide -> Q3
open _root_.Go.Proofs.Tryz
open _root_.Go.Proofs.Tryz renaming prog -> Q4
open _root_.Nat renaming ble -> SK, lt_or_ge -> SR, add_mul -> SU, min_eq_left -> Tg, zero_add -> Ti, mul_le_mul_right -> Tt
open _root_.List renaming all_eq_true -> SL, getElem?_cons_zero -> SN, getElem?_set_ne -> SS, ext_getElem? -> SV, range -> SW, length_take -> SY, getElem?_take -> SZ, mem_map -> S0, contains_eq_mem -> Tc, getElem?_cons_succ -> Te, getElem?_set_self -> Tj, map_congr_left -> Tq
open _root_.Array renaming getElem?_eq_some_iff -> SX, getElem?_eq_none -> S5, any_eq_true' -> S9, replicate -> Td, getElem?_toList -> Tf, setIfInBounds_comm -> Tm, getElem?_append_left -> Tn, mem_of_getElem? -> Tp
open _root_.Bool renaming or_eq_true -> Ta
open _root_.Option renaming bind_eq_some_iff -> Tu
open Go.RowKit
set_option maxRecDepth 100000
set_option maxRecDepth 100000
section
variable {P:Program}
def OSQ (bs:List Nat) (K:AH) (r:AV):AV->AH->Prop:=λr0 G=>
 bs.Nodup/\bs.length=K.length/\(∀ (j b:Nat),bs[j]? = QZ b->∃ k,wB k/\G[b]? = QZ (QZ k)/\K[j]? = QZ (QZ k))/\Ren (λi j=>bs[j]? = QZ i) r0 r
inductive Lies (G:AH):List Nat->AH->Prop
 | nil:Lies G [] []
 | cons {b:Nat} {k:ABlk} {bs:List Nat} {K:AH} (h:G[b]? = QZ (QZ k)) (hk:wB k) (t:Lies G bs K):Lies G (b::bs) (QZ k::K)
theorem Lies.spec {G:AH} {bs:List Nat} {K:AH} (h:Lies G bs K):bs.length=K.length/\∀ (j b:Nat),bs[j]? = QZ b->∃ k,wB k/\G[b]? = QZ (QZ k)/\K[j]? = QZ (QZ k):=by
 induction h with
 | nil=>simp_all
 | @cons b k bs K h hk t ih=>
  grind
theorem OSQ.mk {bs:List Nat} {K G:AH} {r r0:AV} (hnd:bs.Nodup) (hl:Lies G bs K) (hr:Ren (λi j=>bs[j]? = QZ i) r0 r):OSQ bs K r r0 G:=⟨hnd,hl.spec.1,hl.spec.2,hr⟩
inductive RowsF:AH->Prop
 | nil:RowsF []
 | cons {k:ABlk} {K:AH} (hk:wB k) (t:RowsF K):RowsF (QZ k::K)
theorem RowsF.spec {K:AH} (h:RowsF K):∀ (j:Nat) (k:ABlk),K[j]? = QZ (QZ k)->wB k:=by
 induction h with
 | nil=>simp_all
 | cons hk t ih=>
  grind
end
def LK (ops:Array Oper):Nat->Nat->Nat->Bool
 | 0,_,_=>QY
 | n+1,j,i=>match ops[j]? with
  | some oj=>oj.after.any λed=>Region.binds .any ed&&(ed.on==i||LK ops n ed.on i)
  | none=>QY
def ClL (ops:Array Oper) (listed:Array Bool):Prop:=∀ (j:Nat) (oj:Oper),ops[j]? = QZ oj->listed.getD j QY=QX->∀ ed∈oj.after,Region.binds .any ed=QX->listed.getD ed.on QY=QX
theorem Ja {listed:Array Bool} {i j:Nat} (h:listed.getD i QY=QX):(listed.setIfInBounds j QX).getD i QY=QX:=by
 by_cases e:j=i
 ·subst e;rcases SR j listed.size with h' | h'
  ·simp [h']
  simp [S5 h'] at h
 simp_all
theorem ClL.up {ops:Array Oper} {listed:Array Bool} {j:Nat} (h:ClL ops listed) (hj:j∈Region.ready .any ops listed):ClL ops (listed.setIfInBounds j QX):=by
 intro i oi hoi hl ed he hb
 by_cases e:j=i
 ·subst e;obtain ⟨_,oj,hoj,hall⟩:=mem_ready.1 hj;rw [hoi] at hoj;injection hoj with hoj;subst hoj;exact Ja<|hall ed he hb
 refine Ja<|h i oi hoi ?_ ed he hb
 simp_all
theorem Dg {ops:Array Oper} {listed:Array Bool} {i:Nat} (h:ClL ops listed) (hi:listed.getD i QX=QY):∀ (n j:Nat),(∀ oj,ops[j]? = QZ oj->∀ ed∈oj.after,Region.binds .any ed=QX->listed.getD ed.on QY=QX)->LK ops n j i=QY
 | 0,_,_=>rfl
 | n+1,j,hj=>by
  unfold LK
  split
  ·rename_i oj hoj;rw [Bool.eq_false_iff];intro hany;rw [S9] at hany;obtain ⟨ed,h1,h2⟩:=hany;simp only [bae,Ta,beq_iff_eq] at h2;have hl:=hj oj hoj ed h1 h2.1;rcases h2.2 with h3 | h3
   ·grind
   rw [Dg h hi n ed.on λoj' Ac=>h ed.on oj' Ac hl] at h3
   cases h3
  rfl
section
variable {P:Program}
theorem FQ {ops:Array Oper} {fp:Nat->Fp} {Q:Env->AH->Prop} {i n:Nat} {oi:Oper} {r:AV} (hi:ops[i]? = QZ oi) :
  ∀ (fuel:Nat) (listed:Array Bool) (e:Env) (H Hi:AH),ClL ops listed ->
   (∀ (j:Nat) (oj:Oper),ops[j]? = QZ oj->j≠i->listed.getD j QX=QY->LK ops (n+1) j i=QY->oi.apart ops oj=QX/\og (fp i) (fp j)=QX) ->
   i∈Region.ready .any ops listed->qU P oi (rho e) H r Hi (fp i).1->((fp i).2=QY->Hi=H)->KA P ops fp Q fuel (listed.setIfInBounds i QX) (sI e oi.dst r) Hi->KA P ops fp Q (fuel+1) listed e H:=by
 intro fuel
 induction fuel with
 | zero=>
  intro listed e H Hi _ _ hr hy hro hA;refine ⟨λh=>(by simp_all),λj hj=>?_⟩
  by_cases hji:j=i
  ·grind
  have := ready_mono hj hji;rw [hA.1] at this
  grind
 | succ fuel ih=>
  intro listed e H Hi hcl hfree hr hy hro hA;refine ⟨λh=>(by simp_all),λj hj=>?_⟩
  by_cases hji:j=i
  ·grind
  obtain ⟨oj,q,Hj,hoj,hsj,hroj,hAj⟩:=hA.2 j<|ready_mono hj hji;obtain ⟨hjun,oj',Ac,hall⟩:=mem_ready.1 hj;rw [hoj] at Ac;injection Ac with Ac;subst Ac;have hnot:LK ops (n+1) j i=QY:=Dg hcl (mem_ready.1 hr).1 (n+1) j λoj' Ac=>by
   rw [hoj] at Ac;injection Ac with Ac;subst Ac;exact hall
  obtain ⟨hap,hcm⟩:=hfree j oj hoj hji hjun hnot;obtain ⟨h1,h2,h3⟩:=Oper.apart_spec hap;have ej:=sM (e:=e) (r:=r) h1;have ei:=sM (e:=e) (oi:=oj) (r:=q) h3;have hsj':=hsj.congr ej;have hfree':∀ (k:Nat) (ok:Oper),ops[k]? = QZ ok->k≠i->(listed.setIfInBounds j QX).getD k QX=QY->LK ops (n+1) k i=QY->oi.apart ops ok=QX/\og (fp i) (fp k)=QX:=λk ok hk hki hun hno=>by
   refine hfree k ok hk hki ?_ hno
   by_cases hjk:j=k
   ·subst hjk;exact hjun
   rw [getD_set_ne QX hjk] at hun;exact hun
  have fin:∀ Hj',qU P oj (rho e) H q Hj' (fp j).1->((fp j).2=QY->Hj'=H)->qU P oi (rho e) Hj' r Hj (fp i).1->((fp i).2=QY->Hj=Hj')->∃ o r' H',ops[j]? = QZ o/\qU P o (rho e) H r' H' (fp j).1/\((fp j).2=QY->H'=H)/\KA P ops fp Q (fuel+1) (listed.setIfInBounds j QX) (sI e o.dst r') H':=λHj' s1 s1' s2 s2'=>by
   refine ⟨oj,q,Hj',hoj,s1,s1',ih (listed.setIfInBounds j QX) (sI e oj.dst q) Hj' Hj (hcl.up hj) hfree' (ready_mono hr<|Ne.symm hji) (s2.congr λx hx=>(ei x hx).symm) s2' ?_⟩;rw [Tm _ _ hji,yc (λd hd=>λhd'=>h2 d (by simpa using hd')<|by simpa using hd)];exact hAj
  simp only [og,Ta,bae,Bool.not_eq_true',SL,Tc,decide_eq_false_iff_not] at hcm;rcases hcm with hdis | ⟨w1,w2⟩
  ·have hag:agree (fp j).1 H Hi:=⟨hy.1.symm,λb hb=>(hy.2.1 b λhbi=>hdis b hbi hb).symm⟩;obtain ⟨Hj',a1,a2,a3,a4⟩:=hsj'.at_ hag;have hag2:agree (fp i).1 Hj' H:=⟨a1,λb hb=>a3 b<|hdis b hb⟩;obtain ⟨K,b1,b2,b3,b4⟩:=hy.at_ hag2;have hKH:K=Hj:=by
    apply SV;intro b
    by_cases hbi:b∈(fp i).1
    ·rw [b2 b hbi,hsj'.2.1 b (hdis b hbi)]
    rw [b3 b hbi]
    by_cases hbj:b∈(fp j).1
    ·exact a2 b hbj
    rw [a3 b hbj,hsj'.2.1 b hbj,hy.2.1 b hbi]
   subst hKH;refine fin Hj' a4 (λhw=>?_) b4 λhw=>?_
   ·apply SV;intro b
    by_cases hbj:b∈(fp j).1
    ·rw [a2 b hbj,hroj hw,hy.2.1 b (λhbi=>hdis b hbi hbj)]
    exact a3 b hbj
   apply SV;intro b
   by_cases hbi:b∈(fp i).1
   ·rw [b2 b hbi,hro hw,a3 b (hdis b hbi)]
   exact b3 b hbi
  grind
def Pn (ops:Array Oper) (fp:Nat->Fp):Bool:=
 Region.lexB .any ops&&ops.all (λo=>o.guard.isNone) &&
 (SW ops.size).all λi=>(SW ops.size).all λj=>Q3 (j<=i)||og (fp i) (fp j)||LK ops 6 j i
theorem GQ {ops:Array Oper} {fp:Nat->Fp} {Q:Env->AH->Prop} (hc:Pn ops fp=QX):∀ (l:List Oper) (k:Nat) (listed:Array Bool) (e:Env) (H:AH),ClL ops listed->(∀ j,l[j]? = ops[k+j]?)->listed.size=ops.size->(∀ j,j<k->listed.getD j QX=QX) ->
  Region.lexFrom .any ops l.length k listed=QX->TF P fp k l Q e H->KA P ops fp Q l.length listed e H
 | [],k,listed,e,H,_,_,_,_,hB,h=>⟨by simpa [Region.lexFrom] using hB,h⟩
 | o::l,k,listed,e,H,hcl,hl,hsz,hbef,hB,h=>by
  have h0:ops[k]? = QZ o:=by simpa using (hl 0).symm
  have hk:k<ops.size:=(SX.1 h0).1;simp only [llc,Region.lexFrom,bae] at hB;obtain ⟨⟨hr,hf⟩,hB'⟩:=hB;obtain ⟨r,H',hs,hro,hK⟩:=h;have hrk:k∈Region.ready .any ops listed:=by simpa using hr
  refine FQ (n:=5) h0 l.length listed e H H' hcl (λj oj hj hne hun hno=>?_) hrk hs hro
   (GQ hc l (k+1) _ _ _ (hcl.up hrk) (λj=>by have := hl<|j+1;grind) (by simp_all) (λj hj=>?_) hB' hK)
  ·have hno1:∀ ed∈oj.after,Region.binds .any ed=QX->ed.on≠k:=λed he hb heq=>by
    unfold LK at hno;simp only [hj] at hno;rw [Bool.eq_false_iff] at hno;refine hno ?_;rw [S9];exact ⟨ed,he,by simp [hb,heq]⟩
   refine ⟨Region.free_spec h0 hf j oj hj hne hun hno1,?_⟩;have hjs:j<ops.size:=(SX.1 hj).1;have hkj : ¬ j<=k:=λhle=>by
    have := hbef j (by omega);rw [this] at hun
    cases hun
   simp only [Pn,bae,SL,List.mem_range] at hc
   grind
  by_cases e:j=k
  ·simp_all
  rw [getD_set_ne QX (Ne.symm e)]
  grind
variable {nt b0:Nat} {Q:Exit->Env->AH->Prop} {e:Env} {H:AH}
theorem T.drawH {i:Nat} {ops:Array Oper} (fp:Nat->Fp) (hm:P.follows .mixedOrders=QX) (hc:Pn ops fp=QX) (h:TF P fp 0 ops.toList (Q .normal) e H):T P nt b0 (.region i ops QX) Q e H:=by
 intro hok c c0 a hH hb hx hs;simp only [codeOk] at hok;have hc':=hc;simp only [Pn,bae,Region.lexB] at hc';refine wp_region_any hm ?_;have hlex:=GQ hc ops.toList 0 (Td ops.size QY) e H (λj oj hj hl=>by
  rcases SR j ops.size with h' | h'
  ·simp [h'] at hl
  simp_all) (λj=>by simp) (by simp) (λj hj=>absurd hj (by omega)) (by simp_all) h
 have := yV hok hc'.1.2 ops.toList.length _ e H hlex c.drew c0 a hH (hx.trans c.drew_ext) ⟨hs.size,hs.defers,λt=>(hs.rel t).ext hs.heap c.drew_ext,Cx.drew_rel hs.heap⟩;rw [Array.length_toList] at this;exact this
end
section
variable {P:Program} {ρ:Operand->AV} {H H':AH}
structure MethT (P:Program) (t:TypeId) (name:String) (g:FuncId) (off:Nat):Prop where
 ex:∃ i m e,P.info? t=QZ i/\i.methods.find? (·.name==name)=QZ m/\m.func=QZ (g,QX)/\P.underlying t=QZ (.pointer e) /\
  ((m.path.toList=[]/\off=0)\/∃ s k fs fl u,m.path.toList=[⟨s,k,QX⟩]/\P.underlying s=QZ (.struct fs)/\fs[k]? = QZ fl/\P.cellsOf fl.type≠0/\(P.info? fl.type).isSome=QX/\fl.offset=off/\P.underlying fl.type=QZ u/\(∀ e,u ≠ .pointer e))
def Oe (P:Program) (t:TypeId) (name:String) (g:FuncId) (off:Nat):Bool:=
 match P.info? t,P.underlying t with
 | some i,QZ (.pointer _)=>(match i.methods.find? (·.name==name) with
  | some m=>m.func==QZ (g,QX)&&(match m.path.toList with
   | []=>off==0
   | [⟨s,k,QX⟩]=>(match P.underlying s with
    | some (.struct fs)=>(match fs[k]? with
     | some fl=>P.cellsOf fl.type != 0&&(P.info? fl.type).isSome&&fl.offset==off&&(match P.underlying fl.type with
      | some (.pointer _) | none=>QY
      | some _=>QX)
     | none=>QY)
    | _=>QY)
   | _=>QY)
  | none=>QY)
 | _,_=>QY
theorem MethT.of {t:TypeId} {name:String} {g off:Nat} (h:Oe P t name g off=QX):MethT P t name g off:=by
 unfold Oe at h
 split at h
 ·rename_i i e hi hu
  split at h
  ·rename_i m hm;simp only [bae,beq_iff_eq] at h;obtain ⟨hf,h⟩:=h;refine ⟨i,m,e,hi,hm,hf,hu,?_⟩
   split at h
   ·rename_i hp;exact .inl ⟨hp,by simpa using h⟩
   ·rename_i s k hp
    split at h
    ·rename_i fs hs
     split at h
     ·rename_i fl hfl;simp only [bae,beq_iff_eq,bne_iff_ne,ne_eq] at h;obtain ⟨⟨⟨h1,h2⟩,h3⟩,h4⟩:=h
      cases hfu:P.underlying fl.type with
      | none=>rw [hfu] at h4;cases h4
      | some u=>exact .inr ⟨s,k,fs,fl,u,hp,hs,hfl,h1,h2,h3,hfu,λe' he=>by subst he;rw [hfu] at h4;cases h4⟩
     cases h
    cases h
   cases h
  cases h
 grind
def QB (off:Nat):AV->AV
 | .fp row j => .fp row (j+off)
 | .hp b v s i j => .hp b v s i (j+off)
 | a=>a
theorem HZ {t:TypeId} {name:String} {g off:Nat} (hm:MethT P t name g off) (w:World) (n:Nat) {g0:Nat} {o0:Nat} (v:Value) (hv:v = .pointer (QZ ⟨g0,o0,Q0⟩)):(method (n+1) t v name).run P w = .ok (g,.pointer<|QZ ⟨g0,o0+off,Q0⟩) w:=by
 obtain ⟨i,m,e,hi,hf,hg,hu,hp⟩:=hm.ex;have e1:(typeInfo t).run P w = .ok i w:=run_typeInfo w hi;rcases hp with ⟨hp,rfl⟩ | ⟨s,k,fs,fl,u,hp,hs,hk,hc,_,rfl,hfu,hne⟩
 ·simp only [method,Sem.run_bind,e1,Result.andThen_ok,hf,hp,follow,Sem.run_pure,hg,receiverAt,ay hu,Place.get,hv,Nat.add_zero]
 obtain ⟨i2,hi2⟩:=xU hc
 have e2 : (receiverAt fl.type (.var ⟨g0,o0 + fl.offset,none⟩) true (if m.path.isEmpty then some ((name.splitOn ".").getLastD name) else none)).run P w = .ok (.pointer (some ⟨g0,o0 + fl.offset,none⟩)) w := by
  unfold receiverAt;simp only [Sem.run_bind,ay hfu,Result.andThen_ok]
  cases u <;> simp_all
 simp only [method,Sem.run_bind,e1,Result.andThen_ok,hf,hp,follow,Sem.run_pure,hg,ay hs,hk,Place.get,hv,asAddr,fieldPlace,run_sizeOf w hi2,hc,if_false,if_true,add0,e2]
theorem CK {t:TypeId} {name:String} {g off:Nat} (hm:MethT P t name g off) (hcl:iH P g=QX) (w:World) {g0 o0:Nat} (args:Array Value) :
  (callMethod (.iface t<|.pointer<|QZ ⟨g0,o0,Q0⟩) name args).run P w = .ok (.enter g<|#[.pointer (QZ ⟨g0,o0+off,Q0⟩)]++args) w:=by
 have h0:0<Made.depth:=by decide
 obtain ⟨n,hn⟩:∃ n,P.types.size+Made.depth=n+1:=⟨P.types.size+Made.depth-1,by omega⟩;have h1:=HZ hm w n (g0:=g0) (o0:=o0) _ rfl;have h2:=vk hcl (#[.pointer (QZ ⟨g0,o0+off,Q0⟩)]++args) w;have hp:(program:Sem Program).run P w = .ok P w:=rfl;simp only [callMethod,Sem.run_bind,hp,Result.andThen_ok,hn,h1];exact h2
theorem H3 {o:Oper} {cl:Call} {x:Operand} {name:String} {t:TypeId} {row:List AV} {j:Nat} {g:FuncId} {off:Nat} {r:AV} (ho:o.op = .call cl) (hc:cl.callee = .invoke x name) (hx:ρ x = .ifc t (.fp row j)) (hm:MethT P t name g off)
  (h:dX P g (.fp row (j+off)::cl.args.toList.map ρ) H r H'):QC P o ρ H r H':=by
 intro c a K Q hH hr hxs hK;have hf1:=hx ▸ hxs x (by rw [ho];simp [Op.operands,Call.operands,hc]);obtain ⟨y,he,hrel⟩:=yP hf1;have hfp:=uC hrel;have key:∃ g0 o0,y = .pointer (QZ ⟨g0,o0,Q0⟩)/\c.rel (.fp row<|j+off) (.pointer<|QZ ⟨g0,o0+off,Q0⟩):=by
  cases hfp with
  | fp us hg hlt hu h1 h=>
   refine ⟨_,_,rfl,?_⟩;rw [Nat.add_assoc];exact .fr<|.fp us hg hlt hu h1 h
 obtain ⟨g0,o0,hy,hrec⟩:=key;have hargs:EF c (.fp row (j+off)::cl.args.toList.map ρ) (#[.pointer (QZ ⟨g0,o0+off,Q0⟩)]++cl.args.map a.eval):=by
  refine ⟨by simp;omega,λi q v hq hv=>?_⟩
  match i with
  | 0=>
   simp only [SN,sie] at hq;have : (#[Value.pointer (QZ ⟨g0,o0+off,Q0⟩)]++cl.args.map a.eval)[0]? = QZ (Value.pointer<|QZ ⟨g0,o0+off,Q0⟩):=by
    rw [Tn (show 0<1 by decide)]
    rfl
   rw [this] at hv;injection hv with hv;subst hq hv;exact hrec
  | i+1=>
   simp only [Te,List.getElem?_map,Tf] at hq;have e:(#[Value.pointer (QZ ⟨g0,o0+off,Q0⟩)]++cl.args.map a.eval)[i+1]? = (cl.args.map a.eval)[i]? := by
    rw [Array.getElem?_append_right (by simp)];simp
   rw [e,Array.getElem?_map] at hv
   cases ha:cl.args[i]? with
   | none=>rw [ha] at hq;cases hq
   | some z=>
    rw [ha] at hq hv;injection hq with hq;injection hv with hv;subst hq hv;refine hxs z ?_;rw [ho];have hz:=Tp ha;simp [Op.operands,Call.operands,hz]
 have hrun:(execOp a.eval o).run P c.w = .ok (.enter g<|#[.pointer (QZ ⟨g0,o0+off,Q0⟩)]++cl.args.map a.eval) c.w:=by
  have h3:=CK hm h.1 c.w (g0:=g0) (o0:=o0)<|cl.args.map a.eval;rw [execOp,ho];simp only [resolve,hc,he,hy,Sem.run_bind,Sem.run_pure,Result.andThen_ok,invoke];have e1:((#[Value.iface t (.pointer<|QZ ⟨g0,o0,Q0⟩)]++cl.args.map a.eval)[0]? : Option Value)=QZ (Value.iface t<|.pointer<|QZ ⟨g0,o0,Q0⟩):=by
   rw [Tn (show 0<1 by decide)]
   rfl
  have e2:(#[Value.iface t (.pointer<|QZ ⟨g0,o0,Q0⟩)]++cl.args.map a.eval).extract 1 (#[Value.iface t (.pointer<|QZ ⟨g0,o0,Q0⟩)]++cl.args.map a.eval).size=cl.args.map a.eval:=by
   apply Array.ext';simp;exact List.take_of_length_le (by simp)
  rw [e1,e2];exact h3
 unfold Oper.wp;rw [hrun,Oper.upon_enter];refine (h.2 c _ hH hr hargs).mono λe w' ⟨v,c',he,hw,hH',hr',hx,hv⟩ => ?_
 grind
theorem QE.inv {cl:Call} {x:Operand} {name:String} {t:TypeId} {row:List AV} {j:Nat} {g:FuncId} {off:Nat} {ars:List AV} {r:AV} (hc:cl.callee = .invoke x name) (hx:ρ x = .ifc t (.fp row j)) (hm:MethT P t name g off) (ha:cl.args.toList.map ρ=ars)
  (h:ax P g (.fp row (j+off)::ars) r) (hF:ars.all (isF 9)=QX):QE P ρ (.call cl) r:=λo ho G=>by
 subst ha;refine H3 ho hc hx hm<|h.acall ?_ G;simp only [List.all_cons,hF,Bool.and_true]
 rfl
end
structure A3 (α:Type) where
 x0:α
 x1:α
 x2:α
section
variable {α:Type}
instance [Inhabited α]:Inhabited (A3 α):=⟨⟨QW,QW,QW⟩⟩
def A3.get (a:A3 α) (q:Int):α:=if q=0 then a.x0 else if q=1 then a.x1 else a.x2
def A3.set (a:A3 α) (q:Int) (v:α):A3 α:=if q=0 then ⟨v,a.x1,a.x2⟩ else if q=1 then ⟨a.x0,v,a.x2⟩ else ⟨a.x0,a.x1,v⟩
end
section
variable {P:Program} {ρ:Operand->AV} {H H':AH} {x y:Operand} {t e:TypeId}
theorem QE.ixafp {ag:Bool} {n w:Nat} {row:List AV} {j:Nat} {k:IntKind} {q:Int} (hu:P.underlying t=QZ (.array n e)) (ty:TyF P e ag w) (hx:ρ x = .fp row j) (hy:ρ y = .v (.int k q)) (hq:0<=q/\q<n):QE P ρ (.indexAddr t x y) (.fp row<|j+q.toNat*w) := .mk λK hK=>by
 show fO P t (ρ x) (ρ y) K;simp only [fO,hu,hx,hy,ty.cells];exact ⟨hq,Ck.intro ty.info hK⟩
theorem QE.ixahp {ag:Bool} {n w:Nat} {b ver s i j:Nat} {k:IntKind} {q:Int} (hu:P.underlying t=QZ (.array n e)) (ty:TyF P e ag w) (hx:ρ x = .hp b ver s i j) (hy:ρ y = .v (.int k q)) (hq:0<=q/\q<n):QE P ρ (.indexAddr t x y) (.hp b ver s i<|j+q.toNat*w) := .mk λK hK=>by
 show fO P t (ρ x) (ρ y) K;simp only [fO,hu,hx,hy,ty.cells];exact ⟨hq,Ck.intro ty.info hK⟩
theorem QE.mkifc {u:TypeDesc} (a:AV) (hu:P.underlying t=QZ u) (hn:∀ m,u ≠ .interface m) (hx:ρ x=a):QE P ρ (.makeInterface t x) (.ifc t a) := .mk λK hK=>by
 show xI P ρ (.makeInterface t x) K;simp only [xI,hu,hx]
 cases u <;> first | exact absurd rfl (hn _) | (rw [AV.force_iff];exact hK)
end
def up (m:Nat) (gh:NG):NG:=λi=>((gh i).1,(gh i).2.1+m,(gh i).2.2)
section
variable {α:Type}
def nrs (m:Nat) (gh:NG) (w:Nat) (l:List<|List α):List (List AV):=Af (up m gh) w l
structure NN (K:AH) (gh:NG) (w:Nat) (ty:TypeId) (f:α->List AV) (l:List (List α)):Prop where
 nk:NK 0 K gh w ty f l
 kf:KF K
variable {K:AH} {gh:NG} {w:Nat} {ty:TypeId} {f:α->List AV} {l:List (List α)}
theorem NN.at_ (h:NN K gh w ty f l) {i:Nat} (hi:i<l.length):K[(gh i).2.1]? = QZ (bE (gh i).1 (gh i).2.2 w ty<|(l.getD i []).map f):=(h.nk.at_ i hi).2
theorem NN.lt (h:NN K gh w ty f l) {i:Nat} (hi:i<l.length):(gh i).2.1<K.length:=(ges<|h.at_ hi).1
theorem NN.nil_ (h:NN K gh w ty f l) {i:Nat} (hi:i<l.length):(gh i).1=QX->l.getD i []=[]:=h.nk.nil_ i hi
theorem KF.set {k:Nat} {x:Option ABlk} (h:KF K) (hx:∀ b,x=QZ b->wB b):KF (K.set k x):=λi b hb=>by
 by_cases e:k=i
 ·grind
 rw [SS e] at hb;exact h i b hb
theorem KF.cons {x:Option ABlk} (h:KF K) (hx:∀ b,x=QZ b->wB b):KF (x::K):=λi b hb=>by
 match i,hb with
 | 0,hb=>exact hx b (osl hb)
 | i+1,hb=>exact h i b hb
theorem KQ {g:Bool} {v:Nat} {l:List α} (hf:∀ x,(f x).all (isF 9)=QX):∀ b,bE g v w ty (l.map f)=QZ b->wB b:=λb hb=>by
 cases g with
 | true=>cases hb
 | false=>
  obtain rfl:=osl hb;exact λr hr a ha=>CJ hf r hr a ha
theorem NN.set (h:NN K gh w ty f l) {i:Nat} (hi:i<l.length) {g:Bool} {ver:Nat} {r:List α} (hg:g=QX->r=[]) (hf:∀ x,(f x).all (isF 9)=QX):NN (K.set (gh i).2.1<|bE g ver w ty<|r.map f) (gh.put i (g,(gh i).2.1,ver)) w ty f (l.set i r):=
 ⟨h.nk.set hi hg,h.kf.set<|KQ hf⟩
theorem NN.nil:NN ([]:AH) gh w ty f []:=⟨⟨λi hi=>by grind,λi hi=>by grind,λi j hi=>by grind⟩,λi k hk=>by grind⟩
theorem NN.fz [Inhabited α] (h:NN K gh w ty f l) (S:AH) {b ver n:Nat} {to:TypeId} (hb:(S++K)[b]? = QZ (bE QY ver 1 to<|nrs S.length gh w l)) (hn:n=l.length) (hf:∀ x,(f x).all (isF 9)=QX):Fz 0 (S++K) (hS QY b ver 1 n) (eL (cL f) l):=by
 have hk:NK 0 (S++K) (up S.length gh) w ty f l:=⟨λi hi=>⟨Nat.zero_le _,by
  show (S++K)[(gh i).2.1+S.length]? = _;rw [gar (by omega),Nat.add_sub_cancel];exact h.at_ hi⟩,λi hi=>h.nil_ hi,λi j hi hj hne he=>h.nk.sep i j hi hj hne (by simpa [up] using he)⟩
 exact hk.fz hb hn hf
end
def Rot (m N:Nat) (i j:Nat):Prop:=(i<m/\j=i)\/(m<=i/\i<N+m/\j=i+1)\/(i=N+m/\j=m)
theorem Rot.low {m N i:Nat} (h:Nat.blt i m=QX):Rot m N i i := .inl ⟨nlb h,rfl⟩
theorem Rot.up {m N k:Nat} (h:k<N):Rot m N (k+m) (k+(m+1)) := .inr<|.inl ⟨by omega,by omega,rfl⟩
theorem Rot.new {m N:Nat}:Rot m N (N+m) m := .inr<|.inr ⟨rfl,rfl⟩
inductive RenHL (S:Nat->Nat->Prop):AH->AH->Prop
 | nil:RenHL S [] []
 | none {l l':AH} (t:RenHL S l l'):RenHL S (Q0::l) (Q0::l')
 | some {k k':ABlk} {l l':AH} (h:RenK S k k') (t:RenHL S l l'):RenHL S (QZ k::l) (QZ k'::l')
theorem RenHL.bE {S:Nat->Nat->Prop} {α:Type} {g:Bool} {v w:Nat} {ty:TypeId} {f:α->List AV} {x:List α} {l l':AH} (hf:∀ x,(f x).all (isF 9)=QX) (t:RenHL S l l'):RenHL S (bE g v w ty (x.map f)::l) (Go.Proofs.YtabfkkjdfhbngaaGreatDoor.bE g v w ty (x.map f)::l'):=by
 cases g with
 | true=>exact .none t
 | false=>exact .some (.ofF λr hr a ha=>CJ hf r hr a ha) t
theorem RenHL.spec {S:Nat->Nat->Prop} {l l':AH} (h:RenHL S l l'):l.length=l'.length/\(∀ (i:Nat) (k:ABlk),l[i]? = Option.some (Option.some k)->∃ k',l'[i]? = Option.some (Option.some k')/\RenK S k k')/\∀ (i:Nat) (k':ABlk),l'[i]? = Option.some (Option.some k')->∃ k,l[i]? = Option.some (Option.some k)/\RenK S k k':=by
 induction h with
 | nil=>simp_all
 | none t ih=>
  grind
 | some h t ih=>
  grind
theorem mQ {S:Nat->Nat->Prop} {g:Bool} {i j v w n:Nat} (h:S i j):Ren S (hS g i v w n) (hS g j v w n):=by
 cases g with
 | true=>exact .nil
 | false=>exact .hs h
theorem H4 {c:Cx} {row row2:List AV} {j n:Nat} {v:Value} (hs:(row.drop j).take n=row2) (h:c.rel (.fp row j) v):c.rel (.fp row2 0) v:=by
 have h:=uC h
 cases h with
 | @fp _ _ g o us hg hlt hu h1 hr=>
  subst hs;have key:∀ (q:Nat) (a:AV),((row.drop j).take n)[q]? = QZ a->row[j+q]? = QZ a:=λq a hq=>by
   grind
  exact .fr<|.fp (g:=g) (o:=o+j) (j:=0) (λq=>us<|j+q) hg hlt (λq a hq=>by grind) (λq a hq=>h1 _ _<|key q a hq) λq a hq=>hr _ _<|key q a hq
section
variable {P:Program} {ρ:Operand->AV} {H H':AH} {x y:Operand} {t e:TypeId}
theorem QE.fafpS (n:Nat) {fs:Array Field} {f:Nat} {fl:Field} {row row2:List AV} {j:Nat} (hu:P.underlying t=QZ (.struct fs)) (hf:fs[f]? = QZ fl) (hc:(P.cellsOf fl.type != 0)=QX) (hx:ρ x = .fp row j) (hs:(row.drop<|j+fl.offset).take n=row2):QE P ρ (.fieldAddr t x f) (.fp row2 0):=
 (QE.fafp hu hf hc hx).res λ_ _ h=>H4 hs h
variable {nt b0:Nat} {Q:Exit->Env->AH->Prop} {en:Env} {ops:Array Oper}
end
inductive RenRows (S:Nat->Nat->Prop):List (List AV)->List (List AV)->Prop
 | nil:RenRows S [] []
 | cons {a b:List AV} {l k:List (List AV)} (h:RenL S a b) (t:RenRows S l k):RenRows S (a::l) (b::k)
theorem RenRows.spec {S:Nat->Nat->Prop} {l k:List (List AV)} (h:RenRows S l k):l.length=k.length/\∀ (i:Nat) (c d:List AV),l[i]? = QZ c->k[i]? = QZ d->RenL S c d:=by
 induction h with
 | nil=>simp_all
 | cons h t ih=>
  grind
theorem RenK.rowsL {S:Nat->Nat->Prop} {v s:Nat} {ty:TypeId} {r r':List (List AV)} (h:RenRows S r r'):RenK S ⟨v,s,ty,r⟩ ⟨v,s,ty,r'⟩:=
 ⟨rfl,rfl,rfl,h.spec.1,λi a b ha hb=>(h.spec.2 i a b ha hb).spec⟩
theorem RenK.rowL {S:Nat->Nat->Prop} {v s:Nat} {ty:TypeId} {r r':List AV} (h:RenL S r r'):RenK S ⟨v,s,ty,[r]⟩ ⟨v,s,ty,[r']⟩ := .rowsL<|.cons h .nil
section
variable {α:Type} {K:AH} {gh:NG} {w:Nat} {ty:TypeId} {f:α->List AV} {l:List (List α)}
def Tk (a:Nat) (i j:Nat):Prop:=(i<=a/\j=i)\/(a+2<=i/\j+1=i)
theorem Tk.low {a i:Nat} (h:SK i a=QX):Tk a i i := .inl ⟨nlb h,rfl⟩
theorem Tk.up {a k:Nat}:Tk a (k+(a+2)) (k+1+a) := .inr ⟨by omega,by omega⟩
theorem Reid.take {b0 a:Nat} {S S' K:AH} {x2 x2' x3:Option ABlk} (hm:S.length=a) (hb:SK b0 a=QX) (hS:RenHL (Tk a) S S') (hK:KF K) (hx:RenHL (Tk a) [x2] [x2']):Reid b0 (Tk a) (S++x2::x3::K) (S'++x2'::K):=by
 have hb:=nlb hb;obtain ⟨h1,h2,h3⟩:=hS.spec;obtain ⟨_,h5,h6⟩:=hx.spec;have hm':S'.length=a:=h1.symm.trans hm;have a1:∀ i,i<a->(S++x2::x3::K)[i]? = S[i]? := λi hi=>gal (by omega);have a2:(S++x2::x3::K)[a]? = QZ x2:=by
  rw [gar (by omega)];have : a-S.length=0:=by omega
  rw [this]
  rfl
 have a3:∀ k,(S++x2::x3::K)[k+a+2]? = K[k]? := λk=>by
  grind
 have c1:∀ i,i<a->(S'++x2'::K)[i]? = S'[i]? := λi hi=>gal (by omega);have c2:(S'++x2'::K)[a]? = QZ x2':=by
  rw [gar (by omega)];have : a-S'.length=0:=by omega
  rw [this]
  rfl
 have c3:∀ k,(S'++x2'::K)[k+a+1]? = K[k]? := λk=>by
  grind
 refine ⟨λi j j' e1 e2=>?_,λi i' j e1 e2=>?_,λi hi => .inl ⟨by omega,rfl⟩,by grind,λj k0 hk=>?_,λi j k hS hk=>?_⟩
 ·rcases e1 with ⟨_,rfl⟩ | ⟨_,e1⟩ <;> rcases e2 with ⟨_,rfl⟩ | ⟨_,e2⟩ <;> omega
 ·rcases e1 with ⟨_,e1⟩ | ⟨_,e1⟩ <;> rcases e2 with ⟨_,e2⟩ | ⟨_,e2⟩ <;> omega
 ·rcases Nat.lt_trichotomy j a with hj | hj | hj
  ·rw [c1 j hj] at hk;obtain ⟨k,g1,g2⟩:=h3 j k0 hk;exact ⟨j,k,.inl ⟨by omega,rfl⟩,by simp_all,g2⟩
  ·subst hj;rw [c2] at hk;obtain rfl:=osl hk;obtain ⟨k,g1,g2⟩:=h6 0 k0 rfl;obtain rfl:=osl g1;exact ⟨_,k,.inl ⟨by omega,rfl⟩,a2,g2⟩
  obtain ⟨q,rfl⟩:∃ q,j=q+a+1:=⟨j-a-1,by omega⟩;rw [c3 q] at hk;exact ⟨q+a+2,k0,.inr ⟨by omega,by omega⟩,by simp_all,.ofF<|hK q k0 hk⟩
 rcases hS with ⟨e1,rfl⟩ | ⟨e1,e2⟩
 ·rcases SR j a with hj | hj
  ·grind
  obtain rfl:j=a:=by omega
  rw [a2] at hk;obtain rfl:=osl hk;obtain ⟨k',g1,_⟩:=h5 0 k rfl
  simp_all
 obtain ⟨q,rfl⟩:∃ q,i=q+a+2:=⟨i-a-2,by omega⟩
 simp_all
def Opn (m k:Nat) (i j:Nat):Prop:=(i<m/\j=i)\/(i=k+m/\j=m)\/(m<=i/\i≠k+m/\j=i+1)
theorem Opn.low {m k i:Nat} (h:Nat.blt i m=QX):Opn m k i i := .inl ⟨nlb h,rfl⟩
theorem Reid.open {b0 m:Nat} {S S' K:AH} {k:Nat} {x:Option ABlk} (hm:S.length=m) (hk:K[k]? = QZ x) (hb:SK b0 m=QX) (hS:RenHL (Opn m k) S S') (hK:KF K):Reid b0 (Opn m k) (S++K) (S'++x::K.set k Q0):=by
 have hb:=nlb hb;obtain ⟨h1,h2,h3⟩:=hS.spec;have hm':S'.length=m:=h1.symm.trans hm;have hkl:=(ges hk).1;have a1:∀ i,i<m->(S++K)[i]? = S[i]? := λi hi=>gal (by omega);have a2:∀ q,(S++K)[q+m]? = K[q]? := λq=>by
  grind
 have c1:∀ i,i<m->(S'++x::K.set k Q0)[i]? = S'[i]? := λi hi=>gal (by omega);have c2:(S'++x::K.set k Q0)[m]? = QZ x:=by
  rw [gar (by omega)];have : m-S'.length=0:=by omega
  rw [this]
  rfl
 have c3:∀ q,(S'++x::K.set k Q0)[q+m+1]? = (K.set k Q0)[q]? := λq=>by
  grind
 refine ⟨λi j j' e1 e2=>?_,λi i' j e1 e2=>?_,λi hi => .inl ⟨by omega,rfl⟩,by grind,λj k0 hk0=>?_,λi j k1 hS1 hk1=>?_⟩
 ·rcases e1 with ⟨_,rfl⟩ | ⟨_,rfl⟩ | ⟨_,_,rfl⟩ <;> rcases e2 with ⟨_,rfl⟩ | ⟨_,rfl⟩ | ⟨_,_,rfl⟩ <;> omega
 ·rcases e1 with ⟨_,e1⟩ | ⟨_,e1⟩ | ⟨_,_,e1⟩ <;> rcases e2 with ⟨_,e2⟩ | ⟨_,e2⟩ | ⟨_,_,e2⟩ <;> omega
 ·rcases Nat.lt_trichotomy j m with hj | hj | hj
  ·rw [c1 j hj] at hk0;obtain ⟨k1,g1,g2⟩:=h3 j k0 hk0;exact ⟨j,k1,.inl ⟨hj,rfl⟩,by simp_all,g2⟩
  ·subst hj;rw [c2] at hk0;obtain rfl:=osl hk0;exact ⟨k+j,k0,.inr<|.inl ⟨rfl,rfl⟩,by simp_all,.ofF<|hK k k0 hk⟩
  obtain ⟨q,rfl⟩:∃ q,j=q+m+1:=⟨j-m-1,by omega⟩;rw [c3 q] at hk0;have hq:q≠k:=λe=>by
   simp_all
  rw [SS (Ne.symm hq)] at hk0;exact ⟨q+m,k0,.inr<|.inr ⟨by omega,by omega,by omega⟩,by simp_all,.ofF<|hK q k0 hk0⟩
 rcases hS1 with ⟨e1,rfl⟩ | ⟨rfl,rfl⟩ | ⟨e1,e2,rfl⟩
 ·grind
 ·simp_all
 obtain ⟨q,rfl⟩:∃ q,i=q+m:=⟨i-m,by omega⟩
 grind
end
section
variable {P:Program} {H:AH} {s:Nat}
def NI (P:Program) (H:AH) (s:Nat) (a:AV) (news:List<|List AV):Prop:=∀ (c:Cx) (u:Value),c.H=H->HRel c->c.rel a u ->
 (∀ w,(Builtin.lenOf u).run P w = .ok news.length w)/\(∀ (i:Nat) (row:List AV),news[i]? = QZ row->row.length=s) /\
 ∀ n,n<=news.length->∃ vs:List Value,(∀ w,w.heap=c.w.heap->(Builtin.firstCells s n u).run P w = .ok vs.toArray w)/\C8 c s (news.take n) vs
theorem NI.of {a:AV} {news:List (List AV)} (len:Nat) (hl:news.length=len) (h:∀ (c:Cx) (u:Value),c.H=H->HRel c->c.rel a u->∃ A cap,u = .slice A len cap/\∀ n,n<=len->∃ vs,SrcIs P c s (.slice A n cap) (news.take n) vs):NI P H s a news:=λc u hH hr hu=>by
 obtain ⟨A,cap,rfl,h1⟩:=h c u hH hr hu;refine ⟨λw=>by rw [hl];simp [Builtin.lenOf],λi row hi=>?_,λn hn=>?_⟩
 ·obtain ⟨vs,h2⟩:=h1 len<|Nat.le_refl _;refine h2.rows i row ?_
  grind
 obtain ⟨vs,h2⟩:=h1 n (by omega);refine ⟨vs,λw hw=>?_,h2.is⟩;have h3:=h2.cells w hw;rw [SY,Tg hn] at h3;rw [<- h3]
 cases A <;> rfl
theorem NI.own {b ver off len:Nat} {k:ABlk} (hk:H[b]? = QZ (QZ k)) (hv:k.ver=ver) (hs:k.s=s) (hn:off+len<=k.rows.length):NI P H s (.hs b ver s off len) ((k.rows.drop off).take len):=
 .of len (by grind) λc u hH hr hu=>by
  cases hu with
  | fr h=>cases h
  | @hs _ _ _ _ _ cap A hb hc hm h0 hx=>
   refine ⟨A,cap,rfl,λn hn' => ?_⟩;rw [List.take_take,Tg hn'];exact bh.own hk hv hs (by omega) rfl c _ hH hr<|.hs hb (by omega) hm h0 λx hx'=>⟨(hx x hx').1,by grind,(hx x hx').2.2.1,(hx x hx').2.2.2⟩
theorem NI.fz {α:Type} [Inhabited α] {f:α->List AV} {l:List α} (hf:∀ x,(f x).length=s):NI P H s (eL f l) (l.map f):=
 .of l.length (by simp) λc u hH hr hu=>by
  have h:=uB hu
  cases h with
  | @sl _ cap sz g o _ a us hc hm ha hs hu2 h1 h=>
   refine ⟨a,cap,rfl,λn hn=>?_⟩;have e:(l.map f).take n=(SW n).map λi=>f (l.getD i QW):=by
    rw [<- List.map_take,<- wR f (l.take n),SY,Tg hn];apply Tq;intro i hi;have hi':i<n:=by simpa using hi
    simp [SZ,hi']
   rw [e];refine bh.sl (H:=c.H) (n:=n) (row:=λi=>f<|l.getD i QW) (λi _=>hf _) c _ rfl hr<|.fr<|.sl (s:=sz) (g:=g) (o:=o) us (by omega) hm (λh0=>ha<|by omega) (λi hi=>hs i<|by omega) (λi j a hi=>hu2 i j a<|by omega) (λi j a hi=>h1 i j a<|by omega) λi j a hi=>h i j a (by omega)
variable {o:Oper} {ρ:Operand->AV}
variable {α:Type} {c:α->List AV} {l k:List α} {x y:Operand} {t u e:TypeId} {ag:Bool} {w m b ver off len:Nat} {zs:List AV}
end
section
variable {P:Program} {K V:Type} [DecidableEq K] {kn vn:Nat} {kc:K->List Value} {cv:V->List AV} {keyT t e:TypeId} {l:List (K×V)} {ρ:Operand->AV} {H:AH} {x y z:Operand} {b:Nat}
theorem EvA.look (q:KeyA P keyT kn kc) (hv:∀ v,(cv v).length=vn) (d:V) {zv:Value} {ok:Bool} (ht:P.underlying t=QZ (.map keyT e)) (hz:∀ w,(zeroValue e).run P w = .ok zv w) (hzr:∀ c:Cx,c.rel (mkA<|cv d) zv) (k:K)
 (hx:ρ x = .mp b (kn+vn)) (hy:ρ y=mkA ((kc k).map AV.v)) (hb:H[b]? = QZ (QZ<|mB kn vn kc cv l)) :
 EvA P ρ (.lookup t x y ok) H (bif ok then .tup [mkA (cv<|(Iy l k).getD d),.v (.bool (Iy l k).isSome)] else mkA (cv<|(Iy l k).getD d)) H:=λ_ ho=>HL q hv d ho ht hz hzr k hx hy hb
end
section
variable {K V:Type} {kn vn:Nat} {kc:K->List Value} {cv:V->List AV} {l:List (K×V)} {H:AH}
theorem StayB.mp {m:Nat} (hv:∀ v,(cv v).all (isF 9)=QX):StayB m H (QZ<|mB kn vn kc cv l) (QZ<|mB kn vn kc cv l) := .keep λr hr a ha=>by
 obtain ⟨p,_,rfl⟩:=S0.1 hr;rcases List.mem_append.1 ha with ha | ha
 ·obtain ⟨x,_,rfl⟩:=S0.1 ha
  rfl
 exact yU 9 m a<|SL.1 (hv p.2) a ha
end

theorem Cx.trim {c:Cx} {b ver s off n:Nat} {ty:TypeId} {rows:List (List AV)} (hr:HRel c) (hb:c.H[b]? = QZ (QZ ⟨ver,s,ty,rows⟩)) (hle:off+n<=rows.length) {v:Value} (hv:c.rel (.hs b ver s off n) v) :
  ∃ c':Cx,c'.w=c.w/\c'.H=c.H.set b (QZ ⟨ver+1,s,ty,(rows.drop off).take n⟩)/\HRel c'/\Ext c c'/\c'.rel (.hs b (ver+1) s 0 n) v:=by
 have hlv:c.live b ⟨ver,s,ty,rows⟩:=hb;have hblt:b<c.H.length:=(ges hb).1;obtain ⟨cs,fr,hB⟩:=hr.blk b _ hlv
 cases hv with
 | fr h=>cases h
 | @hs _ _ _ _ _ cap A hbn hc hm h0 hh=>
  obtain ⟨fr,rfl,hat,hd⟩:=hB.cells hlv λx hx=>(hh x hx).1;obtain ⟨_,hn,hA,hcap⟩:=hh _ hd;let c':Cx:={ w:=c.w,fz:=c.fz,H:=c.H.set b (QZ ⟨ver+1,s,ty,(rows.drop off).take n⟩),φ:=λj=>if j=b then ((c.φ b).1,(c.φ b).2+off*s) else c.φ j };have φb:c'.φ b=((c.φ b).1,(c.φ b).2+off*s):=if_pos rfl;have φo:∀ {j},j≠b->c'.φ j=c.φ j:=λ{j} hj=>if_neg hj;have φ1:∀ j,(c'.φ j).1=(c.φ j).1:=λj=>by
   grind
  have Hb:c'.H[b]? = QZ (QZ ⟨ver+1,s,ty,(rows.drop off).take n⟩):=by
   show (c.H.set b _)[b]? = _
   simp_all
  have Ho:∀ {j},j≠b->c'.H[j]? = c.H[j]? := λ{j} hj=>by
   grind
  have lv:∀ {j k},c'.live j k->(j=b/\k=⟨ver+1,s,ty,(rows.drop off).take n⟩)\/(j≠b/\c.live j k):=λ{j k} hl=>by
   by_cases hj:j=b
   ·subst hj;have hl':c'.H[j]? = QZ (QZ k):=hl
    simp_all
   have hl':c'.H[j]? = QZ (QZ k):=hl;rw [Ho hj] at hl';exact .inr ⟨hj,hl'⟩
  have hx:Ext c c':=by
   refine ⟨rfl,rfl,rfl,Nat.le_refl _,λ_ _ _=>rfl,λ_ h=>h,λ_ h => .inl h,by grind,λj q hj=>?_,λj q x hj hx=>?_,λj k hl => .inr ?_⟩
   ·by_cases e:j=b
    ·subst e;unfold Cx.born at hj ⊢
     grind
    unfold Cx.born at hj ⊢
    simp_all
   ·by_cases e:j=b
    ·subst e;unfold Cx.born at hj;rw [hb] at hj;unfold Cx.hd at hx
     grind
    unfold Cx.hd at hx ⊢
    grind
   grind
  have hlen:((rows.drop off).take n).length=n:=by rw [SY,List.length_drop];omega
  have hfit:=hB.fits;simp only at hfit;refine ⟨c',rfl,rfl,⟨hr.lt,λj k hl=>?_,λj j' k k' hl hl' hne=>?_,hr.glx hx⟩,hx,?_⟩
  ·rcases lv hl with ⟨rfl,rfl⟩ | ⟨hj,h⟩
   ·refine ⟨cs,QZ fr,⟨?_,?_,hB.pos,hB.free,?_,λi r hi=>?_,λi r q a hi ha=>?_⟩⟩
    ·show c.w.heap[(c'.φ j).1]? = _;rw [φ1,hat]
     rfl
    ·rw [φ1];exact hB.nf
    ·rw [φb];show (c.φ j).2+off*s+((rows.drop off).take n).length*s<=cs.size;rw [hlen];have : off*s+n*s<=rows.length*s:=by rw [<- SU];exact Tt s hle
     omega
    ·have hi':((rows.drop off).take n)[i]? = QZ r:=hi;rw [SZ] at hi'
     split at hi'
     ·rw [List.getElem?_drop] at hi';exact hB.len _ r hi'
     simp_all
    have hi':((rows.drop off).take n)[i]? = QZ r:=hi;rw [SZ] at hi'
    split at hi'
    ·rw [List.getElem?_drop] at hi';obtain ⟨u,g1,g2,g3⟩:=hB.rel _ r q a hi' ha;refine ⟨u,?_,g2,g3.ext hr hx⟩;rw [φb];show cs[(c.φ j).2+off*s+i*s+q]? = QZ u;rw [<- g1]
     congr 1
     show (c.φ j).2+off*s+i*s+q=(c.φ j).2+(off+i)*s+q;rw [SU];omega
    simp_all
   obtain ⟨cs',fr',hB'⟩:=hr.blk j k h;exact ⟨cs',fr',⟨by rw [φo hj];exact hB'.at_,by rw [φo hj];exact hB'.nf,hB'.pos,hB'.free,by rw [φo hj];exact hB'.fits,hB'.len,λi r q a hi ha=>by
    obtain ⟨u,g1,g2,g3⟩:=hB'.rel i r q a hi ha;exact ⟨u,by simp_all,g2,g3.ext hr hx⟩⟩⟩
  ·have old:∀ {j k},c'.live j k->∃ k0,c.live j k0:=λ{j k} hl=>by
    grind
   obtain ⟨_,h1⟩:=old hl;obtain ⟨_,h2⟩:=old hl';rw [φ1,φ1];exact hr.inj j j' _ _ h1 h2 hne
  refine .hs ?_ hc hm h0 λx hx=>?_
  ·unfold Cx.born
   simp_all
  have hat':c'.w.heap[(c'.φ b).1]? = QZ (.cells cs ty fr):=by rw [φ1];exact hat
  have := Cx.hd_of (c:=c') (b:=b) (k:=⟨ver+1,s,ty,(rows.drop off).take n⟩) Hb hat';have he:=hx.symm.trans this;simp only [hdo,sie] at he
  simp_all
section
variable {P:Program} {ρ:Operand->AV} {H:AH}
theorem EvA.trim {op:Op} {b ver s off n:Nat} {ty:TypeId} {rows:List (List AV)} (h:QE P ρ op<|.hs b ver s off n) (hb:H[b]? = QZ (QZ ⟨ver,s,ty,rows⟩)) (hle:off+n<=rows.length) :
  EvA P ρ op H (.hs b (ver+1) s 0 n) (H.set b<|QZ ⟨ver+1,s,ty,(rows.drop off).take n⟩):=λo ho c a K Q hH hr hxs hK=>
 h o ho H c a K Q hH hr hxs λv c1 hH1 hr1 hx1 hv1=>by
  obtain ⟨c2,e1,e2,e3,e4,e5⟩:=Cx.trim hr1 (by rw [hH1];exact hb) hle hv1;rw [<- e1];exact hK v c2 (by simp_all) e3 (hx1.trans e4) e5
theorem EvA.cutO {α:Type} {f:α->List AV} {op:Op} {b ver w n:Nat} {ty:TypeId} (l:List α) {zl zh:Int} (h:QE P ρ op<|.hs b ver w (0+zl.toNat)<|zh.toNat-zl.toNat) (hb:H[b]? = QZ (bE QY ver w ty<|l.map f)) (hn:n=l.length)
  (g:0<=zl/\zl<=zh/\zh<=(n:Int)) :
  EvA P ρ op H (hS QY b (ver+1) w ((l.drop zl.toNat).take<|zh.toNat-zl.toNat).length) (H.set b<|bE QY (ver+1) w ty<|((l.drop zl.toNat).take<|zh.toNat-zl.toNat).map f):=by
 obtain ⟨g1,g2,g3⟩:=g;have hl:((l.drop zl.toNat).take<|zh.toNat-zl.toNat).length=zh.toNat-zl.toNat:=by rw [SY,List.length_drop];omega
 have := EvA.trim h (rows:=l.map f) hb (by grind);rw [hl,List.map_take,List.map_drop];rw [Ti] at this;exact this
inductive FzP (H:AH):AV->AV->Prop
 | fz {a a':AV} (h:Fz 0 H a a'):FzP H a a'
 | hp {b ver s j:Nat} {ty:TypeId} {r x row':List AV} (hk:H[b]? = QZ (QZ ⟨ver,s,ty,[r++x]⟩)) (h:FzL 0 H r row'):FzP H (.hp b ver s 0 j) (.fp row' j)
inductive FzPL (H:AH):List AV->List AV->Prop
 | nil:FzPL H [] []
 | cons {a b:AV} {l k:List AV} (h:FzP H a b) (t:FzPL H l k):FzPL H (a::l) (b::k)
theorem FzPL.spec {l k:List AV} (h:FzPL H l k):l.length=k.length/\∀ (i:Nat) (c d:AV),l[i]? = QZ c->k[i]? = QZ d->FzP H c d:=by
 induction h with
 | nil=>simp_all
 | cons h t ih=>
  grind
end
def NJ (r:AV) (G:Nat->AH):AV->AH->Prop:=λr' G'=>∃ ver,r'=r/\G'=G ver
def Qa:List Nat->AH->AH->AH
 | [],_,H=>H
 | b::bs,G,H=>match G with
  | []=>H
  | x::xs=>Qa bs xs (H.set b x)
def NL (H:AH) (ids:List Nat) (G:AH):AH:=Qa ids G H
theorem BS {H:AH} {b:Nat} {bs:List Nat} {x:Option ABlk} {xs:AH}:NL H (b::bs) (x::xs)=NL (H.set b x) bs xs:=rfl
theorem BU:∀ (ids:List Nat) (H G:AH),(NL H ids G).length=H.length
 | [],_,_=>rfl
 | _::_,_,[]=>rfl
 | b::bs,H,x::xs=>by rw [BS,BU bs,List.length_set]
theorem FR {b:Nat}:∀ (ids:List Nat) (H G:AH),b∉ids->(NL H ids G)[b]? = H[b]?
 | [],_,_,_=>rfl
 | _::_,_,[],_=>rfl
 | c::bs,H,x::xs,h=>by
  rw [BS,FR bs _ _ (λhm=>h<|.tail _ hm),SS (λe=>h<|by simp_all)]
theorem FT:∀ (ids:List Nat) (H G:AH) (i b:Nat),ids.Nodup->ids[i]? = QZ b->b<H.length->i<G.length->(NL H ids G)[b]? = G[i]?
 | [],_,_,_,_,_,h,_,_=>by grind
 | _::_,_,[],_,_,_,_,_,h=>by grind
 | c::bs,H,x::xs,i,b,hn,h,hb,hi=>by
  rw [BS];obtain ⟨hn1,hn2⟩:=List.nodup_cons.1 hn
  cases i with
  | zero=>
   simp only [SN,sie] at h;subst h;rw [FR bs _ _ hn1,Tj hb]
   rfl
  | succ i=>
   simp only [Te] at h;rw [FT bs _ xs i b hn2 h (by simp_all) (by simp_all)]
   rfl
inductive OutAt (S:Nat->Nat->Prop) (H:AH):List Nat->AH->Prop
 | nil:OutAt S H [] []
 | cons {b:Nat} {k k0:ABlk} {bs:List Nat} {G:AH} (hb:H[b]? = QZ (QZ k)) (hk:RenK S k k0) (t:OutAt S H bs G):OutAt S H (b::bs) (QZ k0::G)
 | none {b:Nat} {bs:List Nat} {G:AH} (hb:H[b]? = QZ Option.none) (t:OutAt S H bs G):OutAt S H (b::bs) (Option.none::G)
theorem OutAt.bE {S:Nat->Nat->Prop} {H:AH} {α:Type} {g:Bool} {v w b:Nat} {ty:TypeId} {f:α->List AV} {x:List α} {bs:List Nat} {G:AH} (hb:H[b]? = QZ (bE g v w ty<|x.map f)) (hf:∀ x,(f x).all (isF 9)=QX) (t:OutAt S H bs G):OutAt S H (b::bs) (Go.Proofs.YtabfkkjdfhbngaaGreatDoor.bE g v w ty (x.map f)::G):=by
 cases g with
 | true=>exact .none hb t
 | false=>exact .cons hb (.ofF λr hr a ha=>CJ hf r hr a ha) t
theorem OutAt.spec {S:Nat->Nat->Prop} {H:AH} {ids:List Nat} {G:AH} (h:OutAt S H ids G):ids.length=G.length/\∀ (i b:Nat),ids[i]? = QZ b->(H[b]? = QZ Option.none/\G[i]? = QZ Option.none)\/∃ k k0:ABlk,H[b]? = QZ (QZ k)/\G[i]? = QZ (QZ k0)/\RenK S k k0:=by
 induction h with
 | nil=>simp_all
 | @none b bs G hb t ih=>
  grind
 | @cons b k k0 bs G hb hk t ih=>
  grind
section
variable {P:Program}
theorem fG.outAt {f:FuncId} {as0 QV:List AV} {H0 H:AH} {r0 r:AV} {G0:Nat->AH} (h:fG P f as0 H0<|NJ r0 G0) (ids:List Nat) (hn:ids.Nodup) (hin:OutAt (λb i=>ids[i]? = QZ b) H ids H0) (has:RenL (λb i=>ids[i]? = QZ b) QV as0)
  {G G':Nat->AH} (N:Nat) (hN:H.length=N) (hout:∀ v,RenHL (sg ids N) (G0 v)<|G v) (hlen:∀ v,(G0 v).length=ids.length) (hr:Ren (sg ids N) r0 r) (hG:∀ v,NL H ids (G v)=G' v):fG P f QV H (NJ r G'):=by
 subst hN;refine h.frameN ids hn hin.spec.1 hin.spec.2 has.spec.1 has.spec.2 λr1 G1 ⟨v,e1,e2⟩=>⟨r,G' v,?_,by simp_all,v,rfl,rfl⟩;subst e2;obtain ⟨l1,l2,l3⟩:=(hout v).spec;have hl:=hlen v;have lt:∀ {i b},ids[i]? = QZ b->b<H.length:=λ{i b} hi=>by
  rcases hin.spec.2 i b hi with ⟨h1,_⟩ | ⟨k,_,h1,_⟩
  ·exact (ges h1).1
  grind
 have sgi:∀ {i b},i<(G0 v).length->sg ids H.length i b->ids[i]? = QZ b:=λ{i b} hi hs=>by
  rcases hs with hs | ⟨hs,_⟩
  ·exact hs
  omega
 refine ⟨by omega,by rw [<- hG,BU];omega,λi b hi hs hd=>?_,λi b k0 hs hk=>?_,λb hb hni=>by rw [<- hG,FR _ _ _ hni]⟩
 ·have hib:=sgi hi hs;rw [<- hG,FT ids H (G v) i b hn hib (lt hib) (by omega)];have hg:i<(G v).length:=by omega
  rw [geq hg]
  cases hc:(G v)[i] with
  | none=>rfl
  | some k'=>
   obtain ⟨k,h1,_⟩:=l3 i k' (by rw [geq hg,hc])
   simp_all
 have hi:=(ges hk).1;have hib:=sgi hi hs;obtain ⟨k',h1,h2⟩:=l2 i k0 hk;refine ⟨k',?_,h2⟩;rw [<- hG,FT ids H (G v) i b hn hib (lt hib) (by omega)];exact h1
end
section
variable {P:Program} {nt b0:Nat} {Q:Exit->Env->AH->Prop} {en:List (Nat×AV)} {H:AH} {ops:Array Oper} {l:List Oper} {d:Tmp} {t:TypeId} {pos:String} {af:Array Edge}
theorem oW {cl:Call} {f:Operand} {g:FuncId} {p6 QV:List AV} {r:AV} {G:Nat->AH} (hc:cl.callee = .value f) (hf:rho (ai en) f = .fn (.func g) p6) (ha:cl.args.toList.map (rho<|ai en)++p6=QV)
  (h:fG P g QV H<|NJ r G) (k:∀ ver,TO P nt b0 ops l Q (ai ((d,r)::en))<|G ver):TO P nt b0 ops (⟨QZ d,.call cl,t,pos,af,Q0⟩::l) Q (ai en) H:=by
 subst ha;exact TO.runG (.free rfl) (DV rfl hc hf h) λr' H' ⟨ver,hr,hH⟩=>by
  subst hr hH;exact k ver
end
theorem RenK.mB {K V:Type} {kn vn:Nat} {kc:K->List Value} {cv:V->List AV} {l:List (K×V)} (S:Nat->Nat->Prop) (hv:∀ v,(cv v).all (isF 9)=QX):RenK S (mB kn vn kc cv l) (mB kn vn kc cv l) := .ofF λr hr a ha=>by
 obtain ⟨p,_,rfl⟩:=S0.1 hr;rcases List.mem_append.1 ha with ha | ha
 ·obtain ⟨x,_,rfl⟩:=S0.1 ha
  rfl
 grind
theorem RenK.bE' {S:Nat->Nat->Prop} {α:Type} {v w:Nat} {ty:TypeId} {f:α->List AV} {x:List α} (hf:∀ x,(f x).all (isF 9)=QX):RenK S ⟨v,w,ty,x.map f⟩ ⟨v,w,ty,x.map f⟩ := .ofF λr hr a ha=>CJ hf r hr a ha
section
variable {P:Program} {K:Type} [DecidableEq K] {kn:Nat} {kc:K->List Value} {keyT t e:TypeId} {l:List (K×Bool)} {ρ:Operand->AV} {H:AH} {x y z:Operand} {b:Nat}
omit [DecidableEq K] in
end
section
variable {P:Program}
theorem fG.mkS {f:FuncId} {fn:Func} {body:Code} {QV:List AV} {H:AH} {R:AV->AH->Prop} (hf:P.funcs[f]? = QZ fn) (hb:fn.body=QZ body) (hcall:iH P f=QX) (hn:SK QV.length fn.ntmps=QX)
 (hok:codeOk fn.ntmps body=QX) {e0:Env} (hw:CV (KO QV) e0) (h:T P fn.ntmps H.length body (SQ H.length<|Fin P fn R) e0 H):fG P f QV H R:=fG.mkT hf hb hcall hn hok hw h.leaf
end
section
variable {P:Program} {ρ:Operand->AV} {H:AH}
theorem Jb {o:Oper} {t:TypeId} {x:Operand} {cs:List AV} {b:Nat} (ho:o.op = .box t x) (hc:(ρ x).cells=QZ cs) (h0:0<cs.length) (hb:H[b]? = QZ Q0):QC P o ρ H (.hp b 0 cs.length 0 0) (H.set b<|QZ ⟨0,cs.length,t,[cs]⟩):=by
 intro c a K Q hH hr hx hK;have hx1:=hx x (by rw [ho];simp [Op.operands]);have hz':=xW hx1 hc;have hsz:=hz'.size;subst hH;have hrel:HRel (c.newAt b ⟨0,cs.length,t,[cs]⟩ (a.eval x).cells):=by
  refine Cx.newAt_rel hr hb h0 (by simp_all) (λi row h=>?_) λi row j a h1 h2=>?_
  ·grind
  match i,h1 with
  | 0,h1=>
   simp only [SN,sie] at h1;subst h1;simpa using hz'.get h2
  | i+1,h1=>grind
 have hrun:(execOp a.eval o).run P c.w = .ok (.value<|.pointer<|QZ ⟨c.w.heap.size,0,Q0⟩) (c.newAt b ⟨0,cs.length,t,[cs]⟩ (a.eval x).cells).w:=by
  rw [execOp,ho];refine (?_:Sem.run P _ c.w=_);have : (Instr.box t<|a.eval x).run P c.w = .ok (.pointer<|QZ ⟨c.w.heap.size,0,Q0⟩) (c.w.alloc<|.cells (a.eval x).cells t):=by
   simp [Instr.box,newVar,newRow]
  simp only [Sem.run_bind,this,Result.andThen_ok,Sem.run_pure]
  rfl
 unfold Oper.wp;rw [hrun];have hl2:=Cx.newAt_self (c:=c) (k:=⟨0,cs.length,t,[cs]⟩) (cs:=(a.eval x).cells) hb;have hφ2:(c.newAt b ⟨0,cs.length,t,[cs]⟩ (a.eval x).cells).φ b=(c.w.heap.size,0):=if_pos rfl;refine hK _ (c.newAt b ⟨0,cs.length,t,[cs]⟩ (a.eval x).cells) rfl hrel (Cx.newAt_ext hr hb)<|.hp ?_ λq hq=>?_
 ·unfold Cx.born;rw [show (c.newAt b ⟨0,cs.length,t,[cs]⟩ (a.eval x).cells).H[b]? = QZ (QZ _) from hl2];omega
 have := Cx.hd_of hl2 (o:=.cells (a.eval x).cells t) (by rw [hφ2];exact heap_alloc_new _ _);rw [hφ2] at this;have he:=hq.symm.trans this;simp only [hdo,sie] at he
 simp_all
theorem EvA.bxA {t:TypeId} {x:Operand} {cs:List AV} (b:Nat) (hx:(ρ x).cells=QZ cs) (hn:(Nat.blt 0 cs.length)=QX) (hb:H[b]? = QZ Q0):EvA P ρ (.box t x) H (.hp b 0 cs.length 0 0) (H.set b<|QZ ⟨0,cs.length,t,[cs]⟩):=
 λ_ ho=>Jb ho hx (nlb hn) hb
end
section
variable {P:Program} {nt b0:Nat} {Q:Exit->Env->AH->Prop} {e:Env} {H:AH}
theorem T.ifH {α:Type} {q:Bool} {x:Operand} {t f:Code} {X Y:Option α} {r:α} (hc:rho e x = .v (.bool q)) (h:(bif q then X else Y)=QZ r) (h1:q=QX->X=QZ r->T P nt b0 t Q e H) (h2:q=QY->Y=QZ r->T P nt b0 f Q e H):T P nt b0 (.cond x t f) Q e H:=
 T.cond hc (λhq=>h1 hq<|Pt hq h) λhq=>h2 hq (Pu hq h)
end
theorem QG {α:Type} {a b:α} (h:QZ a=QZ b):a=b:=osl h
def Px (e:Env):List (Nat×AV)->List (Nat×AV)
 | []=>[]
 | p::l=>(p.1,e p.1)::Px e l
theorem wk {e:Env}:∀ {en:List (Nat×AV)},Px e en=en->CV e (ai en)
 | [],_=>wkN
 | (t,a)::l,h=>by
  injection h with h1 h2;injection h1 with _ h1;exact QD h1<|wk h2
theorem kw {b0:Nat} {e:Env} {H H0:AH} {en:List (Nat×AV)} (hH:H0=H) (h:Px e en=en):dz b0 e H (ai en) H0:=Iz hH<|wk h
def NM:Nat->List AV->List (Nat×AV)
 | _,[]=>[]
 | i,a::l=>(i,a)::NM (i+1) l
theorem Jc:∀ (l:List AV) (i t:Nat),ai (NM i l) t=if t<i then .top else l.getD (t-i) .top
 | [],i,t=>by
  show AV.top=_
  simp_all
 | a::l,i,t=>by
  show (bif Nat.beq t i then a else ai (NM (i+1) l) t)=_
  cases hb:Nat.beq t i with
  | true=>
   simp_all
  | false=>
   have hne:t≠i:=λh=>by rw [h,show Nat.beq i i=QX from Nat.beq_refl i] at hb;cases hb
   rw [cond_false,Jc l (i+1) t]
   grind
theorem GR (l:List AV):CV (KO l) (ai<|NM 0 l):=λt => .inr (by rw [Jc,if_neg (by omega)];rfl)
section
variable {P:Program} {f:FuncId} {fn:Func} {body:Code} {QV:List AV} {r:AV} {H H':AH}
def okF (P:Program) (f:FuncId) (fn:Func) (body:Code):Bool:=iH P f&&codeOk fn.ntmps body
theorem GU (h:okF P f fn body=QX):iH P f=QX/\codeOk fn.ntmps body=QX:=by
 unfold okF at h
 simp_all
theorem pM (hf:P.funcs[f]? = QZ fn) (hb:fn.body=QZ body) (hk:okF P f fn body=QX) (hn:SK QV.length fn.ntmps=QX) (h:T P fn.ntmps 0 body (Fin P fn λr0 G=>Fz 0 G r0 r) (ai<|NM 0 QV) []):ax P f QV r:=
 ax.mkT hf hb (GU hk).1 hn (GU hk).2 (GR QV) h
theorem aM (hf:P.funcs[f]? = QZ fn) (hb:fn.body=QZ body) (hk:okF P f fn body=QX) (hn:SK QV.length fn.ntmps=QX) (h:T P fn.ntmps H.length body (SQ H.length<|Fin P fn λr0 G=>r0=r/\G=H') (ai<|NM 0 QV) H):dX P f QV H r H':=
 dX.mkT hf hb (GU hk).1 hn (GU hk).2 (GR QV) h
end
section
variable {α β:Type} {G:Prop} {r:β} {x:Option β}
theorem jW {k:IntKind} {n:Int} (h:gd (QF k n) x=QZ r) (K:k.wrap n=n->x=QZ r->G):G:=K (gdW h).1 (gdW h).2
theorem jD {A:Prop} [Decidable A] (h:gd (decide A) x=QZ r) (K:A->x=QZ r->G):G:=K (gdD h).1 (gdD h).2
theorem jL {b:Bool} (h:gd b x=QZ r) (K:b=QX->x=QZ r->G):G:=K (gdL h).1 (gdL h).2
theorem jB {o:Option α} {k:α->Option β} (h:o.bind k=QZ r) (K:∀ v,o=QZ v->k v=QZ r->G):G:=(qg h).elim λv h=>K v h.1 h.2
end
section
variable {P:Program} {nt b0:Nat} {Q:Exit->Env->AH->Prop} {e e0:Env} {H H' H0:AH} {ops:Array Oper} {l:List Oper} {W:Type} {w:W}
theorem T.sr {i:Nat} {y:Code} (h:TO P nt b0 ops ops.toList (GJ (T P nt b0 y Q) Q) e H):T P nt b0 (.seq (.region i ops QY) y) Q e H := .seq<|.region h
theorem T.jU {S:Type} {A:Option S} {K:S->Option W} {x y:Code} (h:A.bind K=QZ w) (slots:S->List (Nat×AV)) (heap:S->AH)
  (J:∀ s,K s=QZ w->T P nt b0 y Q (ai<|slots s) (heap s)) (k:∀ s,A=QZ s->T P nt b0 x (GJ (Pk b0 (λ_:Unit=>True) (λ_=>slots s) λ_=>heap s) Q) e H):T P nt b0 (.seq x y) Q e H:=
 jB h λs h1 h2=>T.joinF (λ_:Unit=>True) (λ_=>slots s) (λ_=>heap s) (λ_ _=>J s h2) (k s h1)
theorem T.jF {S G:Type} {A:Option S} {K:S->Option W} {x y:Code} (h:A.bind K=QZ w) (inv:S->G->Prop) (slots:S->G->List (Nat×AV)) (heap:S->G->AH)
  (J:∀ s g,K s=QZ w->inv s g->T P nt b0 y Q (ai<|slots s g) (heap s g)) (k:∀ s,A=QZ s->T P nt b0 x (GJ (Pk b0 (inv s) (slots s)<|heap s) Q) e H):T P nt b0 (.seq x y) Q e H:=
 jB h λs h1 h2=>T.joinF (inv s) (slots s) (heap s) (λg hg=>J s g h2 hg) (k s h1)
theorem T.lU {S E:Type} {body:Code} {x:E} {step:S->Option (S ⊕ E)} {s0:S} (h:aB step s0=QZ x) (slots:S->List (Nat×AV)) (heap:S->AH) (hs:dz b0 e H (ai<|slots s0)<|heap s0)
  (round:∀ s z,step s=QZ z->T P nt b0 body (GJ (FL b0 (λ_ (_:Unit)=>True) (λs _=>slots s) (λs _=>heap s) z)<|Leave Q x z) (ai<|slots s) (heap s)):T P nt b0 (.loop body) Q e H:=
 T.loop step (λ_ (_:Unit)=>True) (λs _=>slots s) (λs _=>heap s) () h trivial hs λs _ z hz _=>round s z hz
theorem lE {S E:Type} {slots:S->List (Nat×AV)} {heap:S->AH} {a:S} {z:S ⊕ E} (h:QZ (Sum.inl a)=QZ z) (c:dz b0 e H (ai<|slots a)<|heap a):FL b0 (λ_ (_:Unit)=>True) (λs _=>slots s) (λs _=>heap s) z e H:=
 ⟨a,(),(osl h).symm,trivial,c⟩
theorem lX {S E:Type} {x y:E} {z:S ⊕ E} {ex:Exit} (h:QZ (Sum.inr y)=QZ z) (K:QZ y=QZ x->Q ex e H):Leave Q x z ex e H:=⟨y,(osl h).symm,λh=>K<|congrArg QZ h⟩
theorem TO.jB {S:Type} {q:Bool} {A B:Option S} {K:S->Option W} (h:(bif q then A else B).bind K=QZ w) (n:Nat) (slots:S->List (Nat×AV)) (heap:S->AH)
  (h1:∀ s,q=QX->A=QZ s->(∀ e H,dz b0 e H (ai<|slots s) (heap s)->TO P nt b0 ops (l.drop n) Q e H)->TO P nt b0 ops l Q e H)
  (h2:∀ s,q=QY->B=QZ s->(∀ e H,dz b0 e H (ai<|slots s) (heap s)->TO P nt b0 ops (l.drop n) Q e H)->TO P nt b0 ops l Q e H)
  (J:∀ s,K s=QZ w->TO P nt b0 ops (l.drop n) Q (ai<|slots s) (heap s)):TO P nt b0 ops l Q e H:=by
 obtain ⟨s,ha,hk⟩:=qg h;have key:∀ e H,dz b0 e H (ai<|slots s) (heap s)->TO P nt b0 ops (l.drop n) Q e H:=λe H c=>(J s hk).cut c
 grind
end
section
variable {P:Program} {ρ:Operand->AV} {H H':AH} {x y:Operand} {a:AV} {t:TypeId} {ag:Bool} {n:Nat}
theorem mv:QE P ρ (.move x) (ρ x):=QE.mv _ rfl
theorem as':QE P ρ (.assign x) (ρ x):=QE.asg _ rfl
def Qo:AV->Bool
 | .fp _ _=>QX
 | .hp _ _ _ _ _=>QX
 | _=>QY
theorem nl (h:Qo (ρ x)=QX):QE P ρ (.nilCheck x) (ρ x):=by
 cases e:ρ x with
 | fp row j=>exact QE.nilfp e
 | hp b v s i j=>exact QE.nilhp e
 | _=>rw [e] at h;cases h
def ldE (ag:Bool) (n:Nat):AV->Option AV
 | .fp row j=>xb ag n row j
 | _=>Q0
theorem lf (a:AV) (ty:TyF P t ag n) (h:ldE ag n (ρ x)=QZ a):QE P ρ (.load t x) a:=by
 cases e:ρ x with
 | fp row j=>rw [e] at h;exact QE.loadfp a ty e h
 | _=>rw [e] at h;cases h
def faE (pl:List<|Nat×Nat) (i:Nat) (v:AV):Option AV:=match pl[i]? with
 | some (o,k+1)=>(match v with
  | .fp row j=>QZ (.fp row<|j+o)
  | .hp b u s q j=>QZ (.hp b u s q<|j+o)
  | _=>Q0)
 | _=>Q0
theorem GV {α β:Type} {f:α->Option β}:∀ {l:List α} {k:List β},l.mapM f=QZ k->∀ {i:Nat} {b:β},k[i]? = QZ b->∃ a,l[i]? = QZ a/\f a=QZ b
 | [],k,h,i,b,hb=>by
  simp_all
 | c::l,k,h,i,b,hb=>by
  simp only [List.mapM_cons] at h;obtain ⟨d,hd,h⟩:=Tu.1 h;obtain ⟨k',hk',h⟩:=Tu.1 h;obtain rfl:=osl h
  cases i with
  | zero=>
   simp_all
  | succ i=>exact GV hk' (by simp_all)
theorem fa {pl:List (Nat×Nat)} {i:Nat} (q:TyS P t pl) (h:faE pl i (ρ x)=QZ a):QE P ρ (.fieldAddr t x i) a:=by
 have hs:=q.s
 split at hs
 ·rename_i fs hu;unfold faE at h
  split at h
  ·rename_i o k hk;obtain ⟨fl,h1,h2⟩:=GV hs hk;rw [Tf] at h1;obtain ⟨inf,h3,h4⟩:=Option.map_eq_some_iff.1 h2;injection h4 with h4 h5;have hc:(P.cellsOf fl.type != 0)=QX:=by
    unfold Program.cellsOf;rw [h3];simp [h5]
   subst h4
   cases e:ρ x with
   | fp row j=>rw [e] at h;obtain rfl:=osl h;exact QE.fafp hu h1 hc e
   | hp b u s w j=>rw [e] at h;obtain rfl:=osl h;exact QE.fahp hu h1 hc e
   | _=>rw [e] at h;cases h
  cases h
 simp_all
theorem lh (a:AV) (ty:TyF P t ag n) {b ver s j:Nat} {ty':TypeId} {row:List AV} (h:ρ x = .hp b ver s 0 j) (hk:H[b]? = QZ (QZ ⟨ver,s,ty',[row]⟩)) (hp:xb ag n row j=QZ a):EvA P ρ (.load t x) H a H:=EvA.loadhp a ty h hk rfl rfl rfl hp
def srE (n s j:Nat) (row cs:List AV):Option (List AV):=bif Nat.beq cs.length n&&SK (j+n) s then QZ (splice row j cs) else Q0
theorem sr (row':List AV) (ty:TyF P t ag n) {b ver s j:Nat} {ty':TypeId} {row cs:List AV} (hx:ρ x = .hp b ver s 0 j) (hy:(ρ y).cells=QZ cs) (hk:H[b]? = QZ (QZ ⟨ver,s,ty',[row]⟩)) (hr:srE n s j row cs=QZ row'):EvA P ρ (.store t x y) H .top (H.set b<|QZ ⟨ver,s,ty',[row']⟩):=by
 unfold srE at hr
 cases hb:(Nat.beq cs.length n&&SK (j+n) s) with
 | false=>simp_all
 | true=>
  rw [hb] at hr;obtain rfl:=osl hr;rw [bae] at hb;exact EvA.st (k:=⟨ver,s,ty',[row]⟩) _ ty hx hy hk rfl rfl rfl (Nat.eq_of_beq_eq_true hb.1) hb.2 rfl
end
section
variable {P:Program} {nt b0:Nat} {Q:Exit->Env->AH->Prop} {H H':AH} {ops:Array Oper} {l:List Oper} {d:Tmp} {ty:TypeId} {pos:String} {af:Array Edge} {en:List (Nat×AV)} {fp:Nat->Fp} {i:Nat} {K:Env->AH->Prop} {S W:Type} {r:W} {A:Option S} {k:S->Option W} {v:S->AV} {cl:Call} {f:Operand} {g:FuncId} {p6 QV:List AV}
theorem oC (h:A.bind k=QZ r) (hp:∀ s,A=QZ s->ax P g QV (v s)) (hc:cl.callee = .value f) (hf:rho (ai en) f = .fn (.func g) p6) (ha:cl.args.toList.map (rho<|ai en)++p6=QV) (hF:QV.all (isF 9)=QX)
  (J:∀ s,A=QZ s->k s=QZ r->TO P nt b0 ops l Q (ai ((d,v s)::en)) H):TO P nt b0 ops (⟨QZ d,.call cl,ty,pos,af,Q0⟩::l) Q (ai en) H:=
 jB h λs h1 h2=>oN (QE.call hc hf ha (hp s h1) hF) (J s h1 h2)
theorem fC (h:A.bind k=QZ r) (hp:∀ s,A=QZ s->ax P g QV (v s)) (hc:cl.callee = .value f) (hf:rho (ai en) f = .fn (.func g) p6) (ha:cl.args.toList.map (rho<|ai en)++p6=QV) (hF:QV.all (isF 9)=QX) (h0:fp i=([],QY))
  (J:∀ s,A=QZ s->k s=QZ r->TF P fp (i+1) l K (ai ((d,v s)::en)) H):TF P fp i (⟨QZ d,.call cl,ty,pos,af,Q0⟩::l) K (ai en) H:=
 jB h λs h1 h2=>fN h0 (QE.call hc hf ha (hp s h1) hF) (J s h1 h2)
end
section
variable {P:Program} {fn:Func} {e:Env} {G:AH} {a:AV} {t:Tmp} {m:Nat}
theorem vq (h:fn.results.toList=[.tmp t]) (h1:e t=a) (h2:isF 9 a=QX):Fin P fn (λr0 G=>Fz m G r0 a) .ret e G:=Fin.ret (vs:=[a]) (by rw [h];exact .cons (.tmp h1) .nil)<|.of_isF 9 _ h2
end
section
variable {P:Program} {H:AH}
theorem dX.oneE {f:FuncId} {as0 QV:List AV} {b:Nat} {g:Bool} {ver w:Nat} {ty:TypeId} {CC rows:List (List AV)} {r:AV} (h:dX P f as0 [bE g ver w ty CC] r [bE g ver w ty rows]) (hb:H[b]? = QZ (bE g ver w ty CC))
  (has:RenL (λc i=>[b][i]? = QZ c) QV as0) (hk0:∀ r∈CC,∀ a∈r,isF 9 a=QX) (hk:∀ r∈rows,∀ a∈r,isF 9 a=QX) (hr:isF 9 r=QX):dX P f QV H r (H.set b<|bE g ver w ty rows):=by
 have hlt:b<H.length:=(ges hb).1;have h0:fG P f as0 [bE g ver w ty CC] (λr' G=>r'=r/\G=[bE g ver w ty rows]):=⟨h.1,λc vs hH hr hall=>(h.2 c vs hH hr hall).mono λe w' ⟨v,c',h1,h2,h3,h4,h5,h6⟩=>⟨v,c',r,h1,h2,⟨rfl,h3⟩,h4,h5,h6⟩⟩;refine fG.acall<|h0.frameN [b] (by simp) rfl (λi c hi=>?_) has.spec.1 has.spec.2 λr0 G0 ⟨hr0,hG0⟩ => ?_
 ·match i with
  | 0=>
   obtain rfl:b=c:=by simpa using hi
   cases g with
   | true=>exact .inl ⟨hb,rfl⟩
   | false=>exact .inr ⟨_,_,hb,rfl,.ofF hk0⟩
  | i+1=>simp at hi
 subst hr0 hG0;have key:∀ i c,sg [b] H.length i c->i<1->c=b:=λi c hs hi=>by
  rcases hs with hs | ⟨hs,_⟩
  ·obtain rfl:i=0:=by omega
   simpa using hs.symm
  simp at hs;omega
 refine ⟨_,_,⟨by simp,by simp,λi c hi hs hn=>?_,λi c k0 hs hk0=>?_,λc hc hne=>SS λe=>hne<|by simp [e]⟩,aO 9 _ hr,rfl,rfl⟩
 ·simp only [List.length_singleton] at hi;obtain rfl:=key i c hs hi;obtain rfl:i=0:=by omega
  simp only [SN,sie] at hn;rw [Tj hlt,hn]
 have hi:i<1:=by
  have := (ges hk0).1;simpa using this
 obtain rfl:=key i c hs hi;obtain rfl:i=0:=by omega
 simp only [SN,sie] at hk0;refine ⟨k0,by rw [Tj hlt,hk0],.ofF λr hr a ha=>?_⟩
 cases g with
 | true=>cases hk0
 | false=>
  obtain rfl:=osl hk0;exact hk r hr a ha
theorem KR {S:Nat->Nat->Prop} {g:Bool} {i j v w n n':Nat} (h:S i j) (hn:n=n'):Ren S (hS g i v w n) (hS g j v w n'):=hn ▸ mQ h
variable {nt b0:Nat} {Q:Exit->Env->AH->Prop} {en:List (Nat×AV)} {ops:Array Oper} {l:List Oper} {d:Tmp} {t:TypeId} {pos:String} {af:Array Edge}
end
section
variable {P:Program} {ρ:Operand->AV} {H:AH} {x y z:Operand} {t e keyT:TypeId} {ag:Bool} {w j b kn:Nat}
variable {K:Type} [DecidableEq K] {kc:K->List Value} {l:List (K×Bool)}
omit [DecidableEq K] in
end
section
variable {P:Program} {o:Oper} {ρ ρ':Operand->AV} {H:AH} {K K':AV->AH->Prop}
theorem OpG.congr {R:AV->AH->Prop} (h:OpG P o ρ H R) (he:∀ x∈o.op.operands,ρ x=ρ' x):OpG P o ρ' H R:=
 λc a K Q hH hr hxs hK=>h c a K Q hH hr (λx hx=>by rw [he x hx];exact hxs x hx) hK
theorem OpG.mono {R R':AV->AH->Prop} (h:OpG P o ρ H R) (hR:∀ r G,R r G->R' r G):OpG P o ρ H R':=
 λc a K Q hH hr hxs hK=>h c a K Q hH hr hxs λv c' r hr1 hr2 hr3 hr4=>hK v c' r (hR _ _ hr1) hr2 hr3 hr4
theorem QC.opG {r:AV} {H':AH} (h:QC P o ρ H r H'):OpG P o ρ H λr' G=>r'=r/\G=H':=
 λc a K Q hH hr hxs hK=>h c a K Q hH hr hxs λv c' hc hr2 hr3 hr4=>hK v c' r ⟨rfl,hc⟩ hr2 hr3 hr4
abbrev Xc:=Bool×List Nat
def agr (F:List Nat) (G H:AH):Prop:=∀ b∈F,G[b]? = H[b]?
theorem agr.a0 {b:Nat} {F:List Nat} {G H:AH} (h:agr (b::F) G H) {x:Option ABlk} (hx:H[b]? = QZ x):G[b]? = QZ x:=(h b<|by simp).trans hx
theorem agr.a1 {b c:Nat} {F:List Nat} {G H:AH} (h:agr (c::b::F) G H) {x:Option ABlk} (hx:H[b]? = QZ x):G[b]? = QZ x:=(h b<|by simp).trans hx
theorem agr.a2 {a b c:Nat} {F:List Nat} {G H:AH} (h:agr (a::c::b::F) G H) {x:Option ABlk} (hx:H[b]? = QZ x):G[b]? = QZ x:=(h b<|by simp).trans hx
def yj (W:List Nat) (H H':AH):Prop:=∀ b,b<H.length->b∉W->H'[b]? = H[b]?
theorem bM {b:Nat} {X:Option ABlk}:yj [b] H (H.set b X):=λc _ hc=>SS λe=>hc (by simp [e])
theorem pE {L:AH}:yj [] H (H++L):=λ_ hb _=>gal hb
def BV (P:Program) (o:Oper) (ρ:Operand->AV) (H:AH) (b:Xc) (K:AV->AH->Prop):Prop:=match b.1 with
 | false=>∃ r,(∀ c∈b.2,c<H.length)/\(∀ G,agr b.2 G H->QC P o ρ G r G)/\K r H
 | true=>OpG P o ρ H λr H'=>yj b.2 H H'/\K r H'
theorem BV.mono {b:Xc} (h:BV P o ρ H b K) (hK:∀ r G,K r G->K' r G):BV P o ρ H b K':=by
 obtain ⟨b,F⟩:=b
 cases b with
 | false=>
  obtain ⟨r,h0,h1,h2⟩:=h;exact ⟨r,h0,h1,hK _ _ h2⟩
 | true=>
  show OpG P o ρ H λr H'=>yj F H H'/\K' r H';exact OpG.mono (R:=λr H'=>yj F H H'/\K r H') h λr G hr=>⟨hr.1,hK _ _ hr.2⟩
theorem BV.congr {b:Xc} (h:BV P o ρ H b K) (he:∀ x∈o.op.operands,ρ x=ρ' x):BV P o ρ' H b K:=by
 obtain ⟨b,F⟩:=b
 cases b with
 | false=>
  obtain ⟨r,h0,h1,h2⟩:=h;exact ⟨r,h0,λG hG=>(h1 G hG).congr he,h2⟩
 | true=>
  show OpG P o ρ' H λr H'=>yj F H H'/\K r H';exact OpG.congr (R:=λr H'=>yj F H H'/\K r H') h he
theorem BV.opG {b:Xc} (h:BV P o ρ H b K):OpG P o ρ H K:=by
 obtain ⟨b,F⟩:=b
 cases b with
 | false=>
  obtain ⟨r,_,h1,h2⟩:=h;refine (QC.opG<|h1 H λ_ _=>rfl).mono ?_;rintro r' G ⟨rfl,rfl⟩;exact h2
 | true=>exact OpG.mono (R:=λr H'=>yj F H H'/\K r H') h λr G hr=>hr.2
def KS (a b:Xc):Bool := !b.1||a.2.all λx => !b.2.contains x
def KT (P:Program) (ops:Array Oper) (cls:Nat->Xc) (Q:Env->AH->Prop):Nat->Array Bool->Env->AH->Prop
 | 0,listed,e,H=>Region.ready .any ops listed=[]/\Q e H
 | fuel+1,listed,e,H=>(Region.ready .any ops listed=[]->Q e H) /\
  ∀ i∈Region.ready .any ops listed,∃ o,ops[i]? = QZ o/\BV P o (rho e) H (cls i) λr H'=>KT P ops cls Q fuel (listed.setIfInBounds i QX) (sI e o.dst r) H'
theorem H5 {ops:Array Oper} {cls:Nat->Xc} {Q:Env->AH->Prop} {i:Nat} {oi:Oper} {r:AV} {F:List Nat} (hi:ops[i]? = QZ oi) (hci:cls i=(QY,F)) :
  ∀ (fuel:Nat) (listed:Array Bool) (e:Env) (H:AH),
   (∀ (j:Nat) (oj:Oper),ops[j]? = QZ oj->j≠i->listed.getD j QX=QY->(∀ ed∈oj.after,Region.binds .any ed=QX->ed.on≠i)->oi.apart ops oj=QX/\KS (cls i) (cls j)=QX) ->
   i∈Region.ready .any ops listed->(∀ c∈F,c<H.length)->(∀ G,agr F G H->QC P oi (rho e) G r G)->KT P ops cls Q fuel (listed.setIfInBounds i QX) (sI e oi.dst r) H->KT P ops cls Q (fuel+1) listed e H:=by
 intro fuel
 induction fuel with
 | zero=>
  intro listed e H _ hr hF hy hA;refine ⟨λh=>(by rw [h] at hr;cases hr),λj hj=>?_⟩
  by_cases hji:j=i
  ·subst hji;exact ⟨oi,hi,by rw [hci];exact ⟨r,hF,hy,hA⟩⟩
  have := ready_mono hj hji;rw [hA.1] at this
  cases this
 | succ fuel ih=>
  intro listed e H hfree hr hF hy hA;refine ⟨λh=>(by rw [h] at hr;cases hr),λj hj=>?_⟩
  by_cases hji:j=i
  ·subst hji;exact ⟨oi,hi,by rw [hci];exact ⟨r,hF,hy,hA⟩⟩
  obtain ⟨oj,hoj,hsj⟩:=hA.2 j<|ready_mono hj hji;obtain ⟨hjun,oj',Ac,hall⟩:=mem_ready.1 hj;rw [hoj] at Ac;injection Ac with Ac;subst Ac;have hnot:∀ ed∈oj.after,Region.binds .any ed=QX->ed.on≠i:=λed he hb heq=>by
   have h1:=hall ed he hb;have h0:=(mem_ready.1 hr).1;rw [heq] at h1;rcases SR i listed.size with h' | h'
   ·simp [h'] at h0 h1;rw [h0] at h1;cases h1
   simp [S5 h'] at h1
  obtain ⟨hap,hcm⟩:=hfree j oj hoj hji hjun hnot;obtain ⟨h1,h2,h3⟩:=Oper.apart_spec hap;have ej:=sM (e:=e) (r:=r) h1;have hfree':∀ (k:Nat) (ok:Oper),ops[k]? = QZ ok->k≠i->(listed.setIfInBounds j QX).getD k QX=QY->(∀ ed∈ok.after,Region.binds .any ed=QX->ed.on≠i)->oi.apart ops ok=QX/\KS (cls i) (cls k)=QX:=λk ok hk hki hun hno=>by
   refine hfree k ok hk hki ?_ hno
   by_cases hjk:j=k
   ·subst hjk;exact hjun
   rw [getD_set_ne QX hjk] at hun;exact hun
  have hsj':=hsj.congr ej;have go:∀ q Hj,(∀ c∈F,c<Hj.length)->(∀ c∈F,Hj[c]? = H[c]?)->KT P ops cls Q fuel ((listed.setIfInBounds i QX).setIfInBounds j QX) (sI (sI e oi.dst r) oj.dst q) Hj->KT P ops cls Q (fuel+1) (listed.setIfInBounds j QX) (sI e oj.dst q) Hj:=λq Hj hF' hHj hAj=>by
   have ei:=sM (e:=e) (oi:=oj) (r:=q) h3;refine ih (listed.setIfInBounds j QX) (sI e oj.dst q) Hj hfree' (ready_mono hr<|Ne.symm hji) hF' (λG hG=>(hy G λc hc=>(hG c hc).trans<|hHj c hc).congr λx hx=>(ei x hx).symm) ?_;rw [Tm _ _ hji,yc (λd hd=>λhd'=>h2 d (by simpa using hd')<|by simpa using hd)];exact hAj
  refine ⟨oj,hoj,?_⟩;rw [hci] at hcm;generalize cls j=cj at hsj' hcm ⊢;obtain ⟨b,W⟩:=cj
  cases b with
  | false=>
   obtain ⟨q,q0,q1,q2⟩:=hsj';exact ⟨q,q0,q1,go q H hF (λ_ _=>rfl) q2⟩
  | true=>
   simp only [KS,Bool.not_true,Bool.false_or,SL,Bool.not_eq_true',Tc,decide_eq_false_iff_not] at hcm;show OpG P oj (rho e) H λr1 H1=>yj W H H1/\KT P ops cls Q (fuel+1) (listed.setIfInBounds j QX) (sI e oj.dst r1) H1;refine OpG.mono (R:=λr1 H1=>yj W H H1/\KT P ops cls Q fuel ((listed.setIfInBounds i QX).setIfInBounds j QX) (sI (sI e oi.dst r) oj.dst r1) H1) hsj' λq Hj ⟨k1,k2⟩=>⟨k1,go q Hj (λc hc=>?_) (λc hc=>k1 c (hF c hc)<|hcm c hc) k2⟩;have := k1 c (hF c hc)<|hcm c hc;rw [geq (hF c hc)] at this;exact (ges this).1
def Og (ops:Array Oper) (cls:Nat->Xc):List Nat->Array Bool->Bool
 | [],listed=>(Region.ready .any ops listed).isEmpty
 | i::l,listed=>(match ops[i]? with
  | some oi=>if (cls i).1 then Region.ready .any ops listed==[i] else (Region.ready .any ops listed).contains i&&(SW ops.size).all λj=>j==i||listed.getD j QX||(match ops[j]? with
   | some oj=>(oj.after.any λed=>Region.binds .any ed&&ed.on==i)||(oi.apart ops oj&&KS (cls i) (cls j))
   | none=>QX)
  | none=>QY)&&Og ops cls l (listed.setIfInBounds i QX)
def TX (P:Program) (ops:Array Oper) (cls:Nat->Xc):List Nat->(Env->AH->Prop)->Env->AH->Prop
 | [],K,e,H=>K e H
 | i::l,K,e,H=>∃ o,ops[i]? = QZ o/\BV P o (rho e) H (cls i) λr H'=>TX P ops cls l K (sI e o.dst r) H'
theorem FU {ops:Array Oper} {cls:Nat->Xc} {Q:Env->AH->Prop}:∀ (l:List Nat) (listed:Array Bool) (e:Env) (H:AH),Og ops cls l listed=QX->TX P ops cls l Q e H->KT P ops cls Q l.length listed e H
 | [],listed,e,H,hc,h=>⟨by simpa [Og] using hc,h⟩
 | i::l,listed,e,H,hc,h=>by
  obtain ⟨oi,hi,hs⟩:=h;simp only [Og,hi,bae] at hc;obtain ⟨hc1,hc2⟩:=hc;generalize hci:cls i=ci at hc1 hs;obtain ⟨b,F⟩:=ci
  cases b with
  | true=>
   simp only [if_true,beq_iff_eq] at hc1;refine ⟨λhn=>(by rw [hc1] at hn;cases hn),λj hj=>?_⟩;rw [hc1,List.mem_singleton] at hj;subst hj;exact ⟨oi,hi,by rw [hci];exact BV.mono (b:=(QX,F)) hs λr G hr=>FU l _ _ _ hc2 hr⟩
  | false=>
   obtain ⟨r,hF,hy,hK⟩:=hs;simp only [Bool.false_eq_true,if_false,bae,Tc,dte,SL,List.mem_range] at hc1;refine H5 hi hci l.length listed e H (λj oj hj hne hun hno=>?_) hc1.1 hF hy<|FU l _ _ _ hc2 hK;have hjs:j<ops.size:=(SX.1 hj).1;have := hc1.2 j hjs;simp only [hj,hun,Ta,beq_iff_eq,hne,false_or,Bool.false_eq_true,bae] at this;rw [hci];rcases this with h1 | h1
   ·rw [S9] at h1;obtain ⟨ed,h2,h3⟩:=h1;simp only [bae,beq_iff_eq] at h3;exact absurd h3.2<|hno ed h2 h3.1
   exact h1
theorem Dh {nt:Nat} {ops:Array Oper} {cls:Nat->Xc} {Q:Exit->Env->AH->Prop} (hd:Hy nt ops.toList=QX) (hg:ops.all (λo=>o.guard.isNone)=QX):∀ (fuel:Nat) (listed:Array Bool) (e:Env) (H:AH),KT P ops cls (Q .normal) fuel listed e H ->
  ∀ (c c0:Cx) (a:Act),c.H=H->Ext c0 c->SRel c nt e a->wpAny P .any ops (NF nt c0 Q) fuel listed a c.w
 | 0,listed,e,H,h,c,c0,a,hH,hx,hs=>⟨h.1,trivial,c,e,rfl,hx,hs,hH ▸ h.2⟩
 | fuel+1,listed,e,H,h,c,c0,a,hH,hx,hs=>by
  refine ⟨λhr=>⟨trivial,c,e,rfl,hx,hs,hH ▸ h.1 hr⟩,λi hi=>?_⟩;obtain ⟨o,ho,hst⟩:=h.2 i hi;have hm:o∈ops.toList:=by rw [Array.mem_toList_iff];exact Tp ho
  have hgn:o.guard=Q0:=by
   rw [Array.all_eq_true] at hg;obtain ⟨hlt,rfl⟩:=SX.1 ho;simpa using hg i hlt
  have hw:Region.wanted o (yielded ops a.tmps)=QX:=by simp [Region.wanted,hgn]
  unfold wpOp;simp only [ho];rw [if_pos hw];refine .inl<|hst.opG c a _ _ hH hs.heap (λx _=>hs.rho x) λv c' r hA hr' hx' hv=>?_;exact Dh hd hg fuel _ _ _ hA c' c0 _ rfl (hx.trans hx')<|hs.put o.dst (nR hd hm) hx' hr' hv
end
section
variable {P:Program} {nt b0:Nat} {Q:Exit->Env->AH->Prop} {e:Env} {H H':AH} {r:AV}
theorem T.drawX {i:Nat} {ops:Array Oper} (ord:List Nat) (cls:Nat->Xc) (hm:P.follows .mixedOrders=QX) (hg:ops.all (λo=>o.guard.isNone)=QX) (hc:(Og ops cls ord (Td ops.size QY)&&(ord.length==ops.size))=QX) (h:TX P ops cls ord (Q .normal) e H):T P nt b0 (.region i ops QX) Q e H:=by
 intro hok c c0 a hH hb hx hs;simp only [codeOk] at hok;simp only [bae,beq_iff_eq] at hc;refine wp_region_any hm ?_;have hlex:=FU ord (Td ops.size QY) e H hc.1 h;have := Dh hok hg ord.length _ e H hlex c.drew c0 a hH (hx.trans c.drew_ext) ⟨hs.size,hs.defers,λt=>(hs.rel t).ext hs.heap c.drew_ext,Cx.drew_rel hs.heap⟩;rw [hc.2] at this;exact this
variable {d:Tmp} {op:Op} {ty:TypeId} {pos:String} {af:Array Edge} {en:List (Nat×AV)} {cls:Nat->Xc} {ops:Array Oper} {i:Nat} {K:Env->AH->Prop} {l:List Nat}
theorem TX.nil (h:K e H):TX P ops cls [] K e H:=h
theorem xN (h0:ops[i]? = QZ ⟨QZ d,op,ty,pos,af,Q0⟩) (hc:cls i=(QY,[])) (hv:QE P (rho<|ai en) op r) (h:TX P ops cls l K (ai ((d,r)::en)) H):TX P ops cls (i::l) K (ai en) H:=
 ⟨_,h0,by rw [hc];exact ⟨r,λ_ h=>(by cases h),λG _=>hv _ rfl G,h⟩⟩
theorem xR (F:List Nat) (h0:ops[i]? = QZ ⟨QZ d,op,ty,pos,af,Q0⟩) (hc:cls i=(QY,F)) (hb:F.all (λb=>Nat.blt b H.length)=QX) (hv:∀ G,agr F G H->EvA P (rho<|ai en) op G r G) (h:TX P ops cls l K (ai ((d,r)::en)) H):TX P ops cls (i::l) K (ai en) H:=
 ⟨_,h0,by rw [hc];exact ⟨r,λb hm=>nlb<|SL.1 hb b hm,λG hG=>hv G hG _ rfl,h⟩⟩
theorem xT {W:List Nat} {o:Oper} {R:AV->AH->Prop} {e:Env} (h0:ops[i]? = QZ o) (hc:cls i=(QX,W)) (hv:OpG P o (rho e) H R) (hk:∀ r G,R r G->yj W H G/\TX P ops cls l K (sI e o.dst r) G):TX P ops cls (i::l) K e H:=by
 refine ⟨o,h0,?_⟩;rw [hc];exact OpG.mono (R':=λr H'=>yj W H H'/\TX P ops cls l K (sI e o.dst r) H') hv hk
theorem xA {W:List Nat} (h0:ops[i]? = QZ ⟨QZ d,op,ty,pos,af,Q0⟩) (hc:cls i=(QX,W)) (hv:EvA P (rho<|ai en) op H r H') (hk:yj W H H') (h:TX P ops cls l K (ai ((d,r)::en)) H'):TX P ops cls (i::l) K (ai en) H:=
 xT h0 hc (QC.opG<|hv ⟨QZ d,op,ty,pos,af,Q0⟩ rfl) λr' G hG=>by obtain ⟨e1,e2⟩:=hG;subst e1 e2;exact ⟨hk,h⟩
theorem xV {W:List Nat} (h0:ops[i]? = QZ ⟨Q0,op,ty,pos,af,Q0⟩) (hc:cls i=(QX,W)) (hv:EvA P (rho<|ai en) op H r H') (hk:yj W H H') (h:TX P ops cls l K (ai en) H'):TX P ops cls (i::l) K (ai en) H:=
 xT h0 hc (QC.opG<|hv ⟨Q0,op,ty,pos,af,Q0⟩ rfl) λr' G hG=>by obtain ⟨e1,e2⟩:=hG;subst e1 e2;exact ⟨hk,h⟩
end
def EqS (a b:AV):Prop:=∀ (w:World) (fz:Nat->Prop) (v:Value),FRel w fz a v->FRel w fz b v
def Eu:List AV->List AV->Prop
 | [],[]=>True
 | a::r,b::q=>EqS a b/\Eu r q
 | _,_=>False
theorem EqS.refl (a:AV):EqS a a:=λ_ _ _ h=>h
theorem Eu.refl:∀ r:List AV,Eu r r
 | []=>trivial
 | a::r=>⟨EqS.refl a,Eu.refl r⟩
theorem Eu.len:∀ {r q:List AV},Eu r q->r.length=q.length
 | [],[],_=>rfl
 | a::r,b::q,h=>by rw [llc,llc,Eu.len h.2]
 | [],_::_,h=>h.elim
 | _::_,[],h=>h.elim
theorem Eu.get:∀ {r q:List AV},Eu r q->∀ {j:Nat} {b:AV},q[j]? = QZ b->∃ a,r[j]? = QZ a/\EqS a b
 | [],[],_,j,b,h=>by simp at h
 | a::r,b::q,h,0,c,hc=>by
  simp only [SN,sie] at hc;subst hc;exact ⟨a,rfl,h.1⟩
 | a::r,b::q,h,j+1,c,hc=>by
  simp only [Te] at hc ⊢;exact h.2.get hc
 | [],_::_,h,_,_,_=>h.elim
 | _::_,[],h,_,_,_=>h.elim
theorem EqS.sl {n:Nat} {row row':Nat->List AV} (he:∀ i,i<n->Eu (row i) (row' i)):EqS (.sl n row) (.sl n row'):=λw fz v h=>by
 cases h with
 | @sl _ cap s g o _ a us hc hm ha hs hu h1 h3=>
  refine .sl (s:=s) (g:=g) (o:=o) us hc hm ha (λi hi=>?_) (λi j b hi hj=>?_) (λi j b hi hj=>?_) λi j b hi hj=>?_
  ·rw [<- (he i hi).len];exact hs i hi
  ·obtain ⟨a',ha',_⟩:=(he i hi).get hj;exact hu i j a' hi ha'
  ·obtain ⟨a',ha',_⟩:=(he i hi).get hj;exact h1 i j a' hi ha'
  obtain ⟨a',ha',e⟩:=(he i hi).get hj;exact e _ _ _<|h3 i j a' hi ha'
theorem EqS.fp {row row':List AV} (he:Eu row row') {j:Nat}:EqS (.fp row j) (.fp row' j):=λw fz v h=>by
 cases h with
 | fp us hg hlt hu h1 h3=>
  refine .fp us hg hlt (λj b hj=>?_) (λj b hj=>?_) λj b hj=>?_
  ·obtain ⟨a',ha',_⟩:=he.get hj;exact hu j a' ha'
  ·obtain ⟨a',ha',_⟩:=he.get hj;exact h1 j a' ha'
  obtain ⟨a',ha',e⟩:=he.get hj;exact e _ _ _<|h3 j a' ha'
theorem MH {c:Cx} {n:Nat} {row:Nat->List AV} {b:AV} {v:Value} (he:EqS (.sl n row) b) (h:c.rel (.sl n row) v):c.rel b v := .fr<|he _ _ _<|uB h
theorem rM {c:Cx} {row row':List AV} {v:Value} {j:Nat} (he:Eu row row') (h:c.rel (.fp row j) v):c.rel (.fp row' j) v := .fr<|EqS.fp he _ _ _<|uC h
theorem EqS.eL {α β:Type} [Inhabited α] [Inhabited β] {f:α->List AV} {g:β->List AV} {i:α->β} (h:∀ x,Eu (f x)<|g<|i x) (l:List α):EqS (eL f l) (eL g<|l.map i):=by
 unfold Go.Proofs.YtabfkkjdfhbngaaGreatDoor.eL;rw [llm];refine .sl λk hk=>?_;have e1:l.getD k QW=l[k]:=by rw [gdq,geq hk];rfl
 have e2:(l.map i).getD k QW=i l[k]:=by rw [gdq,List.getElem?_map,geq hk];rfl
 rw [e1,e2];exact h _
theorem yX {α β:Type} [Inhabited α] [Inhabited β] {f:α->List AV} {g:β->List AV} {i:α->β} {c:Cx} {v:Value} (h:∀ x,Eu (f x)<|g<|i x) {l:List α} (hv:c.rel (eL f l) v):c.rel (eL g<|l.map i) v:=MH (EqS.eL h l) hv
theorem row_in {α:Type} [Inhabited α] {f:α->List AV} {r:List α->Nat->List AV} (h0:∀ x l,r (x::l) 0=f x) (h1:∀ x l i,r (x::l) (i+1)=r l i):∀ (l:List α) (i:Nat),i<l.length->r l i=f (l.getD i QW)
 | [],i,h=>by simp at h
 | x::l,0,_=>h0 x l
 | x::l,i+1,h=>by
  rw [h1,row_in h0 h1 l i (by simpa using h)]
  rfl
theorem EqS.slr {α:Type} [Inhabited α] {f:α->List AV} {r:List α->Nat->List AV} (h0:∀ x l,r (x::l) 0=f x) (h1:∀ x l i,r (x::l) (i+1)=r l i) (l:List α):EqS (.sl l.length<|r l) (Go.Proofs.YtabfkkjdfhbngaaGreatDoor.eL f l):=
 .sl λi hi=>by rw [row_in h0 h1 l i hi];exact Eu.refl _
theorem EqS.slr' {α:Type} [Inhabited α] {f:α->List AV} {r:List α->Nat->List AV} (h0:∀ x l,r (x::l) 0=f x) (h1:∀ x l i,r (x::l) (i+1)=r l i) (l:List α):EqS (Go.Proofs.YtabfkkjdfhbngaaGreatDoor.eL f l) (.sl l.length<|r l):=
 .sl λi hi=>by rw [row_in h0 h1 l i hi];exact Eu.refl _
section
variable {P:Program} {ρ:Operand->AV} {x:Operand} {t e:TypeId} {ag:Bool}
theorem QE.slG {α:Type} [Inhabited α] {c:α->List AV} (l:List α) {n w:Nat} {row:List AV} (hu:P.underlying t=QZ (.array n e)) (ty:TyF P e ag w) (hx:ρ x = .fp row 0) (hl:l.length=n) (hn:(SK n 16777216)=QX) (hr:row.length=n*w/\∀ i,i<n->(row.drop<|i*w).take w=c (l.getD i QW)) :
  QE P ρ (.slice t x Q0 Q0 Q0) (eL c l):=by
 have hn':=nlb hn;have key:QE P ρ (.slice t x Q0 Q0 Q0) (.sl n λi=>(row.drop<|0+i*w).take w) := .mk λK hK=>by
  show xI P ρ (.slice t x Q0 Q0 Q0) K;simp only [xI,wO,hu,hx,Option.map_none];show (0<=(0:Int)/\(0:Int)<=(n:Int)/\(n:Int)<=(n:Int)/\0+n*P.cellsOf e<=row.length/\(P.info? e).isSome=QX/\n<=9223372036854775807)/\_;rw [ty.cells];exact ⟨⟨by omega,by omega,by omega,by omega,ty.info,by omega⟩,hK⟩
 refine key.res λC v hv=>?_;unfold Go.Proofs.YtabfkkjdfhbngaaGreatDoor.eL;rw [hl];exact EM (λi hi=>by rw [Ti];exact hr.2 i hi) hv
end
open Go.RowKit
def Bh:List BA:=[(⟨#[112,111]⟩:BA),(⟨#[108,111,99]⟩:BA),(⟨#[101,120,116]⟩:BA),(⟨#[114,102]⟩:BA),(⟨#[99,111]⟩:BA),(⟨#[102,114]⟩:BA),(⟨#[102,101,110,99,101]⟩:BA),(⟨#[119,114]⟩:BA),(⟨#[119,119]⟩:BA),(⟨#[105,100]⟩:BA)]
def Qb:List AV:=[St (⟨#[112,111]⟩:BA),St (⟨#[108,111,99]⟩:BA),St (⟨#[101,120,116]⟩:BA),St (⟨#[114,102]⟩:BA),St (⟨#[99,111]⟩:BA),St (⟨#[102,114]⟩:BA),St (⟨#[102,101,110,99,101]⟩:BA),St (⟨#[119,114]⟩:BA),St (⟨#[119,119]⟩:BA),St (⟨#[105,100]⟩:BA)]
theorem KU:Qb.length=10*1/\∀ i,i<10->(Qb.drop (i*1)).take 1=cS (Bh.getD i QW):=⟨rfl,λi h=>by
 match i,h with
 | 0,_=>rfl
 | 1,_=>rfl
 | 2,_=>rfl
 | 3,_=>rfl
 | 4,_=>rfl
 | 5,_=>rfl
 | 6,_=>rfl
 | 7,_=>rfl
 | 8,_=>rfl
 | 9,_=>rfl
 | q+10,h=>exact absurd h (Nat.not_lt.2 (Nat.le_add_left 10 q))⟩
structure QH where
 Op:Int
 Loc:Int
 Reg:Int
 Val:Int
instance:Inhabited QH:=⟨⟨QW,QW,QW,QW⟩⟩
def QH.c (x:QH):List AV:=[I x.Op,I x.Loc,I x.Reg,I x.Val]
theorem QH.len (x:QH):(QH.c x).length=4:=rfl
theorem QH.isF (x:QH):(QH.c x).all (isF 9)=QX:=rfl
structure QI where
 From:LI
 Order:LL
instance:Inhabited QI:=⟨⟨QW,QW⟩⟩
def QI.c (x:QI):List AV:=[eL cI x.From,eL (cL cI) x.Order]
theorem QI.len (x:QI):(QI.c x).length=2:=rfl
theorem QI.isF (x:QI):(QI.c x).all (isF 9)=QX:=rfl
structure ZTv where
 p:List (List QH)
 x:QI
 number:LL
instance:Inhabited ZTv:=⟨⟨QW,QW,QW⟩⟩
def ZTv.c (x:ZTv):List AV:=[eL (cL QH.c) x.p,eL cI x.x.From,eL (cL cI) x.x.Order,eL (cL cI) x.number]
theorem ZTv.len (x:ZTv):(ZTv.c x).length=4:=rfl
theorem ZTv.isF (x:ZTv):(ZTv.c x).all (isF 9)=QX:=rfl
structure QJ where
 Thread:Int
 Index:Int
 Loc:Int
 Reads:Bool
 aH:Bool
instance:Inhabited QJ:=⟨⟨QW,QW,QW,QW,QW⟩⟩
def QJ.c (x:QJ):List AV:=[I x.Thread,I x.Index,I x.Loc,Bo x.Reads,Bo x.aH]
theorem QJ.len (x:QJ):(QJ.c x).length=5:=rfl
theorem QJ.isF (x:QJ):(QJ.c x).all (isF 9)=QX:=rfl
structure aA where
 p:List (List QH)
 x:QI
 events:List QJ
 values:LI
 busy:List Bool
structure XV_impl_valuer where
 p:List (List QH)
 x:QI
 events:List QJ
instance:Inhabited XV_impl_valuer:=⟨⟨QW,QW,QW⟩⟩
def XV_impl_valuer.c (x:XV_impl_valuer):List AV:=[eL (cL QH.c) x.p,eL cI x.x.From,eL (cL cI) x.x.Order,eL QJ.c x.events]
theorem XV_impl_valuer.len (x:XV_impl_valuer):(XV_impl_valuer.c x).length=4:=rfl
theorem XV_impl_valuer.isF (x:XV_impl_valuer):(XV_impl_valuer.c x).all (isF 9)=QX:=rfl
inductive ZTE where
 | mk (Op:Int) (Name:BA) (Kids:List ZTE)
structure aa where
 Op:Int
 Name:BA
 Kids:List ZTE
instance:Inhabited ZTE:=⟨.mk QW QW []⟩
instance:Inhabited aa:=⟨⟨QW,QW,[]⟩⟩
def ZTE.out:ZTE->aa
 | .mk a0 a1 a2=>⟨a0,a1,a2⟩
def aa.inn (x:aa):ZTE := .mk x.Op x.Name x.Kids
mutual
def ZTE.c:ZTE->List AV
 | .mk a0 a1 a2=>[I a0,St a1,.sl a2.length (ZTE.r a2)]
def ZTE.r:List ZTE->Nat->List AV
 | []=>λ_=>[.nil,.nil,.nil]
 | x::l=>λi=>match i with
  | 0=>ZTE.c x
  | i+1=>ZTE.r l i
end
theorem ZTE.len (x:ZTE):(ZTE.c x).length=3:=by
 cases x;simp only [ZTE.c];rfl
theorem ZTE.isF (x:ZTE):(ZTE.c x).all (isF 9)=QX:=by
 cases x;simp only [ZTE.c];rfl
theorem ZTE.r0 (x:ZTE) (l:List ZTE):ZTE.r (x::l) 0=ZTE.c x:=by simp only [ZTE.r]
theorem ZTE.r1 (x:ZTE) (l:List ZTE) (i:Nat):ZTE.r (x::l) (i+1)=ZTE.r l i:=by simp only [ZTE.r]
def aa.c (x:aa):List AV:=[I x.Op,St x.Name,eL ZTE.c x.Kids]
theorem aa.len (x:aa):(aa.c x).length=3:=rfl
theorem aa.isF (x:aa):(aa.c x).all (isF 9)=QX:=rfl
theorem ZTE.out_c (x:ZTE):Eu (ZTE.c x) (aa.c x.out):=by
 cases x;simp only [ZTE.c];exact ⟨EqS.refl _,⟨EqS.refl _,⟨EqS.slr ZTE.r0 ZTE.r1 _,trivial⟩⟩⟩
theorem aa.inn_c (x:aa):Eu (aa.c x) (ZTE.c x.inn):=by
 cases x;simp only [aa.inn,ZTE.c];exact ⟨EqS.refl _,⟨EqS.refl _,⟨EqS.slr' ZTE.r0 ZTE.r1 _,trivial⟩⟩⟩
structure ah where
 Kind:Int
 Expr:aa
instance:Inhabited ah:=⟨⟨QW,QW⟩⟩
def ah.c (x:ah):List AV:=[I x.Kind,I x.Expr.Op,St x.Expr.Name,eL ZTE.c x.Expr.Kids]
theorem ah.len (x:ah):(ah.c x).length=4:=rfl
theorem ah.isF (x:ah):(ah.c x).all (isF 9)=QX:=rfl
structure Z3i where
 x0:Int
 x1:Int
 x2:Int
instance:Inhabited Z3i:=⟨⟨QW,QW,QW⟩⟩
def Z3i.c (x:Z3i):List AV:=[I x.x0,I x.x1,I x.x2]
theorem Z3i.len (x:Z3i):(Z3i.c x).length=3:=rfl
theorem Z3i.isF (x:Z3i):(Z3i.c x).all (isF 9)=QX:=rfl
def Z3i.get (a:Z3i) (q:Int):Int:=if q=0 then a.x0 else if q=1 then a.x1 else a.x2
def Z3i.set (a:Z3i) (q:Int) (v:Int):Z3i:=if q=0 then ⟨v,a.x1,a.x2⟩ else if q=1 then ⟨a.x0,v,a.x2⟩ else ⟨a.x0,a.x1,v⟩
structure ae where
 b:LI
 p:Int
instance:Inhabited ae:=⟨⟨QW,QW⟩⟩
def ae.c (x:ae):List AV:=[eL cY x.b,I x.p]
theorem ae.len (x:ae):(ae.c x).length=2:=rfl
theorem ae.isF (x:ae):(ae.c x).all (isF 9)=QX:=rfl
structure bN where
 rest:BA
 failed:Bool
instance:Inhabited bN:=⟨⟨QW,QW⟩⟩
def bN.c (x:bN):List AV:=[St x.rest,Bo x.failed]
theorem bN.len (x:bN):(bN.c x).length=2:=rfl
theorem bN.isF (x:bN):(bN.c x).all (isF 9)=QX:=rfl
structure Z3b where
 x0:Int
 x1:Int
 x2:Int
instance:Inhabited Z3b:=⟨⟨QW,QW,QW⟩⟩
def Z3b.c (x:Z3b):List AV:=[Y x.x0,Y x.x1,Y x.x2]
theorem Z3b.len (x:Z3b):(Z3b.c x).length=3:=rfl
theorem Z3b.isF (x:Z3b):(Z3b.c x).all (isF 9)=QX:=rfl
def Z3b.get (a:Z3b) (q:Int):Int:=if q=0 then a.x0 else if q=1 then a.x1 else a.x2
def Z3b.set (a:Z3b) (q:Int) (v:Int):Z3b:=if q=0 then ⟨v,a.x1,a.x2⟩ else if q=1 then ⟨a.x0,v,a.x2⟩ else ⟨a.x0,a.x1,v⟩
structure Z33 where
 x0:Z3b
 x1:Z3b
 x2:Z3b
instance:Inhabited Z33:=⟨⟨QW,QW,QW⟩⟩
def Z33.c (x:Z33):List AV:=[Y x.x0.x0,Y x.x0.x1,Y x.x0.x2,Y x.x1.x0,Y x.x1.x1,Y x.x1.x2,Y x.x2.x0,Y x.x2.x1,Y x.x2.x2]
theorem Z33.len (x:Z33):(Z33.c x).length=9:=rfl
theorem Z33.isF (x:Z33):(Z33.c x).all (isF 9)=QX:=rfl
def Z33.get (a:Z33) (q:Int):Z3b:=if q=0 then a.x0 else if q=1 then a.x1 else a.x2
def Z33.set (a:Z33) (q:Int) (v:Z3b):Z33:=if q=0 then ⟨v,a.x1,a.x2⟩ else if q=1 then ⟨a.x0,v,a.x2⟩ else ⟨a.x0,a.x1,v⟩
structure ZVa where
 p:List (List QH)
 pc:Z3b
 reg:Z33
 mem:Z3b
instance:Inhabited ZVa:=⟨⟨QW,QW,QW,QW⟩⟩
def ZVa.c (x:ZVa):List AV:=[eL (cL QH.c) x.p,Y x.pc.x0,Y x.pc.x1,Y x.pc.x2,Y x.reg.x0.x0,Y x.reg.x0.x1,Y x.reg.x0.x2,Y x.reg.x1.x0,Y x.reg.x1.x1,Y x.reg.x1.x2,Y x.reg.x2.x0,Y x.reg.x2.x1,Y x.reg.x2.x2,Y x.mem.x0,Y x.mem.x1,Y x.mem.x2]
theorem ZVa.len (x:ZVa):(ZVa.c x).length=16:=rfl
theorem ZVa.isF (x:ZVa):(ZVa.c x).all (isF 9)=QX:=rfl
structure ZSq where
 values:ZVa
instance:Inhabited ZSq:=⟨⟨QW⟩⟩
def ZSq.c (x:ZSq):List AV:=[eL (cL QH.c) x.values.p,Y x.values.pc.x0,Y x.values.pc.x1,Y x.values.pc.x2,Y x.values.reg.x0.x0,Y x.values.reg.x0.x1,Y x.values.reg.x0.x2,Y x.values.reg.x1.x0,Y x.values.reg.x1.x1,Y x.values.reg.x1.x2,Y x.values.reg.x2.x0,Y x.values.reg.x2.x1,Y x.values.reg.x2.x2,Y x.values.mem.x0,Y x.values.mem.x1,Y x.values.mem.x2]
theorem ZSq.len (x:ZSq):(ZSq.c x).length=16:=rfl
theorem ZSq.isF (x:ZSq):(ZSq.c x).all (isF 9)=QX:=rfl
structure Xutf8_acceptRange where
 lo:Int
 hi:Int
instance:Inhabited Xutf8_acceptRange:=⟨⟨QW,QW⟩⟩
def Xutf8_acceptRange.c (x:Xutf8_acceptRange):List AV:=[Y x.lo,Y x.hi]
theorem Xutf8_acceptRange.len (x:Xutf8_acceptRange):(Xutf8_acceptRange.c x).length=2:=rfl
theorem Xutf8_acceptRange.isF (x:Xutf8_acceptRange):(Xutf8_acceptRange.c x).all (isF 9)=QX:=rfl
def uR (l:List BA) (sep:BA):BA:=⟨(Lib.join (l.map (·.data.toList)) sep.data.toList).toArray⟩
def rN (l:List BA) (sep:BA):Option BA:=
 gd (Q3<|l.length<=140737488355328/\(uR l sep).size<=140737488355328)<|QZ (uR l sep)
def Blk (w:World) (g:Nat) (t:TypeId) (cs:Array Value):Prop:=w.heap[g]? = QZ (.cells cs t (0,0))
section
variable {w w':World} {g:Nat} {t:TypeId} {cs:Array Value}
theorem Blk.lt (h:Blk w g t cs):g<w.heap.size:=by
 rcases SR g w.heap.size with hlt | hge
 ·exact hlt
 unfold Blk at h;rw [S5 hge] at h;cases h
theorem Blk.cell (h:Blk w g t cs) (i:Nat):w.cell? ⟨g,i,Q0⟩=cs[i]? := cell_of_row w g i cs t (0,0) h
theorem Blk.frozen (h:Blk w g t cs) (i:Nat):w.frozen? ⟨g,i,Q0⟩=QY:=by
 unfold Blk at h;simp [World.frozen?,h]
theorem Blk.new (w:World) (t:TypeId) (cs:Array Value):Blk (w.alloc<|.cells cs t) w.heap.size t cs:=heap_alloc_new w _
theorem Blk.at_ {n:Nat} (h:w.heap.size=n):Blk (w.alloc<|.cells cs t) n t cs:=h ▸ Blk.new _ _ _
theorem Blk.alloc (h:Blk w g t cs) (o:Obj):Blk (w.alloc o) g t cs:=(Below.heap_alloc w o g h.lt).trans h
theorem Blk.set_ (h:Blk w g t cs) (i:Nat) (u:Value):Blk (w.setCell ⟨g,i,Q0⟩ u) g t (cs.setIfInBounds i u):=by
 unfold Blk at h ⊢;simp [World.setCell,Array.getElem?_modify,h]
theorem Blk.below {B:Nat} (h:Blk w g t cs) (hb:Below B w w') (hg:g<B):Blk w' g t cs:=(hb.block g hg).trans h
theorem Blk.inj {t':TypeId} {cs':Array Value} (h:Blk w g t cs) (h':Blk w g t' cs'):t=t'/\cs=cs':=by
 unfold Blk at h h';rw [h] at h';injection h' with h';injection h' with h1 h2;exact ⟨h2,h1⟩
end
structure Fr (lo hi:Nat) (w w':World):Prop where
 os:w'.os=w.os
 tape:w'.tape=w.tape
 output:w'.output=w.output
 size:w.heap.size<=w'.heap.size
 block:∀ k,k<w.heap.size->(k<lo\/hi<=k)->w'.heap[k]? = w.heap[k]?
section
variable {a w w':World} {lo hi l h B:Nat}
theorem Fr.refl (lo hi:Nat) (w:World):Fr lo hi w w:=⟨rfl,rfl,rfl,Nat.le_refl _,λ_ _ _=>rfl⟩
theorem Fr.trans {b c:World} (h:Fr lo hi a b) (k:Fr lo hi b c):Fr lo hi a c:=
 ⟨k.os.trans h.os,k.tape.trans h.tape,k.output.trans h.output,Nat.le_trans h.size k.size,λi hi hn=>(k.block i (Nat.lt_of_lt_of_le hi h.size) hn).trans<|h.block i hi hn⟩
theorem Fr.mono (f:Fr lo hi w w') (h1:l<=lo) (h2:hi<=h):Fr l h w w':=
 ⟨f.os,f.tape,f.output,f.size,λk hk hn=>f.block k hk<|by omega⟩
theorem Fr.alloc (f:Fr lo hi a w) (o:Obj):Fr lo hi a (w.alloc o):=
 f.trans ⟨rfl,rfl,rfl,by simp,λk hk _=>Below.heap_alloc _ _ _ hk⟩
theorem Blk.fr {g:Nat} {t:TypeId} {cs:Array Value} (b:Blk w g t cs) (f:Fr lo hi w w') (hg:g<lo\/hi<=g):Blk w' g t cs:=(f.block g b.lt hg).trans b
theorem Fr.cell (f:Fr lo hi w w') {p:Addr} (hp:p.block<w.heap.size) (hn:p.block<lo\/hi<=p.block):w'.cell? p=w.cell? p:=World.cell?_of_block (w:=w)<|f.block p.block hp hn
end
section
variable {α:Type} (f:α->List Value) (s:Nat)
def Sl (w:World) (lo hi:Nat) (v:Value) (xs:List α):Prop:=
 ∃ A c,v = .slice A xs.length c/\xs.length<=c/\c<=9223372036854775807/\(0<xs.length->∃ b o,A=QZ ⟨b,o,Q0⟩/\lo<=b/\b<hi/\b<w.heap.size /\
  ∀ (k:Nat) (h:k<xs.length) (j:Nat) (u:Value),(f xs[k])[j]? = QZ u->w.cell? ⟨b,o+k*s+j,Q0⟩=QZ u)
def Ow (t:TypeId) (w:World) (lo hi:Nat) (v:Value) (xs:List α):Prop:=
 ∃ A c,v = .slice A xs.length c/\xs.length<=c/\c<=9223372036854775807/\(0<xs.length->∃ g cur,A=QZ ⟨g,0,Q0⟩/\lo<=g/\g<hi/\Blk w g t cur/\cur.size=c*s /\
  ∀ (k:Nat) (h:k<xs.length) (j:Nat) (u:Value),(f xs[k])[j]? = QZ u->cur[k*s+j]? = QZ u)
end
section
variable {α:Type} {f:α->List Value} {s:Nat} {t:TypeId} {w w':World} {lo hi l h B:Nat} {v:Value} {xs:List α}
theorem Sl.nil_ (c:Nat) (A:Option Addr) (hc:c<=9223372036854775807):Sl f s w lo hi (.slice A 0 c) []:=⟨A,c,rfl,by simp,hc,λh=>absurd h<|by simp⟩
theorem Ow.nil_ (c:Nat) (A:Option Addr) (hc:c<=9223372036854775807):Ow f s t w lo hi (.slice A 0 c) []:=⟨A,c,rfl,by simp,hc,λh=>absurd h<|by simp⟩
theorem Sl.mono (x:Sl f s w lo hi v xs) (h1:l<=lo) (h2:hi<=h):Sl f s w l h v xs:=by
 obtain ⟨A,c,e,hc,hm,r⟩:=x;refine ⟨A,c,e,hc,hm,λhn=>?_⟩;obtain ⟨b,o,e2,hb1,hb2,hb3,hx⟩:=r hn;exact ⟨b,o,e2,by omega,by omega,hb3,hx⟩
theorem Ow.mono (x:Ow f s t w lo hi v xs) (h1:l<=lo) (h2:hi<=h):Ow f s t w l h v xs:=by
 obtain ⟨A,c,e,hc,hm,r⟩:=x;refine ⟨A,c,e,hc,hm,λhn=>?_⟩;obtain ⟨b,o,e2,hb1,hb2,hx⟩:=r hn;exact ⟨b,o,e2,by omega,by omega,hx⟩
theorem Sl.keep (x:Sl f s w lo hi v xs) (hs:w.heap.size<=w'.heap.size) (hk:∀ k,k<w.heap.size->lo<=k->k<hi->w'.heap[k]? = w.heap[k]?):Sl f s w' lo hi v xs:=by
 obtain ⟨A,c,e,hc,hm,r⟩:=x;refine ⟨A,c,e,hc,hm,λhn=>?_⟩;obtain ⟨b,o,e2,hb1,hb2,hb3,hx⟩:=r hn;refine ⟨b,o,e2,hb1,hb2,by omega,λk hk' j u hu=>?_⟩;rw [World.cell?_of_block (hk b hb3 hb1 hb2)];exact hx k hk' j u hu
theorem Ow.keep (x:Ow f s t w lo hi v xs) (hk:∀ k,k<w.heap.size->lo<=k->k<hi->w'.heap[k]? = w.heap[k]?):Ow f s t w' lo hi v xs:=by
 obtain ⟨A,c,e,hc,hm,r⟩:=x;refine ⟨A,c,e,hc,hm,λhn=>?_⟩;obtain ⟨g,cur,e2,hb1,hb2,hb3,hx⟩:=r hn;exact ⟨g,cur,e2,hb1,hb2,(hk g hb3.lt hb1 hb2).trans hb3,hx⟩
theorem Sl.fr (x:Sl f s w lo hi v xs) (b:Fr l h w w') (hB:hi<=l\/h<=lo):Sl f s w' lo hi v xs:=x.keep b.size λk hk h1 h2=>b.block k hk (by omega)
theorem Ow.fr (x:Ow f s t w lo hi v xs) (b:Fr l h w w') (hB:hi<=l\/h<=lo):Ow f s t w' lo hi v xs:=x.keep λk hk h1 h2=>b.block k hk (by omega)
theorem Ow.sl (x:Ow f s t w lo hi v xs):Sl f s w lo hi v xs:=by
 obtain ⟨A,c,e,hc,hm,r⟩:=x;refine ⟨A,c,e,hc,hm,λhn=>?_⟩;obtain ⟨g,cur,e2,hb1,hb2,hb3,_,hx⟩:=r hn;refine ⟨g,0,e2,hb1,hb2,hb3.lt,λk hk j u hu=>?_⟩;rw [Ti,hb3.cell];exact hx k hk j u hu
end
def Oh (v:Value):List Value:=[v]
def H6 (n:Int):List Value:=[.int .u8 n]
section
variable {α:Type} {g:α->Value} {f:α->List Value} {s:Nat} {w:World} {lo hi:Nat} {v:Value}
theorem Sl.one_ {xs:List α} (hf:∀ x,f x=[g x]) (x:Sl f 1 w lo hi v xs):∃ A c,v = .slice A xs.length c/\xs.length<=c/\c<=9223372036854775807/\(0<xs.length->∃ b o,A=QZ ⟨b,o,Q0⟩/\lo<=b/\b<hi/\b<w.heap.size /\
  ∀ (k:Nat) (h:k<xs.length),w.cell? ⟨b,o+k,Q0⟩=QZ (g xs[k])):=by
 obtain ⟨A,c,e,hc,hm,r⟩:=x;refine ⟨A,c,e,hc,hm,λhn=>?_⟩;obtain ⟨b,o,e2,hb1,hb2,hb3,hx⟩:=r hn;refine ⟨b,o,e2,hb1,hb2,hb3,λk hk=>?_⟩;have := hx k hk 0 (g xs[k]) (by rw [hf];rfl);simpa using this
theorem Sl.vals {xs:List Value} (x:Sl Oh 1 w lo hi v xs):∃ A c,v = .slice A xs.length c/\xs.length<=c/\c<=9223372036854775807/\(0<xs.length->∃ b o,A=QZ ⟨b,o,Q0⟩/\lo<=b/\b<hi/\b<w.heap.size /\
 ∀ (k:Nat) (h:k<xs.length),w.cell? ⟨b,o+k,Q0⟩=QZ xs[k]):=Sl.one_ (g:=λv=>v) (λ_=>rfl) x
end
structure Ins where
 op:Int
 loc:Int
 reg:Int
 val:Int
 deriving DecidableEq,Inhabited
def Ins.v (x:Ins):Value := .agg #[.int .i64 x.op,.int .i64 x.loc,.int .i64 x.reg,.int .i64 x.val]
def Ins.cells (x:Ins):List Value:=[.int .i64 x.op,.int .i64 x.loc,.int .i64 x.reg,.int .i64 x.val]
def Jd (w:World) (b o:Nat) (x:Ins):Prop:=
 w.cell? ⟨b,o,Q0⟩=QZ (.int .i64 x.op)/\w.cell? ⟨b,o+1,Q0⟩=QZ (.int .i64 x.loc)/\w.cell? ⟨b,o+2,Q0⟩=QZ (.int .i64 x.reg)/\w.cell? ⟨b,o+3,Q0⟩=QZ (.int .i64 x.val)
def EN (cs:Array Value) (o:Nat) (x:Ins):Prop:=cs[o]? = QZ (.int .i64 x.op)/\cs[o+1]? = QZ (.int .i64 x.loc)/\cs[o+2]? = QZ (.int .i64 x.reg)/\cs[o+3]? = QZ (.int .i64 x.val)
def LM (cs:Array Value) (o:Nat) (x:Ins):Array Value:=(((cs.setIfInBounds o<|.int .i64 x.op).setIfInBounds (o+1)<|.int .i64 x.loc).setIfInBounds (o+2)<|.int .i64 x.reg).setIfInBounds (o+3)<|.int .i64 x.val
section
variable {w w':World} {b o p:Nat} {x y:Ins} {cs:Array Value} {t:TypeId} {g B lo hi:Nat} {v:Value} {xs:List Ins}
theorem Jd.below (h:Jd w b o x) (hb:Below B w w') (hlt:b<B):Jd w' b o x:=by
 unfold Jd at *;rw [hb.cell (by exact hlt),hb.cell (by exact hlt),hb.cell (by exact hlt),hb.cell (by exact hlt)];exact h
theorem EN.same (h:o+4<=cs.size):EN (LM cs o x) o x:=by
 unfold EN LM;refine ⟨?_,?_,?_,?_⟩ <;> simp [Array.getElem?_setIfInBounds] <;> omega
theorem EN.cells {k:Nat} (h:EN cs k x):∀ (j:Nat) (u:Value),x.cells[j]? = QZ u->cs[k+j]? = QZ u:=by
 intro j u hu
 match j,hu with
 | 0,hu=>simp [Ins.cells] at hu;subst hu;exact h.1
 | 1,hu=>simp [Ins.cells] at hu;subst hu;exact h.2.1
 | 2,hu=>simp [Ins.cells] at hu;subst hu;exact h.2.2.1
 | 3,hu=>simp [Ins.cells] at hu;subst hu;exact h.2.2.2
 | n+4,hu=>simp [Ins.cells] at hu
theorem Sl.inss (x:Sl Ins.cells 4 w lo hi v xs):∃ A c,v = .slice A xs.length c/\xs.length<=c/\c<=9223372036854775807/\(0<xs.length->∃ b o,A=QZ ⟨b,o,Q0⟩/\lo<=b/\b<hi/\b<w.heap.size /\
  ∀ (k:Nat) (h:k<xs.length),Jd w b (o+k*4) xs[k]):=by
 obtain ⟨A,c,e,hc,hm,r⟩:=x;refine ⟨A,c,e,hc,hm,λhn=>?_⟩;obtain ⟨b,o,e2,hb1,hb2,hb3,hx⟩:=r hn;exact ⟨b,o,e2,hb1,hb2,hb3,λk hk=>⟨hx k hk 0 _ rfl,hx k hk 1 _ rfl,hx k hk 2 _ rfl,hx k hk 3 _ rfl⟩⟩
end
section
variable {α:Type} (f:α->List Value) (s:Nat)
def Ag (w:World) (lo hi:Nat) (v:Value) (p:List<|List α):Prop:=
 ∃ vs:List Value,Sl Oh 1 w lo hi v vs/\vs.length=p.length/\∀ (k:Nat) (h:k<vs.length) (h':k<p.length),Sl f s w lo hi vs[k] p[k]
def H7 (to ti:TypeId) (w:World) (lo hi:Nat) (v:Value) (p:List<|List α):Prop:=
 ∃ vs:List Value,Ow Oh 1 to w lo hi v vs/\vs.length=p.length/\(∀ (k:Nat) (h:k<vs.length) (h':k<p.length),Ow f s ti w lo hi vs[k] p[k]) /\
  ∀ (i j:Nat) (hi:i<vs.length) (hj:j<vs.length) (hi':i<p.length) (hj':j<p.length),i≠j->0<p[i].length->0<p[j].length->vs[i].ownBlock≠vs[j].ownBlock
end
section
variable {α:Type} {f:α->List Value} {s:Nat} {to ti:TypeId} {w w':World} {lo hi l h B:Nat} {v:Value} {p:List (List α)}
theorem Ag.keep (x:Ag f s w lo hi v p) (hs:w.heap.size<=w'.heap.size) (hk:∀ k,k<w.heap.size->lo<=k->k<hi->w'.heap[k]? = w.heap[k]?):Ag f s w' lo hi v p:=by
 obtain ⟨vs,h1,h2,h3⟩:=x;exact ⟨vs,h1.keep hs hk,h2,λk a b=>(h3 k a b).keep hs hk⟩
theorem H7.keep (x:H7 f s to ti w lo hi v p) (hk:∀ k,k<w.heap.size->lo<=k->k<hi->w'.heap[k]? = w.heap[k]?):H7 f s to ti w' lo hi v p:=by
 obtain ⟨vs,h1,h2,h3,h4⟩:=x;exact ⟨vs,h1.keep hk,h2,λk a b=>(h3 k a b).keep hk,h4⟩
theorem Ag.mono (x:Ag f s w lo hi v p) (h1:l<=lo) (h2:hi<=h):Ag f s w l h v p:=by
 obtain ⟨vs,g1,g2,g3⟩:=x;exact ⟨vs,g1.mono h1 h2,g2,λk a b=>(g3 k a b).mono h1 h2⟩
theorem H7.mono (x:H7 f s to ti w lo hi v p) (h1:l<=lo) (h2:hi<=h):H7 f s to ti w l h v p:=by
 obtain ⟨vs,g1,g2,g3,g4⟩:=x;exact ⟨vs,g1.mono h1 h2,g2,λk a b=>(g3 k a b).mono h1 h2,g4⟩
theorem Ag.below (x:Ag f s w lo hi v p) (b:Below B w w') (hB:hi<=B):Ag f s w' lo hi v p:=x.keep b.size λk _ _ h2=>b.block k (by omega)
theorem Ag.fr (x:Ag f s w lo hi v p) (b:Fr l h w w') (hB:hi<=l\/h<=lo):Ag f s w' lo hi v p:=x.keep b.size λk hk h1 h2=>b.block k hk (by omega)
theorem H7.fr (x:H7 f s to ti w lo hi v p) (b:Fr l h w w') (hB:hi<=l\/h<=lo):H7 f s to ti w' lo hi v p:=x.keep λk hk h1 h2=>b.block k hk (by omega)
theorem H7.sl (x:H7 f s to ti w lo hi v p):Ag f s w lo hi v p:=by
 obtain ⟨vs,h1,h2,h3,_⟩:=x;exact ⟨vs,h1.sl,h2,λk a b=>(h3 k a b).sl⟩
end
theorem tY {α:Type} (xs:List α) (k:Nat) (h:k<xs.length):xs.take (k+1)=xs.take k++[xs[k]]:=by
 rw [List.take_succ_eq_append_getElem h]
theorem aL {a b:Bool} (h:a=b):Ending.returned (.bool a)=Ending.returned (.bool b):=by rw [h]
theorem BW {k:IntKind} {a b:Int} (h:a=b):Ending.returned (.int k a) = .returned (.int k b):=by rw [h]
open Go.ChangeShapes Go.WideShapes Go.ChangeAt Go.RowKit

def total {α:Type} (p:List<|List α):Nat:=(p.map List.length).sum
theorem BX {α:Type} (p:List<|List α) (k:Nat) (h:k<p.length):total (p.take<|k+1)=total (p.take k)+p[k].length:=by
 unfold total;rw [tY _ _ h,List.map_append,List.sum_append];simp
theorem DX {α:Type} (p:List<|List α) (k:Nat):total (p.take k)<=total p:=by
 unfold total
 conv=>rhs;rw [<- List.take_append_drop k p,List.map_append,List.sum_append]
 omega
section
variable {α:Type} {f:α->List Value} {s:Nat} {t:TypeId} {w w':World} {lo hi:Nat} {v:Value} {xs:List α} {row:Option Nat}
theorem Ow.block (x:Ow f s t w lo hi v xs) (hn:0<xs.length):∃ g cur,v.ownBlock=QZ g/\lo<=g/\g<hi/\Blk w g t cur:=by
 obtain ⟨A,c,rfl,hc,hm,r⟩:=x;obtain ⟨g,cur,rfl,hb1,hb2,hb3,hx⟩:=r hn;exact ⟨g,cur,rfl,hb1,hb2,hb3⟩
end
theorem yY (b o j:Nat):(⟨b,o,Q0⟩:Addr).add j=⟨b,o+j,Q0⟩:=by
 unfold Addr.add
 by_cases h:j=0 <;> simp [h]
section
variable {α:Type} {f:α->List Value} {s:Nat} {t:TypeId} {w w':World} {lo hi:Nat} {v:Value} {xs:List α}
theorem flat_get (hf:∀ x,(f x).length=s) (xs:List α) (k:Nat) (h:k<xs.length) (j:Nat) (hj:j<s):(xs.flatMap f)[k*s+j]? = (f xs[k])[j]? := by
 induction xs generalizing k with
 | nil=>simp at h
 | cons x r ih=>
  rw [List.flatMap_cons]
  match k,h with
  | 0,_=>
   rw [gal (by rw [hf];omega)];simp
  | k+1,h=>
   have h2:k<r.length:=by simpa using h
   rw [gar (by rw [hf,SU];omega)];have := ih k h2;rw [hf,show (k+1)*s+j-s=k*s+j from by rw [SU];omega];simpa using this
theorem GX (hf:∀ x,(f x).length=s) (xs:List α):(xs.flatMap f).length=xs.length*s:=by
 induction xs with
 | nil=>simp
 | cons x r ih=>rw [List.flatMap_cons,lla,hf,ih,llc,SU];omega
theorem H8 (hs:0<s) {n q:Nat} (h:q<n*s):q / s<n/\q % s<s/\q=q / s*s+q % s:=
 ⟨(Nat.div_lt_iff_lt_mul hs).2 h,Nat.mod_lt _ hs,by rw [Nat.mul_comm];exact (Nat.div_add_mod q s).symm⟩
theorem Ow.row (hf:∀ x,(f x).length=s) (hs:0<s) (h:Ow f s t w lo hi v xs) (hn:0<xs.length):w.ownsRow lo t s v xs.length (xs.flatMap f):=by
 obtain ⟨A,c,rfl,hc,hm,r⟩:=h;obtain ⟨g,cur,rfl,hg1,hg2,hB,hsz,hx⟩:=r hn;refine ⟨GX hf xs,.inr ⟨g,c,cur,rfl,hg1,hB,hc,by simp only [maxLen];omega,hsz,?_⟩⟩;have hle:xs.length*s<=c*s:=Tt s hc;apply SV;intro q
 by_cases hq:q<xs.length*s
 ·obtain ⟨h1,h2,h3⟩:=H8 hs hq;rw [SZ,if_pos hq];have hlt:q % s<(f xs[q / s]).length:=by rw [hf];exact h2
  have := hx _ h1 _ _<|geq hlt;rw [<- h3] at this;rw [Tf,this,<- geq hlt,<- flat_get hf xs _ h1 _ h2,<- h3]
 rw [gen (Nat.le_trans (List.length_take_le _ _)<|by omega),gen (by rw [GX hf];omega)]
end
theorem dM (x lo hi:Int) (b:Bool) (hb:(Q3 (lo<=x)&&Q3 (x<=hi))=b) (w:World) :
  Calls Q4 77 #[.int .i64 x,.int .i64 lo,.int .i64 hi] w λe w'=>e = .returned (.bool b)/\w=w':=by
 subst hb
 by_cases h1:lo<=x
 ·by_cases h2:x<=hi
  ·go_enter func77,Tryz.ntmps77
   go_wp2
   all_goals (go_ret;exact ⟨aL (by simp [h1,h2]),rfl⟩)
  go_enter func77,Tryz.ntmps77
  go_wp2
  all_goals (go_ret;exact ⟨aL (by simp;omega),rfl⟩)
 go_enter func77,Tryz.ntmps77
 go_wp2
 all_goals (go_ret;exact ⟨aL (by simp;omega),rfl⟩)
theorem H7.nil_ {α:Type} {f:α->List Value} {s:Nat} {to ti:TypeId} {w:World} {lo hi:Nat} (A:Option Addr) (c:Nat) (hc:c<=9223372036854775807):H7 f s to ti w lo hi (.slice A 0 c) []:=
 ⟨[],⟨A,c,rfl,by simp,hc,λh=>absurd h<|by simp⟩,rfl,λk h=>absurd h (by simp),λi j h=>absurd h<|by simp⟩
def iQ (x:QH):Ins:=⟨x.Op,x.Loc,x.Reg,x.Val⟩
theorem EO {α β:Type} (e:α->β) (p:List<|List α):total (p.map λr=>r.map e)=total p:=by
 unfold total;rw [List.map_map]
 congr 1
 exact Tq λr _=>llm _
end
end Go.Proofs.YtabfkkjdfhbngaaGreatDoor
