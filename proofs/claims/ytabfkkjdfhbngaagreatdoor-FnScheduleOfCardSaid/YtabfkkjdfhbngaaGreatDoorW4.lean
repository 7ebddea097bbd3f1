/- Texts joined. No conditions. -/
import Derived.Lib.Bytealg
import Derived.Laws.Externs
import Derived.Lib.Join
import Derived.Test.YtabfkkjdfhbngaaGreatDoorW3
namespace Go.Proofs.YtabfkkjdfhbngaaGreatDoor
noncomputable section
open _root_.Inhabited renaming default -> Rh
open _root_.Bool renaming true -> Ri
open _root_.Bool renaming false -> Rj
open _root_.Option renaming some -> Rk
open _root_.Option renaming none -> Rl
open _root_.Decidable renaming decide -> Rm
open _root_.Nat renaming beq -> Tp, ble -> Tt, zero_le -> Tw, min_eq_left -> TC, mul_le_mul_right -> TD, add_mul -> TE, lt_or_ge -> TM, zero_add -> T9, le_add_left -> Ua
open _root_.List renaming getElem?_set_ne -> Tq, all_eq_true -> Tu, getElem?_cons_zero -> Tv, length_take -> Tx, replicate -> Ty, range -> Tz, getElem?_set_self -> TB, mem_map -> TH, range_succ -> TJ, contains_eq_mem -> TQ, ext_getElem? -> TR, getElem?_cons_succ -> TT, getElem?_map -> TU, map_take -> TV, getElem?_take -> TW, length_drop -> TY, length_replicate -> Uh
open _root_.Array renaming getElem?_eq_some_iff -> TA, any_eq_true' -> TN, replicate -> TS, getElem?_eq_none -> Ub, setIfInBounds_comm -> Uc, length_toList -> Ud, getElem?_append_left -> Ue, getElem?_toList -> Uf, mem_of_getElem? -> Ug
open _root_.Option renaming bind -> TK, bind_eq_some_iff -> Ui
open _root_.Bool renaming or_eq_true -> TP, false_eq_true -> TZ
open Go.RowKit
set_option maxRecDepth 100000
set_option maxRecDepth 100000
section
variable {P:Program}
theorem Ren.aggL {S:Nat->Nat->Prop} {l k:List AV} (h:RenL S l k):Ren S (.agg l) (.agg k) := .agg h.spec.1 h.spec.2
end
def Ms (ops:Array Oper):Nat->Nat->Nat->Bool
 | 0,_,_=>Rj
 | n+1,j,i=>match ops[j]? with
  | some oj=>oj.after.any λed=>Region.binds .any ed&&(ed.on==i||Ms ops n ed.on i)
  | none=>Rj
def ClL (ops:Array Oper) (listed:Array Bool):Prop:=∀ (j:Nat) (oj:Oper),ops[j]? = Rk oj->listed.getD j Rj=Ri->∀ ed∈oj.after,Region.binds .any ed=Ri->listed.getD ed.on Rj=Ri
theorem Ji {listed:Array Bool} {i j:Nat} (h:listed.getD i Rj=Ri):(listed.setIfInBounds j Ri).getD i Rj=Ri:=by
 by_cases e:j=i
 ·subst e;rcases TM j listed.size with h' | h'
  ·simp [h']
  simp [Ub h'] at h
 simp_all
theorem ClL.up {ops:Array Oper} {listed:Array Bool} {j:Nat} (h:ClL ops listed) (hj:j∈Region.ready .any ops listed):ClL ops (listed.setIfInBounds j Ri):=by
 intro i oi hoi hl ed he hb
 by_cases e:j=i
 ·subst e;obtain ⟨_,oj,hoj,hall⟩:=mem_ready.1 hj;rw [hoi] at hoj;injection hoj with hoj;subst hoj;exact Ji<|hall ed he hb
 refine Ji<|h i oi hoi ?_ ed he hb
 simp_all
theorem Db {ops:Array Oper} {listed:Array Bool} {i:Nat} (h:ClL ops listed) (hi:listed.getD i Ri=Rj):∀ (n j:Nat),(∀ oj,ops[j]? = Rk oj->∀ ed∈oj.after,Region.binds .any ed=Ri->listed.getD ed.on Rj=Ri)->Ms ops n j i=Rj
 | 0,_,_=>rfl
 | n+1,j,hj=>by
  unfold Ms
  split
  ·rename_i oj hoj;rw [Bool.eq_false_iff];intro hany;rw [TN] at hany;obtain ⟨ed,h1,h2⟩:=hany;simp only [bae,TP,beq_iff_eq] at h2;have hl:=hj oj hoj ed h1 h2.1;rcases h2.2 with h3 | h3
   ·grind
   rw [Db h hi n ed.on λoj' Aj=>h ed.on oj' Aj hl] at h3
   cases h3
  rfl
section
variable {P:Program}
theorem FV {ops:Array Oper} {fp:Nat->Fp} {Q:Env->AH->Prop} {i n:Nat} {oi:Oper} {r:AV} (hi:ops[i]? = Rk oi) :
  ∀ (fuel:Nat) (listed:Array Bool) (e:Env) (H Hi:AH),ClL ops listed ->
   (∀ (j:Nat) (oj:Oper),ops[j]? = Rk oj->j≠i->listed.getD j Ri=Rj->Ms ops (n+1) j i=Rj->oi.apart ops oj=Ri/\oQ (fp i) (fp j)=Ri) ->
   i∈Region.ready .any ops listed->rA P oi (rho e) H r Hi (fp i).1->((fp i).2=Rj->Hi=H)->KW P ops fp Q fuel (listed.setIfInBounds i Ri) (p7 e oi.dst r) Hi->KW P ops fp Q (fuel+1) listed e H:=by
 intro fuel
 induction fuel with
 | zero=>
  intro listed e H Hi _ _ hr hy hro hA;refine ⟨λh=>(by simp_all),λj hj=>?_⟩
  by_cases hji:j=i
  ·grind
  have := ready_mono hj hji;rw [hA.1] at this
  grind
 | succ fuel ih=>
  intro listed e H Hi hcl hfree hr hy hro hA;refine ⟨λh=>(by simp_all),λj hj=>?_⟩
  by_cases hji:j=i
  ·grind
  obtain ⟨oj,q,Hj,hoj,hsj,hroj,hAj⟩:=hA.2 j<|ready_mono hj hji;obtain ⟨hjun,oj',Aj,hall⟩:=mem_ready.1 hj;rw [hoj] at Aj;injection Aj with Aj;subst Aj;have hnot:Ms ops (n+1) j i=Rj:=Db hcl (mem_ready.1 hr).1 (n+1) j λoj' Aj=>by
   rw [hoj] at Aj;injection Aj with Aj;subst Aj;exact hall
  obtain ⟨hap,hcm⟩:=hfree j oj hoj hji hjun hnot;obtain ⟨h1,h2,h3⟩:=Oper.apart_spec hap;have ej:=sS (e:=e) (r:=r) h1;have ei:=sS (e:=e) (oi:=oj) (r:=q) h3;have hsj':=hsj.congr ej;have hfree':∀ (k:Nat) (ok:Oper),ops[k]? = Rk ok->k≠i->(listed.setIfInBounds j Ri).getD k Ri=Rj->Ms ops (n+1) k i=Rj->oi.apart ops ok=Ri/\oQ (fp i) (fp k)=Ri:=λk ok hk hki hun hno=>by
   refine hfree k ok hk hki ?_ hno
   by_cases hjk:j=k
   ·subst hjk;exact hjun
   rw [getD_set_ne Ri hjk] at hun;exact hun
  have fin:∀ Hj',rA P oj (rho e) H q Hj' (fp j).1->((fp j).2=Rj->Hj'=H)->rA P oi (rho e) Hj' r Hj (fp i).1->((fp i).2=Rj->Hj=Hj')->∃ o r' H',ops[j]? = Rk o/\rA P o (rho e) H r' H' (fp j).1/\((fp j).2=Rj->H'=H)/\KW P ops fp Q (fuel+1) (listed.setIfInBounds j Ri) (p7 e o.dst r') H':=λHj' s1 s1' s2 s2'=>by
   refine ⟨oj,q,Hj',hoj,s1,s1',ih (listed.setIfInBounds j Ri) (p7 e oj.dst q) Hj' Hj (hcl.up hj) hfree' (ready_mono hr<|Ne.symm hji) (s2.congr λx hx=>(ei x hx).symm) s2' ?_⟩;rw [Uc _ _ hji,xX (λd hd=>λhd'=>h2 d (by simpa using hd')<|by simpa using hd)];exact hAj
  simp only [oQ,TP,bae,Bool.not_eq_true',Tu,TQ,decide_eq_false_iff_not] at hcm;rcases hcm with hdis | ⟨w1,w2⟩
  ·have hag:agree (fp j).1 H Hi:=⟨hy.1.symm,λb hb=>(hy.2.1 b λhbi=>hdis b hbi hb).symm⟩;obtain ⟨Hj',a1,a2,a3,a4⟩:=hsj'.at_ hag;have hag2:agree (fp i).1 Hj' H:=⟨a1,λb hb=>a3 b<|hdis b hb⟩;obtain ⟨K,b1,b2,b3,b4⟩:=hy.at_ hag2;have hKH:K=Hj:=by
    apply TR;intro b
    by_cases hbi:b∈(fp i).1
    ·rw [b2 b hbi,hsj'.2.1 b (hdis b hbi)]
    rw [b3 b hbi]
    by_cases hbj:b∈(fp j).1
    ·exact a2 b hbj
    rw [a3 b hbj,hsj'.2.1 b hbj,hy.2.1 b hbi]
   subst hKH;refine fin Hj' a4 (λhw=>?_) b4 λhw=>?_
   ·apply TR;intro b
    by_cases hbj:b∈(fp j).1
    ·rw [a2 b hbj,hroj hw,hy.2.1 b (λhbi=>hdis b hbi hbj)]
    exact a3 b hbj
   apply TR;intro b
   by_cases hbi:b∈(fp i).1
   ·rw [b2 b hbi,hro hw,a3 b (hdis b hbi)]
   exact b3 b hbi
  grind
def Py (ops:Array Oper) (fp:Nat->Fp):Bool:=
 Region.lexB .any ops&&ops.all (λo=>o.guard.isNone) &&
 (Tz ops.size).all λi=>(Tz ops.size).all λj=>Rm (j<=i)||oQ (fp i) (fp j)||Ms ops 6 j i
theorem GX {ops:Array Oper} {fp:Nat->Fp} {Q:Env->AH->Prop} (hc:Py ops fp=Ri):∀ (l:List Oper) (k:Nat) (listed:Array Bool) (e:Env) (H:AH),ClL ops listed->(∀ j,l[j]? = ops[k+j]?)->listed.size=ops.size->(∀ j,j<k->listed.getD j Ri=Ri) ->
  Region.lexFrom .any ops l.length k listed=Ri->TF P fp k l Q e H->KW P ops fp Q l.length listed e H
 | [],k,listed,e,H,_,_,_,_,hB,h=>⟨by simpa [Region.lexFrom] using hB,h⟩
 | o::l,k,listed,e,H,hcl,hl,hsz,hbef,hB,h=>by
  have h0:ops[k]? = Rk o:=by simpa using (hl 0).symm
  have hk:k<ops.size:=(TA.1 h0).1;simp only [llc,Region.lexFrom,bae] at hB;obtain ⟨⟨hr,hf⟩,hB'⟩:=hB;obtain ⟨r,H',hs,hro,hK⟩:=h;have hrk:k∈Region.ready .any ops listed:=by simpa using hr
  refine FV (n:=5) h0 l.length listed e H H' hcl (λj oj hj hne hun hno=>?_) hrk hs hro
   (GX hc l (k+1) _ _ _ (hcl.up hrk) (λj=>by have := hl<|j+1;grind) (by simp_all) (λj hj=>?_) hB' hK)
  ·have hno1:∀ ed∈oj.after,Region.binds .any ed=Ri->ed.on≠k:=λed he hb heq=>by
    unfold Ms at hno;simp only [hj] at hno;rw [Bool.eq_false_iff] at hno;refine hno ?_;rw [TN];exact ⟨ed,he,by simp [hb,heq]⟩
   refine ⟨Region.free_spec h0 hf j oj hj hne hun hno1,?_⟩;have hjs:j<ops.size:=(TA.1 hj).1;have hkj : ¬ j<=k:=λhle=>by
    have := hbef j (by omega);rw [this] at hun
    cases hun
   simp only [Py,bae,Tu,List.mem_range] at hc
   grind
  by_cases e:j=k
  ·simp_all
  rw [getD_set_ne Ri (Ne.symm e)]
  grind
variable {nt b0:Nat} {Q:Exit->Env->AH->Prop} {e:Env} {H:AH}
theorem T.drawH {i:Nat} {ops:Array Oper} (fp:Nat->Fp) (hm:P.follows .mixedOrders=Ri) (hc:Py ops fp=Ri) (h:TF P fp 0 ops.toList (Q .normal) e H):T P nt b0 (.region i ops Ri) Q e H:=by
 intro hok c c0 a hH hb hx hs;simp only [codeOk] at hok;have hc':=hc;simp only [Py,bae,Region.lexB] at hc';refine wp_region_any hm ?_;have hlex:=GX hc ops.toList 0 (TS ops.size Rj) e H (λj oj hj hl=>by
  rcases TM j ops.size with h' | h'
  ·simp [h'] at hl
  simp_all) (λj=>by simp) (by simp) (λj hj=>absurd hj (by omega)) (by simp_all) h
 have := ze hok hc'.1.2 ops.toList.length _ e H hlex c.drew c0 a hH (hx.trans c.drew_ext) ⟨hs.size,hs.defers,λt=>(hs.rel t).ext hs.heap c.drew_ext,Cx.drew_rel hs.heap⟩;rw [Ud] at this;exact this
end
section
variable {P:Program} {ρ:Operand->AV} {H H':AH}
structure MethT (P:Program) (t:TypeId) (name:String) (g:FuncId) (off:Nat):Prop where
 ex:∃ i m e,P.info? t=Rk i/\i.methods.find? (·.name==name)=Rk m/\m.func=Rk (g,Ri)/\P.underlying t=Rk (.pointer e) /\
  ((m.path.toList=[]/\off=0)\/∃ s k fs fl u,m.path.toList=[⟨s,k,Ri⟩]/\P.underlying s=Rk (.struct fs)/\fs[k]? = Rk fl/\P.cellsOf fl.type≠0/\(P.info? fl.type).isSome=Ri/\fl.offset=off/\P.underlying fl.type=Rk u/\(∀ e,u ≠ .pointer e))
def OE (P:Program) (t:TypeId) (name:String) (g:FuncId) (off:Nat):Bool:=
 match P.info? t,P.underlying t with
 | some i,Rk (.pointer _)=>(match i.methods.find? (·.name==name) with
  | some m=>m.func==Rk (g,Ri)&&(match m.path.toList with
   | []=>off==0
   | [⟨s,k,Ri⟩]=>(match P.underlying s with
    | some (.struct fs)=>(match fs[k]? with
     | some fl=>P.cellsOf fl.type != 0&&(P.info? fl.type).isSome&&fl.offset==off&&(match P.underlying fl.type with
      | some (.pointer _) | none=>Rj
      | some _=>Ri)
     | none=>Rj)
    | _=>Rj)
   | _=>Rj)
  | none=>Rj)
 | _,_=>Rj
theorem MethT.of {t:TypeId} {name:String} {g off:Nat} (h:OE P t name g off=Ri):MethT P t name g off:=by
 unfold OE at h
 split at h
 ·rename_i i e hi hu
  split at h
  ·rename_i m hm;simp only [bae,beq_iff_eq] at h;obtain ⟨hf,h⟩:=h;refine ⟨i,m,e,hi,hm,hf,hu,?_⟩
   split at h
   ·rename_i hp;exact .inl ⟨hp,by simpa using h⟩
   ·rename_i s k hp
    split at h
    ·rename_i fs hs
     split at h
     ·rename_i fl hfl;simp only [bae,beq_iff_eq,bne_iff_ne,ne_eq] at h;obtain ⟨⟨⟨h1,h2⟩,h3⟩,h4⟩:=h
      cases hfu:P.underlying fl.type with
      | none=>rw [hfu] at h4;cases h4
      | some u=>exact .inr ⟨s,k,fs,fl,u,hp,hs,hfl,h1,h2,h3,hfu,λe' he=>by subst he;rw [hfu] at h4;cases h4⟩
     cases h
    cases h
   cases h
  cases h
 grind
def QN (off:Nat):AV->AV
 | .fp row j => .fp row (j+off)
 | .hp b v s i j => .hp b v s i (j+off)
 | a=>a
theorem Ic {t:TypeId} {name:String} {g off:Nat} (hm:MethT P t name g off) (w:World) (n:Nat) {g0:Nat} {o0:Nat} (v:Value) (hv:v = .pointer (Rk ⟨g0,o0,Rl⟩)):(method (n+1) t v name).run P w = .ok (g,.pointer<|Rk ⟨g0,o0+off,Rl⟩) w:=by
 obtain ⟨i,m,e,hi,hf,hg,hu,hp⟩:=hm.ex;have e1:(typeInfo t).run P w = .ok i w:=run_typeInfo w hi;rcases hp with ⟨hp,rfl⟩ | ⟨s,k,fs,fl,u,hp,hs,hk,hc,_,rfl,hfu,hne⟩
 ·simp only [method,Sem.run_bind,e1,Result.andThen_ok,hf,hp,follow,Sem.run_pure,hg,receiverAt,av hu,Place.get,hv,Nat.add_zero]
 obtain ⟨i2,hi2⟩:=xQ hc
 have e2 : (receiverAt fl.type (.var ⟨g0,o0 + fl.offset,none⟩) true (if m.path.isEmpty then some ((name.splitOn ".").getLastD name) else none)).run P w = .ok (.pointer (some ⟨g0,o0 + fl.offset,none⟩)) w := by
  unfold receiverAt;simp only [Sem.run_bind,av hfu,Result.andThen_ok]
  cases u <;> simp_all
 simp only [method,Sem.run_bind,e1,Result.andThen_ok,hf,hp,follow,Sem.run_pure,hg,av hs,hk,Place.get,hv,asAddr,fieldPlace,run_sizeOf w hi2,hc,if_false,if_true,add0,e2]
theorem CJ {t:TypeId} {name:String} {g off:Nat} (hm:MethT P t name g off) (hcl:iq P g=Ri) (w:World) {g0 o0:Nat} (args:Array Value) :
  (callMethod (.iface t<|.pointer<|Rk ⟨g0,o0,Rl⟩) name args).run P w = .ok (.enter g<|#[.pointer (Rk ⟨g0,o0+off,Rl⟩)]++args) w:=by
 have h0:0<Made.depth:=by decide
 obtain ⟨n,hn⟩:∃ n,P.types.size+Made.depth=n+1:=⟨P.types.size+Made.depth-1,by omega⟩;have h1:=Ic hm w n (g0:=g0) (o0:=o0) _ rfl;have h2:=vg hcl (#[.pointer (Rk ⟨g0,o0+off,Rl⟩)]++args) w;have hp:(program:Sem Program).run P w = .ok P w:=rfl;simp only [callMethod,Sem.run_bind,hp,Result.andThen_ok,hn,h1];exact h2
theorem Ie {o:Oper} {cl:Call} {x:Operand} {name:String} {t:TypeId} {row:List AV} {j:Nat} {g:FuncId} {off:Nat} {r:AV} (ho:o.op = .call cl) (hc:cl.callee = .invoke x name) (hx:ρ x = .ifc t (.fp row j)) (hm:MethT P t name g off)
  (h:dS P g (.fp row (j+off)::cl.args.toList.map ρ) H r H'):QO P o ρ H r H':=by
 intro c a K Q hH hr hxs hK;have hf1:=hx ▸ hxs x (by rw [ho];simp [Op.operands,Call.operands,hc]);obtain ⟨y,he,hrel⟩:=yS hf1;have hfp:=uH hrel;have key:∃ g0 o0,y = .pointer (Rk ⟨g0,o0,Rl⟩)/\c.rel (.fp row<|j+off) (.pointer<|Rk ⟨g0,o0+off,Rl⟩):=by
  cases hfp with
  | fp us hg hlt hu h1 h=>
   refine ⟨_,_,rfl,?_⟩;rw [Nat.add_assoc];exact .fr<|.fp us hg hlt hu h1 h
 obtain ⟨g0,o0,hy,hrec⟩:=key;have hargs:EC c (.fp row (j+off)::cl.args.toList.map ρ) (#[.pointer (Rk ⟨g0,o0+off,Rl⟩)]++cl.args.map a.eval):=by
  refine ⟨by simp;omega,λi q v hq hv=>?_⟩
  match i with
  | 0=>
   simp only [Tv,sie] at hq;have : (#[Value.pointer (Rk ⟨g0,o0+off,Rl⟩)]++cl.args.map a.eval)[0]? = Rk (Value.pointer<|Rk ⟨g0,o0+off,Rl⟩):=by
    rw [Ue (show 0<1 by decide)]
    rfl
   rw [this] at hv;injection hv with hv;subst hq hv;exact hrec
  | i+1=>
   simp only [TT,TU,Uf] at hq;have e:(#[Value.pointer (Rk ⟨g0,o0+off,Rl⟩)]++cl.args.map a.eval)[i+1]? = (cl.args.map a.eval)[i]? := by
    rw [Array.getElem?_append_right (by simp)];simp
   rw [e,Array.getElem?_map] at hv
   cases ha:cl.args[i]? with
   | none=>rw [ha] at hq;cases hq
   | some z=>
    rw [ha] at hq hv;injection hq with hq;injection hv with hv;subst hq hv;refine hxs z ?_;rw [ho];have hz:=Ug ha;simp [Op.operands,Call.operands,hz]
 have hrun:(execOp a.eval o).run P c.w = .ok (.enter g<|#[.pointer (Rk ⟨g0,o0+off,Rl⟩)]++cl.args.map a.eval) c.w:=by
  have h3:=CJ hm h.1 c.w (g0:=g0) (o0:=o0)<|cl.args.map a.eval;rw [execOp,ho];simp only [resolve,hc,he,hy,Sem.run_bind,Sem.run_pure,Result.andThen_ok,invoke];have e1:((#[Value.iface t (.pointer<|Rk ⟨g0,o0,Rl⟩)]++cl.args.map a.eval)[0]? : Option Value)=Rk (Value.iface t<|.pointer<|Rk ⟨g0,o0,Rl⟩):=by
   rw [Ue (show 0<1 by decide)]
   rfl
  have e2:(#[Value.iface t (.pointer<|Rk ⟨g0,o0,Rl⟩)]++cl.args.map a.eval).extract 1 (#[Value.iface t (.pointer<|Rk ⟨g0,o0,Rl⟩)]++cl.args.map a.eval).size=cl.args.map a.eval:=by
   apply Array.ext';simp;exact List.take_of_length_le (by simp)
  rw [e1,e2];exact h3
 unfold Oper.wp;rw [hrun,Oper.upon_enter];refine (h.2 c _ hH hr hargs).mono λe w' ⟨v,c',he,hw,hH',hr',hx,hv⟩ => ?_
 grind
end
section
variable {α:Type}
theorem OG {P:Int->Prop} {q:Int} (g:0<=q/\q<3) (h0:P 0) (h1:P 1) (h2:P 2):P q:=by
 grind
def ifO (t:TypeId) (c:α->List AV):Option α->AV
 | some x => .ifc t (.fp (c x) 0)
 | none => .v .nilIface
theorem GY [Inhabited α] {t:TypeId} {c:α->List AV} {o:Option α} (h:o.isSome=Ri):ifO t c o = .ifc t (.fp (c<|o.getD Rh) 0):=by
 cases o with
 | none=>cases h
 | some x=>rfl
end
section
variable {P:Program} {ρ:Operand->AV} {H H':AH} {x y:Operand} {t e:TypeId}
theorem QR.ixafp {ag:Bool} {n w:Nat} {row:List AV} {j:Nat} {k:IntKind} {q:Int} (hu:P.underlying t=Rk (.array n e)) (ty:TyF P e ag w) (hx:ρ x = .fp row j) (hy:ρ y = .v (.int k q)) (hq:0<=q/\q<n):QR P ρ (.indexAddr t x y) (.fp row<|j+q.toNat*w) := .mk λK hK=>by
 show gF P t (ρ x) (ρ y) K;simp only [gF,hu,hx,hy,ty.cells];exact ⟨hq,Ck.intro ty.info hK⟩
theorem QR.ixahp {ag:Bool} {n w:Nat} {b ver s i j:Nat} {k:IntKind} {q:Int} (hu:P.underlying t=Rk (.array n e)) (ty:TyF P e ag w) (hx:ρ x = .hp b ver s i j) (hy:ρ y = .v (.int k q)) (hq:0<=q/\q<n):QR P ρ (.indexAddr t x y) (.hp b ver s i<|j+q.toNat*w) := .mk λK hK=>by
 show gF P t (ρ x) (ρ y) K;simp only [gF,hu,hx,hy,ty.cells];exact ⟨hq,Ck.intro ty.info hK⟩
theorem QR.ixag {ag:Bool} {n w:Nat} {cs:List AV} {k:IntKind} {q:Int} (a:AV) (hu:P.underlying t=Rk (.array n e)) (ty:TyF P e ag w) (hx:ρ x = .agg cs) (hy:ρ y = .v (.int k q)) (hq:0<=q/\q<n) (hp:m9 ag w cs (q.toNat*w)=Rk a):QR P ρ (.index t x y) a := .mk λK hK=>by
 show Bj P t (ρ x) (ρ y) K;simp only [Bj,hu,hx,hy,ty.cells];exact ⟨hq,Ck.intro ty.info<|yd ty hp hK⟩
theorem QR.mkifc {u:TypeDesc} (a:AV) (hu:P.underlying t=Rk u) (hn:∀ m,u ≠ .interface m) (hx:ρ x=a):QR P ρ (.makeInterface t x) (.ifc t a) := .mk λK hK=>by
 show xG P ρ (.makeInterface t x) K;simp only [xG,hu,hx]
 cases u <;> first | exact absurd rfl (hn _) | (rw [AV.force_iff];exact hK)
end
def up (m:Nat) (gh:NG):NG:=λi=>((gh i).1,(gh i).2.1+m,(gh i).2.2)
section
variable {α:Type}
def QT (m:Nat) (gh:NG) (w:Nat) (l:List<|List α):List (List AV):=cG (up m gh) w l
theorem DU {m:Nat} {gh:NG} {w:Nat} {l:List (List α)} {i:Nat} (h:i<l.length):(QT m gh w l)[i]? = Rk [hS (gh i).1 ((gh i).2.1+m) (gh i).2.2 w (l.getD i []).length]:=cg h
theorem OH (m:Nat) (gh:NG) (i:Nat) (g:Bool) (k v:Nat):(up m gh).put i (g,k+m,v)=up m (gh.put i (g,k,v)):=by
 funext j
 show (bif Tp j i then (g,k+m,v) else ((gh j).1,(gh j).2.1+m,(gh j).2.2))=((bif Tp j i then (g,k,v) else gh j).1,(bif Tp j i then (g,k,v) else gh j).2.1+m,(bif Tp j i then (g,k,v) else gh j).2.2)
 grind
theorem M7 {m:Nat} {gh:NG} {w:Nat} {l:List (List α)} {i:Nat} {g:Bool} {k v:Nat} {r:List α} (h:i<l.length):(QT m gh w l).set i [hS g (k+m) v w r.length]=QT m (gh.put i (g,k,v)) w (l.set i r):=by
 unfold QT;rw [sV h,OH]
theorem M8 (m w n:Nat):Ty n [AV.nil]=QT m (λi=>(Ri,i,0)) w (Ty n ([]:List α)):=by
 apply List.ext_getElem
 ·simp [QT,cG]
 intro i h1 h2;simp [QT,cG,Es,hS,up]
theorem vX {m:Nat} {gh:NG} {w:Nat} {l:List (List α)}:(QT m gh w l).length=l.length:=dx _ _ _
structure NN (K:AH) (gh:NG) (w:Nat) (ty:TypeId) (f:α->List AV) (l:List (List α)):Prop where
 nk:NK 0 K gh w ty f l
 kf:KF K
variable {K:AH} {gh:NG} {w:Nat} {ty:TypeId} {f:α->List AV} {l:List (List α)}
theorem NN.at_ (h:NN K gh w ty f l) {i:Nat} (hi:i<l.length):K[(gh i).2.1]? = Rk (bE (gh i).1 (gh i).2.2 w ty<|(l.getD i []).map f):=(h.nk.at_ i hi).2
theorem NN.lt (h:NN K gh w ty f l) {i:Nat} (hi:i<l.length):(gh i).2.1<K.length:=(ges<|h.at_ hi).1
theorem NN.nil_ (h:NN K gh w ty f l) {i:Nat} (hi:i<l.length):(gh i).1=Ri->l.getD i []=[]:=h.nk.nil_ i hi
theorem KF.set {k:Nat} {x:Option ABlk} (h:KF K) (hx:∀ b,x=Rk b->Aq b):KF (K.set k x):=λi b hb=>by
 by_cases e:k=i
 ·grind
 rw [Tq e] at hb;exact h i b hb
theorem KF.cons {x:Option ABlk} (h:KF K) (hx:∀ b,x=Rk b->Aq b):KF (x::K):=λi b hb=>by
 match i,hb with
 | 0,hb=>exact hx b (osl hb)
 | i+1,hb=>exact h i b hb
theorem GZ {g:Bool} {v:Nat} {l:List α} (hf:∀ x,(f x).all (isF 9)=Ri):∀ b,bE g v w ty (l.map f)=Rk b->Aq b:=λb hb=>by
 cases g with
 | true=>cases hb
 | false=>
  obtain rfl:=osl hb;exact λr hr a ha=>BG hf r hr a ha
theorem NN.push (h:NN K gh w ty f l) {x:Option ABlk} (hx:∀ b,x=Rk b->Aq b):NN (x::K) (up 1 gh) w ty f l:=
 ⟨⟨λi hi=>⟨Tw _,h.at_ hi⟩,λi hi=>h.nil_ hi,λi j hi hj hne he=>h.nk.sep i j hi hj hne<|by simpa [up] using he⟩,h.kf.cons hx⟩
theorem NN.nil:NN ([]:AH) gh w ty f []:=⟨⟨λi hi=>by grind,λi hi=>by grind,λi j hi=>by grind⟩,λi k hk=>by grind⟩
theorem NN.rep (n:Nat):NN (Ty n Rl) (λi=>(Ri,i,0)) w ty f (Ty n []):=by
 refine ⟨⟨λi hi=>⟨Tw _,?_⟩,λi hi _=>?_,λi j _ _ hne=>hne⟩,λi k hk=>?_⟩
 ·simp only [Uh] at hi;simp [hi,bE]
 ·simp only [Uh] at hi;simp [hi]
 grind
theorem NN.fz [Inhabited α] (h:NN K gh w ty f l) (S:AH) {b ver n:Nat} {to:TypeId} (hb:(S++K)[b]? = Rk (bE Rj ver 1 to<|QT S.length gh w l)) (hn:n=l.length) (hf:∀ x,(f x).all (isF 9)=Ri):Fz 0 (S++K) (hS Rj b ver 1 n) (eL (cL f) l):=by
 have hk:NK 0 (S++K) (up S.length gh) w ty f l:=⟨λi hi=>⟨Tw _,by
  show (S++K)[(gh i).2.1+S.length]? = _;rw [gar (by omega),Nat.add_sub_cancel];exact h.at_ hi⟩,λi hi=>h.nil_ hi,λi j hi hj hne he=>h.nk.sep i j hi hj hne (by simpa [up] using he)⟩
 exact hk.fz hb hn hf
end
def Rot (m N:Nat) (i j:Nat):Prop:=(i<m/\j=i)\/(m<=i/\i<N+m/\j=i+1)\/(i=N+m/\j=m)
theorem Rot.low {m N i:Nat} (h:Nat.blt i m=Ri):Rot m N i i := .inl ⟨nlb h,rfl⟩
theorem Rot.up {m N k:Nat} (h:k<N):Rot m N (k+m) (k+(m+1)) := .inr<|.inl ⟨by omega,by omega,rfl⟩
theorem Rot.new {m N:Nat}:Rot m N (N+m) m := .inr<|.inr ⟨rfl,rfl⟩
inductive RenHL (S:Nat->Nat->Prop):AH->AH->Prop
 | nil:RenHL S [] []
 | none {l l':AH} (t:RenHL S l l'):RenHL S (Rl::l) (Rl::l')
 | some {k k':ABlk} {l l':AH} (h:RenK S k k') (t:RenHL S l l'):RenHL S (Rk k::l) (Rk k'::l')
theorem RenHL.bE {S:Nat->Nat->Prop} {α:Type} {g:Bool} {v w:Nat} {ty:TypeId} {f:α->List AV} {x:List α} {l l':AH} (hf:∀ x,(f x).all (isF 9)=Ri) (t:RenHL S l l'):RenHL S (bE g v w ty (x.map f)::l) (Go.Proofs.YtabfkkjdfhbngaaGreatDoor.bE g v w ty (x.map f)::l'):=by
 cases g with
 | true=>exact .none t
 | false=>exact .some (.ofF λr hr a ha=>BG hf r hr a ha) t
theorem RenHL.spec {S:Nat->Nat->Prop} {l l':AH} (h:RenHL S l l'):l.length=l'.length/\(∀ (i:Nat) (k:ABlk),l[i]? = Option.some (Option.some k)->∃ k',l'[i]? = Option.some (Option.some k')/\RenK S k k')/\∀ (i:Nat) (k':ABlk),l'[i]? = Option.some (Option.some k')->∃ k,l[i]? = Option.some (Option.some k)/\RenK S k k':=by
 induction h with
 | nil=>simp_all
 | none t ih=>
  grind
 | some h t ih=>
  grind
theorem Reid.rot {b0 m N:Nat} {S S' K:AH} {x x':Option ABlk} (hm:S.length=m) (hN:K.length=N) (hb:Tt b0 m=Ri) (hS:RenHL (Rot m N) S S') (hK:KF K) (hx:RenHL (Rot m N) [x] [x']):Reid b0 (Rot m N) (S++K++[x]) (S'++x'::K):=by
 have hb:=nlb hb;obtain ⟨h1,h2,h3⟩:=hS.spec;obtain ⟨_,h5,h6⟩:=hx.spec;have hm':S'.length=m:=h1.symm.trans hm;have a1:∀ i,i<m->(S++K++[x])[i]? = S[i]? := λi hi=>by grind
 have a2:∀ k,k<N->(S++K++[x])[k+m]? = K[k]? := λk hk=>by
  grind
 have a3:(S++K++[x])[N+m]? = Rk x:=by
  rw [List.append_assoc,gar (by omega),gar (by omega)];have : N+m-S.length-K.length=0:=by omega
  rw [this]
  rfl
 have c1:∀ i,i<m->(S'++x'::K)[i]? = S'[i]? := λi hi=>gal (by omega);have c2:(S'++x'::K)[m]? = Rk x':=by
  rw [gar (by omega)];have : m-S'.length=0:=by omega
  rw [this]
  rfl
 have c3:∀ k,(S'++x'::K)[k+m+1]? = K[k]? := λk=>by
  grind
 refine ⟨λi j j' e1 e2=>?_,λi i' j e1 e2=>?_,λi hi => .inl ⟨by omega,rfl⟩,by grind,λj k0 hk=>?_,λi j k hS hk=>?_⟩
 ·rcases e1 with ⟨_,rfl⟩ | ⟨_,_,rfl⟩ | ⟨_,rfl⟩ <;> rcases e2 with ⟨_,rfl⟩ | ⟨_,_,rfl⟩ | ⟨_,rfl⟩ <;> omega
 ·rcases e1 with ⟨_,e1⟩ | ⟨_,_,e1⟩ | ⟨_,e1⟩ <;> rcases e2 with ⟨_,e2⟩ | ⟨_,_,e2⟩ | ⟨_,e2⟩ <;> omega
 ·rcases Nat.lt_trichotomy j m with hj | hj | hj
  ·rw [c1 j hj] at hk;obtain ⟨k,g1,g2⟩:=h3 j k0 hk;exact ⟨j,k,.inl ⟨hj,rfl⟩,by simp_all,g2⟩
  ·subst hj;rw [c2] at hk;obtain rfl:=osl hk;obtain ⟨k,g1,g2⟩:=h6 0 k0 rfl;obtain rfl:=osl g1;exact ⟨_,k,.new,a3,g2⟩
  obtain ⟨q,rfl⟩:∃ q,j=q+m+1:=⟨j-m-1,by omega⟩;rw [c3 q] at hk;have hq:q<N:=by rw [<- hN];exact (ges hk).1
  exact ⟨q+m,k0,.inr<|.inl ⟨by omega,by omega,rfl⟩,by simp_all,.ofF<|hK q k0 hk⟩
 rcases hS with ⟨e1,rfl⟩ | ⟨e1,e2,rfl⟩ | ⟨rfl,rfl⟩
 ·rw [a1 _ e1] at hk;obtain ⟨k',g1,_⟩:=h2 _ k hk;exact ⟨k',by rw [c1 _ e1];exact g1⟩
 ·obtain ⟨q,rfl⟩:∃ q,i=q+m:=⟨i-m,by omega⟩;rw [a2 q (by omega)] at hk;exact ⟨k,by rw [c3 q];exact hk⟩
 grind
theorem dz {S:Nat->Nat->Prop} {g:Bool} {i j v w n:Nat} (h:S i j):Ren S (hS g i v w n) (hS g j v w n):=by
 cases g with
 | true=>exact .nil
 | false=>exact .hs h
theorem NN.renK {α:Type} {K:AH} {gh:NG} {w ver m N:Nat} {ty to:TypeId} {f:α->List AV} {l:List (List α)} (h:NN K gh w ty f l) (hN:K.length=N):RenK (Rot m N) ⟨ver,1,to,QT m gh w l⟩ ⟨ver,1,to,QT (m+1) gh w l⟩:=by
 refine ⟨rfl,rfl,rfl,by simp [vX],λi r r' hr hr' => ?_⟩;have hi:i<l.length:=by
  have := (ges hr).1
  rwa [vX] at this
 rw [DU hi] at hr hr';obtain rfl:=osl hr;obtain rfl:=osl hr';refine ⟨rfl,λj a a' ha ha' => ?_⟩
 match j with
 | 0=>
  obtain rfl:=osl ha;obtain rfl:=osl ha';exact dz<|.up (by rw [<- hN];exact h.lt hi)
 | j+1=>grind
theorem rE {S:Nat->Nat->Prop} {e:Env}:∀ t,Ren S (e t) (ai [] t):=λ_ => .top
theorem aX {S:Nat->Nat->Prop} {e:Env} {t:Nat} {a a0:AV} {l:List (Nat×AV)} (he:e t=a0) (h:Ren S a0 a) (w:∀ q,Ren S (e q)<|ai l q):∀ q,Ren S (e q) (ai ((t,a)::l) q):=by
 intro q;rcases yV t a l q with ⟨rfl,h1⟩ | h1
 ·rw [h1,he];exact h
 simp_all
theorem bw {S:Nat->Nat->Prop} {e:Env} {t:Nat} {a:AV} {l:List (Nat×AV)} (he:e t=a) (h:isF 9 a=Ri) (w:∀ q,Ren S (e q)<|ai l q):∀ q,Ren S (e q) (ai ((t,a)::l) q):=aX he (aF 9 a h) w
theorem Dc {c:Cx} {row row2:List AV} {j n:Nat} {v:Value} (hs:(row.drop j).take n=row2) (h:c.rel (.fp row j) v):c.rel (.fp row2 0) v:=by
 have h:=uH h
 cases h with
 | @fp _ _ g o us hg hlt hu h1 hr=>
  subst hs;have key:∀ (q:Nat) (a:AV),((row.drop j).take n)[q]? = Rk a->row[j+q]? = Rk a:=λq a hq=>by
   grind
  exact .fr<|.fp (g:=g) (o:=o+j) (j:=0) (λq=>us<|j+q) hg hlt (λq a hq=>by grind) (λq a hq=>h1 _ _<|key q a hq) λq a hq=>hr _ _<|key q a hq
section
variable {P:Program} {ρ:Operand->AV} {H H':AH} {x y:Operand} {t e:TypeId}
theorem QR.fafpS (n:Nat) {fs:Array Field} {f:Nat} {fl:Field} {row row2:List AV} {j:Nat} (hu:P.underlying t=Rk (.struct fs)) (hf:fs[f]? = Rk fl) (hc:(P.cellsOf fl.type != 0)=Ri) (hx:ρ x = .fp row j) (hs:(row.drop<|j+fl.offset).take n=row2):QR P ρ (.fieldAddr t x f) (.fp row2 0):=
 (QR.fafp hu hf hc hx).res λ_ _ h=>Dc hs h
theorem dS.argw {g:FuncId} {as' as2:List AV} {r:AV} (h:dS P g as2 H r H') (hl:as2.length=as'.length) (hw:∀ c:Cx,∀ (i:Nat) (a b:AV) (v:Value),as'[i]? = Rk a->as2[i]? = Rk b->c.rel a v->c.rel b v):dS P g as' H r H':=
 ⟨h.1,λc vs hH hr hall=>h.2 c vs hH hr ⟨by rw [hall.1,hl],λi q v hq hv=>by
  obtain ⟨a,ha⟩:=bG hl hq;exact hw c i a q v ha hq (hall.2 i a v ha hv)⟩⟩
theorem QR.invS (n:Nat) {cl:Call} {name:String} {t:TypeId} {row row2:List AV} {j:Nat} {g:FuncId} {off:Nat} {ars:List AV} {r:AV} (hc:cl.callee = .invoke x name) (hx:ρ x = .ifc t (.fp row j)) (hm:MethT P t name g off) (ha:cl.args.toList.map ρ=ars)
  (hs:(row.drop<|j+off).take n=row2) (h:ax P g (.fp row2 0::ars) r) (hF:ars.all (isF 9)=Ri):QR P ρ (.call cl) r:=λo ho G=>by
 subst ha;refine Ie ho hc hx hm<|(h.acall ?_ G).argw rfl λc i a b v h1 h2 hr=>?_
 ·simp only [List.all_cons,hF,Bool.and_true]
  rfl
 match i with
 | 0=>
  obtain rfl:=osl h1;obtain rfl:=osl h2;exact Dc hs hr
 | i+1=>
  grind
variable {nt b0:Nat} {Q:Exit->Env->AH->Prop} {en:Env} {ops:Array Oper}
theorem TO.reserve {l:List Oper} (h:TO P nt b0 ops l Q en<|H++[Rl]):TO P nt b0 ops l Q en H:=by
 intro hd k hl hn c c0 a hH hb hx hr;subst hH;exact h hd k hl hn c.res c0 a rfl hb (hx.trans c.res_ext) ⟨hr.size,hr.defers,λt=>(hr.rel t).ext hr.heap c.res_ext,Cx.res_heap hr.heap⟩
theorem TO.reserveN {l:List Oper}:∀ (n:Nat) {H:AH},TO P nt b0 ops l Q en (H++Ty n Rl)->TO P nt b0 ops l Q en H
 | 0,H,h=>by simp_all
 | n+1,H,h=>by
  refine TO.reserve<|TO.reserveN n ?_
  grind
end
inductive RenRows (S:Nat->Nat->Prop):List (List AV)->List (List AV)->Prop
 | nil:RenRows S [] []
 | cons {a b:List AV} {l k:List (List AV)} (h:RenL S a b) (t:RenRows S l k):RenRows S (a::l) (b::k)
theorem RenRows.spec {S:Nat->Nat->Prop} {l k:List (List AV)} (h:RenRows S l k):l.length=k.length/\∀ (i:Nat) (c d:List AV),l[i]? = Rk c->k[i]? = Rk d->RenL S c d:=by
 induction h with
 | nil=>simp_all
 | cons h t ih=>
  grind
theorem RenK.rowsL {S:Nat->Nat->Prop} {v s:Nat} {ty:TypeId} {r r':List (List AV)} (h:RenRows S r r'):RenK S ⟨v,s,ty,r⟩ ⟨v,s,ty,r'⟩:=
 ⟨rfl,rfl,rfl,h.spec.1,λi a b ha hb=>(h.spec.2 i a b ha hb).spec⟩
theorem RenK.rowL {S:Nat->Nat->Prop} {v s:Nat} {ty:TypeId} {r r':List AV} (h:RenL S r r'):RenK S ⟨v,s,ty,[r]⟩ ⟨v,s,ty,[r']⟩ := .rowsL<|.cons h .nil
section
variable {α:Type} {K:AH} {gh:NG} {w:Nat} {ty:TypeId} {f:α->List AV} {l:List (List α)}
theorem RenHL.nest {S:Nat->Nat->Prop} {g:Bool} {ver s:Nat} {to:TypeId} {rows rows':List (List AV)} {H H':AH} (h:RenK S ⟨ver,s,to,rows⟩ ⟨ver,s,to,rows'⟩) (t:RenHL S H H'):RenHL S (Go.Proofs.YtabfkkjdfhbngaaGreatDoor.bE g ver s to rows::H) (Go.Proofs.YtabfkkjdfhbngaaGreatDoor.bE g ver s to rows'::H'):=by
 cases g with
 | true=>exact .none t
 | false=>exact .some h t
theorem NN.lit (L:List<|List α) (hf:∀ x,(f x).all (isF 9)=Ri):NN (L.map λr=>bE Rj 0 w ty<|r.map f) (λi=>(Rj,i,0)) w ty f L:=by
 refine ⟨⟨λi hi=>⟨Tw _,?_⟩,λi hi hn=>(by cases hn),λi j _ _ hne=>hne⟩,λi k hk=>?_⟩
 ·grind
 rw [TU] at hk
 cases hL:L[i]? with
 | none=>simp_all
 | some r=>
  rw [hL] at hk;exact GZ hf k<|osl hk
structure NX (K:AH) (gh:NG) (w:Nat) (ty:TypeId) (f:α->List AV) (l:List (List α)) (i:Nat):Prop where
 hi:i<l.length
 at_:∀ j,j<l.length->j≠i->K[(gh j).2.1]? = Rk (bE (gh j).1 (gh j).2.2 w ty<|(l.getD j []).map f)
 nil_:∀ j,j<l.length->j≠i->(gh j).1=Ri->l.getD j []=[]
 sep:∀ j k,j<l.length->k<l.length->j≠i->k≠i->j≠k->(gh j).2.1≠(gh k).2.1
 kf:KF K
theorem NN.opened (h:NN K gh w ty f l) {i:Nat} (hi:i<l.length):NX (K.set (gh i).2.1 Rl) gh w ty f l i:=
 ⟨hi,λj hj hne=>by rw [Tq (h.nk.sep i j hi hj<|Ne.symm hne)];exact h.at_ hj,λj hj _=>h.nil_ hj,λj k hj hk _ _ hne=>h.nk.sep j k hj hk hne,h.kf.set nofun⟩
theorem NX.close {i:Nat} (h:NX K gh w ty f l i) {g:Bool} {v:Nat} {r:List α} (hg:g=Ri->r=[]) (hf:∀ x,(f x).all (isF 9)=Ri):NN (bE g v w ty (r.map f)::K) ((up 1 gh).put i (g,0,v)) w ty f (l.set i r):=by
 refine ⟨⟨λj hj=>⟨Tw _,?_⟩,λj hj hn=>?_,λj k hj hk hne he=>?_⟩,h.kf.cons<|GZ hf⟩
 ·have hj':j<l.length:=by simpa using hj
  by_cases e:j=i
  ·subst e;rw [kv]
   grind
  rw [dO _ e];have : (l.set i r).getD j []=l.getD j []:=by simp [Tq (Ne.symm e)]
  rw [this];exact h.at_ j hj' e
 ·have hj':j<l.length:=by simpa using hj
  by_cases e:j=i
  ·subst e;rw [kv] at hn
   simp_all
  rw [dO _ e] at hn;have : (l.set i r).getD j []=l.getD j []:=by simp [Tq (Ne.symm e)]
  rw [this];exact h.nil_ j hj' e hn
 have hj':j<l.length:=by simpa using hj
 have hk':k<l.length:=by simpa using hk
 by_cases e:j=i
 ·by_cases e2:k=i
  ·omega
  subst e;rw [kv,dO _ e2] at he;simp [up] at he
 by_cases e2:k=i
 ·subst e2;rw [kv,dO _ e] at he;simp [up] at he
 rw [dO _ e,dO _ e2] at he;exact h.sep j k hj' hk' e e2 hne (by simpa [up] using he)
def nxs (m:Nat) (gh:NG) (w:Nat) (l:List<|List α) (i:Nat) (g:Bool) (q v n:Nat):List (List AV):=(QT m gh w l).set i [hS g q v w n]
theorem yf {m:Nat} {i:Nat} {g:Bool} {v:Nat} {r:List α} (hi:i<l.length):nxs m (up 1 gh) w l i g (0+m) v r.length=QT m ((up 1 gh).put i (g,0,v)) w (l.set i r):=M7 hi
theorem wP {m i q v n:Nat} {g:Bool} (hi:i<l.length):(nxs m gh w l i g q v n)[i]? = Rk [hS g q v w n]:=by
 unfold nxs;rw [TB (by rw [vX];exact hi)]
theorem FW {m i q v n q' v' n':Nat} {g g':Bool}:(nxs m gh w l i g q v n).set i [hS g' q' v' w n']=nxs m gh w l i g' q' v' n':=by
 unfold nxs
 simp_all
theorem M9 {m i q v n:Nat} {g:Bool}:(nxs m gh w l i g q v n).length=l.length:=by
 unfold nxs;rw [List.length_set,vX]
def Opn (m k:Nat) (i j:Nat):Prop:=(i<m/\j=i)\/(i=k+m/\j=m)\/(m<=i/\i≠k+m/\j=i+1)
theorem Opn.low {m k i:Nat} (h:Nat.blt i m=Ri):Opn m k i i := .inl ⟨nlb h,rfl⟩
theorem Reid.open {b0 m:Nat} {S S' K:AH} {k:Nat} {x:Option ABlk} (hm:S.length=m) (hk:K[k]? = Rk x) (hb:Tt b0 m=Ri) (hS:RenHL (Opn m k) S S') (hK:KF K):Reid b0 (Opn m k) (S++K) (S'++x::K.set k Rl):=by
 have hb:=nlb hb;obtain ⟨h1,h2,h3⟩:=hS.spec;have hm':S'.length=m:=h1.symm.trans hm;have hkl:=(ges hk).1;have a1:∀ i,i<m->(S++K)[i]? = S[i]? := λi hi=>gal (by omega);have a2:∀ q,(S++K)[q+m]? = K[q]? := λq=>by
  grind
 have c1:∀ i,i<m->(S'++x::K.set k Rl)[i]? = S'[i]? := λi hi=>gal (by omega);have c2:(S'++x::K.set k Rl)[m]? = Rk x:=by
  rw [gar (by omega)];have : m-S'.length=0:=by omega
  rw [this]
  rfl
 have c3:∀ q,(S'++x::K.set k Rl)[q+m+1]? = (K.set k Rl)[q]? := λq=>by
  grind
 refine ⟨λi j j' e1 e2=>?_,λi i' j e1 e2=>?_,λi hi => .inl ⟨by omega,rfl⟩,by grind,λj k0 hk0=>?_,λi j k1 hS1 hk1=>?_⟩
 ·rcases e1 with ⟨_,rfl⟩ | ⟨_,rfl⟩ | ⟨_,_,rfl⟩ <;> rcases e2 with ⟨_,rfl⟩ | ⟨_,rfl⟩ | ⟨_,_,rfl⟩ <;> omega
 ·rcases e1 with ⟨_,e1⟩ | ⟨_,e1⟩ | ⟨_,_,e1⟩ <;> rcases e2 with ⟨_,e2⟩ | ⟨_,e2⟩ | ⟨_,_,e2⟩ <;> omega
 ·rcases Nat.lt_trichotomy j m with hj | hj | hj
  ·rw [c1 j hj] at hk0;obtain ⟨k1,g1,g2⟩:=h3 j k0 hk0;exact ⟨j,k1,.inl ⟨hj,rfl⟩,by simp_all,g2⟩
  ·subst hj;rw [c2] at hk0;obtain rfl:=osl hk0;exact ⟨k+j,k0,.inr<|.inl ⟨rfl,rfl⟩,by simp_all,.ofF<|hK k k0 hk⟩
  obtain ⟨q,rfl⟩:∃ q,j=q+m+1:=⟨j-m-1,by omega⟩;rw [c3 q] at hk0;have hq:q≠k:=λe=>by
   simp_all
  rw [Tq (Ne.symm hq)] at hk0;exact ⟨q+m,k0,.inr<|.inr ⟨by omega,by omega,by omega⟩,by simp_all,.ofF<|hK q k0 hk0⟩
 rcases hS1 with ⟨e1,rfl⟩ | ⟨rfl,rfl⟩ | ⟨e1,e2,rfl⟩
 ·grind
 ·simp_all
 obtain ⟨q,rfl⟩:∃ q,i=q+m:=⟨i-m,by omega⟩
 grind
theorem NN.renOpn {ver m i:Nat} {to:TypeId} (h:NN K gh w ty f l) (hi:i<l.length):RenK (Opn m (gh i).2.1) ⟨ver,1,to,QT m gh w l⟩ ⟨ver,1,to,nxs (m+1) gh w l i (gh i).1 m (gh i).2.2 (l.getD i []).length⟩:=by
 refine ⟨rfl,rfl,rfl,by rw [vX,M9],λj r r' hr hr' => ?_⟩;have hj:j<l.length:=by
  have := (ges hr).1
  rwa [vX] at this
 by_cases e:j=i
 ·subst e;rw [DU hj] at hr;rw [wP hj] at hr';obtain rfl:=osl hr;obtain rfl:=osl hr';refine ⟨rfl,λp a a' ha ha' => ?_⟩
  match p with
  | 0=>
   obtain rfl:=osl ha;obtain rfl:=osl ha';exact dz<|.inr<|.inl ⟨rfl,rfl⟩
  | p+1=>grind
 unfold nxs at hr';rw [Tq (Ne.symm e),DU hj] at hr';rw [DU hj] at hr;obtain rfl:=osl hr;obtain rfl:=osl hr';refine ⟨rfl,λp a a' ha ha' => ?_⟩
 match p with
 | 0=>
  obtain rfl:=osl ha;obtain rfl:=osl ha';exact dz<|.inr<|.inr ⟨by omega,λe2=>h.nk.sep j i hj hi e (by omega),by omega⟩
 | p+1=>grind
end
section
variable {P:Program} {H:AH} {s:Nat}
def Fv (P:Program) (H:AH) (s:Nat) (a:AV) (news:List<|List AV):Prop:=∀ (c:Cx) (u:Value),c.H=H->HRel c->c.rel a u ->
 (∀ w,(Builtin.lenOf u).run P w = .ok news.length w)/\(∀ (i:Nat) (row:List AV),news[i]? = Rk row->row.length=s) /\
 ∀ n,n<=news.length->∃ vs:List Value,(∀ w,w.heap=c.w.heap->(Builtin.firstCells s n u).run P w = .ok vs.toArray w)/\CY c s (news.take n) vs
theorem Fv.of {a:AV} {news:List (List AV)} (len:Nat) (hl:news.length=len) (h:∀ (c:Cx) (u:Value),c.H=H->HRel c->c.rel a u->∃ A cap,u = .slice A len cap/\∀ n,n<=len->∃ vs,SrcIs P c s (.slice A n cap) (news.take n) vs):Fv P H s a news:=λc u hH hr hu=>by
 obtain ⟨A,cap,rfl,h1⟩:=h c u hH hr hu;refine ⟨λw=>by rw [hl];simp [Builtin.lenOf],λi row hi=>?_,λn hn=>?_⟩
 ·obtain ⟨vs,h2⟩:=h1 len<|Nat.le_refl _;refine h2.rows i row ?_
  grind
 obtain ⟨vs,h2⟩:=h1 n (by omega);refine ⟨vs,λw hw=>?_,h2.is⟩;have h3:=h2.cells w hw;rw [Tx,TC hn] at h3;rw [<- h3]
 cases A <;> rfl
theorem Fv.own {b ver off len:Nat} {k:ABlk} (hk:H[b]? = Rk (Rk k)) (hv:k.ver=ver) (hs:k.s=s) (hn:off+len<=k.rows.length):Fv P H s (.hs b ver s off len) ((k.rows.drop off).take len):=
 .of len (by grind) λc u hH hr hu=>by
  cases hu with
  | fr h=>cases h
  | @hs _ _ _ _ _ cap A hb hc hm h0 hx=>
   refine ⟨A,cap,rfl,λn hn' => ?_⟩;rw [List.take_take,TC hn'];exact bL.own hk hv hs (by omega) rfl c _ hH hr<|.hs hb (by omega) hm h0 λx hx'=>⟨(hx x hx').1,by grind,(hx x hx').2.2.1,(hx x hx').2.2.2⟩
theorem Fv.fz {α:Type} [Inhabited α] {f:α->List AV} {l:List α} (hf:∀ x,(f x).length=s):Fv P H s (eL f l) (l.map f):=
 .of l.length (by simp) λc u hH hr hu=>by
  have h:=uG hu
  cases h with
  | @sl _ cap sz g o _ a us hc hm ha hs hu2 h1 h=>
   refine ⟨a,cap,rfl,λn hn=>?_⟩;have e:(l.map f).take n=(Tz n).map λi=>f (l.getD i Rh):=by
    rw [<- TV,<- wG f (l.take n),Tx,TC hn];apply List.map_congr_left;intro i hi;have hi':i<n:=by simpa using hi
    simp [TW,hi']
   rw [e];refine bL.sl (H:=c.H) (n:=n) (row:=λi=>f<|l.getD i Rh) (λi _=>hf _) c _ rfl hr<|.fr<|.sl (s:=sz) (g:=g) (o:=o) us (by omega) hm (λh0=>ha<|by omega) (λi hi=>hs i<|by omega) (λi j a hi=>hu2 i j a<|by omega) (λi j a hi=>h1 i j a<|by omega) λi j a hi=>h i j a (by omega)
variable {o:Oper} {ρ:Operand->AV}
theorem Ld {cl:Call} {x y:Operand} {t u e:TypeId} {b ver off len:Nat} {k:ABlk} {news:List (List AV)} (ho:o.op = .call cl) (h1:cl.callee = .builtin .copy) (h2:cl.args.toList=[x,y]) (h3:cl.argTypes.toList=[t,u])
  (ht:P.underlying t=Rk (.slice e)) (hi:(P.info? e).isSome=Ri) (hse:P.cellsOf e=s) (hx:ρ x = .hs b ver s off len) (hb:H[b]? = Rk (Rk k)) (hv:k.ver=ver) (hs:k.s=s) (hoff:off+len<=k.rows.length) (hsrc:Fv P H s (ρ y) news) :
  QO P o ρ H (.v<|.int .i64 (min news.length len:Nat)) (H.set b<|Rk { k with rows:=k.rows.take off++news.take (min news.length len)++k.rows.drop (off+min news.length len) }):=by
 intro c a K Q hH hr hxs hK;obtain ⟨callee,args,ts⟩:=cl;simp only at h1 h2 h3;obtain rfl:args = #[x,y]:=by grind
 obtain rfl:ts = #[t,u]:=by grind
 subst h1;have hx1:=hx ▸ hxs x (by rw [ho];simp [Op.operands,Call.operands]);obtain ⟨hlen,hrl,hfirst⟩:=hsrc c _ hH hr<|hxs y (by rw [ho];simp [Op.operands,Call.operands]);generalize hn:min news.length len=n at hK ⊢;obtain ⟨vs,hvs,his⟩:=hfirst n (by omega);obtain ⟨hvl,hv1,hvr⟩:=his;rw [Tx,TC (by omega)] at hvl;have hl:c.live b k:=by unfold Cx.live;rw [hH];exact hb
 generalize hux:a.eval x=ux at hx1
 cases hx1 with
 | fr h=>cases h
 | @hs _ _ _ _ _ cap A hbn hcl hcm h0 hh=>
  obtain ⟨cur,fr,hB⟩:=hr.blk b k hl;obtain ⟨fr,rfl,hat,hd⟩:=hB.cells hl λx hx=>(hh x<|hv ▸ hx).1.trans hs.symm;rw [hv] at hd;obtain ⟨_,_,hA,hcf⟩:=hh _ hd;simp only at hA hcf;obtain ⟨ti,hti⟩:=kQ hi;have hsize:(sizeOf e).run P c.w = .ok s c.w:=by rw [run_sizeOf c.w hti,<- hse]
  have hexec:∀ w',(match A with | some ad=>(storeCells ad vs).run P c.w | none => .ok () c.w) = .ok () w'->(execOp a.eval o).run P c.w = .ok (.value<|.int .i64 (n:Int)) w':=λw' hw=>by
   have e1:(Builtin.copy_ #[t,u] o.type #[.slice A len cap,a.eval y]).run P c.w = .ok (.int .i64 (n:Int)) w':=by
    have hm:Nat.min news.length len=n:=hn
    cases A with
    | none=>
     simp only at hw;injection hw with _ hw;subst hw;simp [Builtin.copy_,Sem.run_bind,av ht,hlen,hsize,hm,hvs c.w rfl,goInt]
    | some ad=>
     simp only at hw;simp [Builtin.copy_,Sem.run_bind,av ht,hlen,hsize,hm,hvs c.w rfl,hw,goInt]
   simp [execOp,ho,resolve,invoke,builtin,hux,e1]
  unfold Oper.wp;rcases Nat.eq_zero_or_pos n with h00 | hpos
  ·-- nothing is copied
   have hv0:vs=[]:=List.eq_nil_of_length_eq_zero (by simp_all);have hk0:({ k with rows:=k.rows.take off++news.take n++k.rows.drop (off+n) }:ABlk)=k:=by
    rw [h00];simp
   rw [hexec c.w (by subst hv0;cases A <;> rfl)];refine hK _ c ?_ hr (Ext.refl c)<|cf rfl;rw [hk0,DR H b _ hb,hH]
  have h0':0<cap:=by omega
  obtain rfl:=hA h0';have hfit:=hB.fits;have hsp:=hB.pos;have hle:(c.φ b).2+off*s+vs.length<=cur.toList.length:=by
   have h5:(off+len)*s<=k.rows.length*s:=TD _ hoff;have h6:n*s<=len*s:=TD _ (by omega);rw [TE] at h5;have hct:cur.toList.length=cur.size:=Ud;rw [hs] at hfit;rw [hvl,hct];omega
  have hst:=ku (P:=P) (c.φ b).1 ((c.φ b).2+off*s) k.ty fr vs 0 cur c.w hat (hB.fre fr rfl) (by omega) hv1;rw [Nat.add_zero] at hst;have hg2:=λq=>DJ cur.toList _ _ hle q;have hs2:=DK cur.toList _ _ hle;generalize hcs2:(cur.toList.take ((c.φ b).2+off*s)++vs++cur.toList.drop ((c.φ b).2+off*s+vs.length))=ls at *;have hsz2:ls.toArray.size=cur.size:=by simpa using hs2
  have hget:∀ q,ls.toArray[q]? = if (c.φ b).2+off*s<=q/\q<(c.φ b).2+off*s+vs.length then vs[q-((c.φ b).2+off*s)]? else cur[q]? := λq=>by
   simp_all
  have hrl2:(k.rows.take off++news.take n++k.rows.drop (off+n)).length=k.rows.length:=by
   simp only [lla,Tx,TY];omega
  have hrow:∀ (i:Nat) (row:List AV),(k.rows.take off++news.take n++k.rows.drop (off+n))[i]? = Rk row->(off<=i/\i<off+n/\news[i-off]? = Rk row)\/((i<off\/off+n<=i)/\k.rows[i]? = Rk row):=λi row h=>by
   have hnl:(news.take n).length=n:=by simp;omega
   have e:=DJ k.rows off (news.take n) (by rw [hnl];omega) i
   grind
  have hlen2:∀ (i:Nat) (row:List AV),(k.rows.take off++news.take n++k.rows.drop (off+n))[i]? = Rk row->row.length=k.s:=λi row h=>by
   rcases hrow i row h with ⟨_,_,h2⟩ | ⟨_,h2⟩
   ·grind
   exact hB.len i row h2
  have hext:=Cx.upd_ext (k:={ k with rows:=k.rows.take off++news.take n++k.rows.drop (off+n) }) (o:=(c.φ b).2) (cs:=ls.toArray) hr hl hB hsz2 (.inl ⟨rfl,rfl,hrl2,rfl⟩);have hrel:=Cx.upd_rel (k:={ k with rows:=k.rows.take off++news.take n++k.rows.drop (off+n) }) (o:=(c.φ b).2) (cs:=ls.toArray) hr hl hB hsz2 rfl hext hsp (by simp_all) hlen2 (λi row j a' h h'=>by
   have hj:j<s:=by
    have := (ges h').1;rw [hlen2 i row h,hs] at this;exact this
   simp only;rw [hget,hs,hvl];rcases hrow i row h with ⟨g1,g2,g3⟩ | ⟨g1,g3⟩
   ·have hf:=vV (s:=s) (show i-off<n by omega) (j:=j+1) hj;have e:i*s=(i-off)*s+off*s:=by
     rw [<- TE]
     congr 1
     omega
    rw [if_pos (by omega)];obtain ⟨u',q1,q2,q3⟩:=hvr (i-off) row j a' (by grind) h';refine ⟨u',?_,q2,q3⟩;rw [<- q1]
    congr 1
    omega
   have hi':=(ges g3).1;rw [if_neg (λhq=>?_)]
   ·have := hB.rel i row j a' g3 h'
    grind
   rcases g1 with g1 | g1
   ·have hf:=vV (s:=s) g1 (j:=j+1) hj;omega
   have hf:(off+n)*s<=i*s:=TD _ g1
   grind)
  rw [hexec _ hst];exact hK _ _ (by rw [<- hH];rfl) hrel hext (cf rfl)
variable {α:Type} {c:α->List AV} {l k:List α} {x y:Operand} {t u e:TypeId} {ag:Bool} {w m b ver off len:Nat} {zs:List AV}
def cpy (l:List α) (off:Nat) (k:List α) (len:Nat):List α:=if off+len<=l.length then l.take off++k.take (min k.length len)++l.drop (off+min k.length len) else l
theorem De (l:List α) (off:Nat) (k:List α) (len:Nat):(cpy l off k len).length=l.length:=by
 unfold cpy
 grind
theorem Mt {lo hi:Int} {n:Nat} (h:0<=lo/\lo<=hi/\hi<=(n:Int)) (hn:n=l.length):(0+lo.toNat)+(hi.toNat-lo.toNat)<=l.length:=by omega
theorem EvA.copyO (k:List α) (q:SlT P t e ag w zs m) (hx:ρ x = .hs b ver w off len) (hk:H[b]? = Rk (bE Rj ver w e<|l.map c)) (ho:off+len<=l.length) (hsrc:Fv P H w (ρ y)<|k.map c) :
  EvA P ρ (.call ⟨.builtin .copy,#[x,y],#[t,u]⟩) H (I (min k.length len:Nat)) (H.set b<|bE Rj ver w e<|(cpy l off k len).map c):=λo ho'=>by
 have h:=Ld (o:=o) (P:=P) (ρ:=ρ) (H:=H) (k:=⟨ver,w,e,l.map c⟩) ho' rfl rfl rfl q.u q.ty.info q.ty.cells hx hk rfl rfl (by simp_all) hsrc;unfold cpy;rw [if_pos ho];simpa [bE,TV,List.map_drop] using h
theorem Fv.ow {b ver:Nat} {ty:TypeId} (lo n:Nat) (hx:ρ y = .hs b ver w lo n) (hk:H[b]? = Rk (bE Rj ver w ty<|l.map c)) (h:lo+n<=l.length):Fv P H w (ρ y) (((l.drop lo).take n).map c):=by
 rw [hx];have := Fv.own (P:=P) (k:=⟨ver,w,ty,l.map c⟩) hk rfl rfl (off:=lo) (len:=n) (by simpa using h)
 simp_all
theorem Fv.el [Inhabited α] (hx:ρ y=eL c l) (hc:∀ x,(c x).length=w):Fv P H w (ρ y) (l.map c):=by
 rw [hx];exact Fv.fz hc
end
section
variable {P:Program} {K V:Type} [DecidableEq K] {kn vn:Nat} {kc:K->List Value} {cv:V->List AV} {uZ t e:TypeId} {l:List (K×V)} {ρ:Operand->AV} {H:AH} {x y z:Operand} {b:Nat}
theorem EvA.look (q:KeyA P uZ kn kc) (hv:∀ v,(cv v).length=vn) (d:V) {zv:Value} {ok:Bool} (ht:P.underlying t=Rk (.map uZ e)) (hz:∀ w,(zeroValue e).run P w = .ok zv w) (hzr:∀ c:Cx,c.rel (mkA<|cv d) zv) (k:K)
 (hx:ρ x = .mp b (kn+vn)) (hy:ρ y=mkA ((kc k).map AV.v)) (hb:H[b]? = Rk (Rk<|mB kn vn kc cv l)) :
 EvA P ρ (.lookup t x y ok) H (bif ok then .tup [mkA (cv<|(GN l k).getD d),.v (.bool (GN l k).isSome)] else mkA (cv<|(GN l k).getD d)) H:=λ_ ho=>H8 q hv d ho ht hz hzr k hx hy hb
theorem EvA.mset (q:KeyA P uZ kn kc) (hv:∀ v,(cv v).length=vn) (ht:P.underlying t=Rk (.map uZ e)) (hs:0<kn+vn) (k:K) (v:V)
 (hx:ρ x = .mp b (kn+vn)) (hy:ρ y=mkA ((kc k).map AV.v)) (hz:(ρ z).cells=Rk (cv v)) (hzm:mkA (cv v)=ρ z) (hb:H[b]? = Rk (Rk<|mB kn vn kc cv l)) :
 EvA P ρ (.mapUpdate t x y z) H .top (H.set b<|Rk<|mB kn vn kc cv<|I4 l k v):=λ_ ho=>DL q hv (.inl ho) ht hs k v hx hy hz hzm hb
end
section
variable {K V:Type} {kn vn:Nat} {kc:K->List Value} {cv:V->List AV} {l:List (K×V)} {H:AH}
theorem StayB.mp {m:Nat} (hv:∀ v,(cv v).all (isF 9)=Ri):StayB m H (Rk<|mB kn vn kc cv l) (Rk<|mB kn vn kc cv l) := .keep λr hr a ha=>by
 obtain ⟨p,_,rfl⟩:=TH.1 hr;rcases List.mem_append.1 ha with ha | ha
 ·obtain ⟨x,_,rfl⟩:=TH.1 ha
  rfl
 exact zb 9 m a<|Tu.1 (hv p.2) a ha
end
def kI3 (k:Int×Int×Int):List Value:=[.int .i64 k.1,.int .i64 k.2.1,.int .i64 k.2.2]
section
variable {P:Program} {uZ e:TypeId} {i:TypeInfo}
theorem Na (ht:P.underlying uZ=Rk (.array 3 e)) (he:P.underlying e=Rk (.int .i64)) (hp:P.plainKey e=Ri) (hi:P.info? e=Rk i) (hc:P.cellsOf e=1) (d:Nat) (a b:Int×Int×Int) (w:World) :
  (Op.equalIn (d+1+1) uZ (.agg #[.int .i64 a.1,.int .i64 a.2.1,.int .i64 a.2.2])<|.agg #[.int .i64 b.1,.int .i64 b.2.1,.int .i64 b.2.2]).run P w = .ok (Rm<|b=a) w:=by
 have q1:∀ m n:Int,(Op.equalIn (d+1) e (.int .i64 m)<|.int .i64 n).run P w = .ok (m==n) w:=λm n=>by simp [Op.equalIn,run_underlying he]
 have p1:∀ (xs:Array Value) (o:Nat) (v:Value),xs[o]? = Rk v->(part e xs o).run P w = .ok v w:=λxs o v hx=>run_part_plain w hp hx;rw [run_equalIn_array w (d+1) _ _ ht hi,hc];obtain ⟨a1,a2,a3⟩:=a;obtain ⟨b1,b2,b3⟩:=b;have r0:=p1 #[.int .i64 a1,.int .i64 a2,.int .i64 a3] 0 _ rfl;have r1:=p1 #[.int .i64 a1,.int .i64 a2,.int .i64 a3] 1 _ rfl;have r2:=p1 #[.int .i64 a1,.int .i64 a2,.int .i64 a3] 2 _ rfl;have t0:=p1 #[.int .i64 b1,.int .i64 b2,.int .i64 b3] 0 _ rfl;have t1:=p1 #[.int .i64 b1,.int .i64 b2,.int .i64 b3] 1 _ rfl;have t2:=p1 #[.int .i64 b1,.int .i64 b2,.int .i64 b3] 2 _ rfl
 by_cases e1:a1=b1
 ·by_cases e2:a2=b2
  ·by_cases e3:a3=b3
   ·subst e1 e2 e3;simp [TJ,Op.eqItems,Sem.run_bind,r0,r1,r2,q1]
   subst e1 e2;simp [TJ,Op.eqItems,Sem.run_bind,r0,r1,r2,t0,t1,t2,q1,e3,Ne.symm e3]
  subst e1;simp [TJ,Op.eqItems,Sem.run_bind,r0,r1,t0,t1,q1,e2,Ne.symm e2]
 simp [TJ,Op.eqItems,Sem.run_bind,r0,t0,q1,e1,Ne.symm e1]
theorem Lf (ht:P.underlying uZ=Rk (.array 3 e)) (he:P.underlying e=Rk (.int .i64)) (hp:P.plainKey e=Ri) (hi:P.info? e=Rk i) (hc:P.cellsOf e=1) (a b:Int×Int×Int) (w:World) :
 (Op.equal uZ (mkv<|kI3 a)<|mkv<|kI3 b).run P w = .ok (Rm<|b=a) w:=Na ht he hp hi hc 9998 a b w
theorem Nb (ht:P.underlying uZ=Rk (.array 3 e)) (he:P.underlying e=Rk (.int .i64)) (hp:P.plainKey e=Ri) (hi:P.info? e=Rk i) (hc:P.cellsOf e=1) (d:Nat) (em:Bool) (x y z:Int) (w:World) :
  (Instr.checkKey em (d+1+1) uZ<|.agg #[.int .i64 x,.int .i64 y,.int .i64 z]).run P w = .ok () w:=by
 have c1:∀ n:Int,(Instr.checkKey em (d+1) e<|.int .i64 n).run P w = .ok () w:=λn=>by simp [Instr.checkKey,run_underlying he]
 have r0:(part e #[.int .i64 x,.int .i64 y,.int .i64 z] 0).run P w = .ok (.int .i64 x) w:=run_part_plain w hp rfl;have r1:(part e #[.int .i64 x,.int .i64 y,.int .i64 z] 1).run P w = .ok (.int .i64 y) w:=run_part_plain w hp rfl;have r2:(part e #[.int .i64 x,.int .i64 y,.int .i64 z] 2).run P w = .ok (.int .i64 z) w:=run_part_plain w hp rfl;rw [Instr.checkKey];simp only [Sem.run_bind,run_underlying ht,Result.andThen_ok];simp [Std.Legacy.Range.forIn_eq_forIn_range',Std.Legacy.Range.size,List.range'_succ,Sem.run_bind,run_sizeOf w hi,hc,r0,r1,r2,c1]
theorem OI (d:Nat) (x y z:Int):Instr.sameBits (d+1) (.agg #[.int .i64 x,.int .i64 y,.int .i64 z]) (.agg #[.int .i64 x,.int .i64 y,.int .i64 z])=Ri:=by
 simp [Instr.sameBits]
theorem yg (ht:P.underlying uZ=Rk (.array 3 e)) (he:P.underlying e=Rk (.int .i64)) (hp:P.plainKey e=Ri) (hi:P.info? e=Rk i) (hc:P.cellsOf e=1) (k:Int×Int×Int) (w:World):∀ (es:List MapEntry) (ks:List<|Int×Int×Int) (q:Nat),es.map (·.key)=ks.map (λk=>mkv<|kI3 k) ->
  (Instr.findAsking uZ (mkv<|kI3 k) es q).run P w = .ok ((ks.findIdx? λx=>Rm<|x=k).bind λj=>es[j]?.map λe=>(q+j,e.val)) w
 | [],[],_,_=>rfl
 | [],_::_,_,h=>by grind
 | _::_,[],_,h=>by grind
 | en::es,s::ks,q,h=>by
  simp only [List.map_cons,List.cons.injEq] at h;obtain ⟨h1,h2⟩:=h;have ih:=yg ht he hp hi hc k w es ks (q+1) h2;unfold Instr.findAsking;simp only [Sem.run_bind,h1,Lf ht he hp hi hc,Result.andThen_ok]
  by_cases hs:s=k
  ·subst hs;simp [List.findIdx?_cons]
  rw [decide_eq_false hs];simp only [TZ,if_false,ih,List.findIdx?_cons,decide_eq_false hs]
  cases ks.findIdx? λx=>Rm (x=k) with
  | none=>rfl
  | some j=>
   grind
theorem PO (ht:P.underlying uZ=Rk (.array 3 e)) (he:P.underlying e=Rk (.int .i64)) (hp:P.plainKey e=Ri) (hi:P.info? e=Rk i) (hc:P.cellsOf e=1):KeyA P uZ 3 kI3 where
 len:=λ_=>rfl
 plain:=λk x hx=>by
  simp only [kI3,List.mem_cons,List.not_mem_nil,or_false] at hx;rcases hx with rfl | rfl | rfl <;> rfl
 check:=λw em k=>Nb ht he hp hi hc 9998 em k.1 k.2.1 k.2.2 w
 find:=λw k es ks h=>by
  rw [run_findKey_eq w (by rw [ht]) _ es,yg ht he hp hi hc k w es ks 0 h]
  simp_all
 stays:=λw k=>by
  have : Instr.sameBits 10000 (mkv<|kI3 k) (mkv<|kI3 k)=Ri:=OI 9999 k.1 k.2.1 k.2.2;unfold Instr.keyThatStays
  simp_all
end
theorem Cx.trim {c:Cx} {b ver s off n:Nat} {ty:TypeId} {rows:List (List AV)} (hr:HRel c) (hb:c.H[b]? = Rk (Rk ⟨ver,s,ty,rows⟩)) (hle:off+n<=rows.length) {v:Value} (hv:c.rel (.hs b ver s off n) v) :
  ∃ c':Cx,c'.w=c.w/\c'.H=c.H.set b (Rk ⟨ver+1,s,ty,(rows.drop off).take n⟩)/\HRel c'/\Ext c c'/\c'.rel (.hs b (ver+1) s 0 n) v:=by
 have hlv:c.live b ⟨ver,s,ty,rows⟩:=hb;have hblt:b<c.H.length:=(ges hb).1;obtain ⟨cs,fr,hB⟩:=hr.blk b _ hlv
 cases hv with
 | fr h=>cases h
 | @hs _ _ _ _ _ cap A hbn hc hm h0 hh=>
  obtain ⟨fr,rfl,hat,hd⟩:=hB.cells hlv λx hx=>(hh x hx).1;obtain ⟨_,hn,hA,hcap⟩:=hh _ hd;let c':Cx:={ w:=c.w,fz:=c.fz,H:=c.H.set b (Rk ⟨ver+1,s,ty,(rows.drop off).take n⟩),φ:=λj=>if j=b then ((c.φ b).1,(c.φ b).2+off*s) else c.φ j };have φb:c'.φ b=((c.φ b).1,(c.φ b).2+off*s):=if_pos rfl;have φo:∀ {j},j≠b->c'.φ j=c.φ j:=λ{j} hj=>if_neg hj;have φ1:∀ j,(c'.φ j).1=(c.φ j).1:=λj=>by
   grind
  have Hb:c'.H[b]? = Rk (Rk ⟨ver+1,s,ty,(rows.drop off).take n⟩):=by
   show (c.H.set b _)[b]? = _
   simp_all
  have Ho:∀ {j},j≠b->c'.H[j]? = c.H[j]? := λ{j} hj=>by
   grind
  have lv:∀ {j k},c'.live j k->(j=b/\k=⟨ver+1,s,ty,(rows.drop off).take n⟩)\/(j≠b/\c.live j k):=λ{j k} hl=>by
   by_cases hj:j=b
   ·subst hj;have hl':c'.H[j]? = Rk (Rk k):=hl
    simp_all
   have hl':c'.H[j]? = Rk (Rk k):=hl;rw [Ho hj] at hl';exact .inr ⟨hj,hl'⟩
  have hx:Ext c c':=by
   refine ⟨rfl,rfl,rfl,Nat.le_refl _,λ_ _ _=>rfl,λ_ h=>h,λ_ h => .inl h,by grind,λj q hj=>?_,λj q x hj hx=>?_,λj k hl => .inr ?_⟩
   ·by_cases e:j=b
    ·subst e;unfold Cx.born at hj ⊢
     grind
    unfold Cx.born at hj ⊢
    simp_all
   ·by_cases e:j=b
    ·subst e;unfold Cx.born at hj;rw [hb] at hj;unfold Cx.hd at hx
     grind
    unfold Cx.hd at hx ⊢
    grind
   grind
  have hlen:((rows.drop off).take n).length=n:=by rw [Tx,TY];omega
  have hfit:=hB.fits;simp only at hfit;refine ⟨c',rfl,rfl,⟨hr.lt,λj k hl=>?_,λj j' k k' hl hl' hne=>?_,hr.glx hx⟩,hx,?_⟩
  ·rcases lv hl with ⟨rfl,rfl⟩ | ⟨hj,h⟩
   ·refine ⟨cs,Rk fr,⟨?_,?_,hB.pos,hB.free,?_,λi r hi=>?_,λi r q a hi ha=>?_⟩⟩
    ·show c.w.heap[(c'.φ j).1]? = _;rw [φ1,hat]
     rfl
    ·rw [φ1];exact hB.nf
    ·rw [φb];show (c.φ j).2+off*s+((rows.drop off).take n).length*s<=cs.size;rw [hlen];have : off*s+n*s<=rows.length*s:=by rw [<- TE];exact TD s hle
     omega
    ·have hi':((rows.drop off).take n)[i]? = Rk r:=hi;rw [TW] at hi'
     split at hi'
     ·rw [List.getElem?_drop] at hi';exact hB.len _ r hi'
     simp_all
    have hi':((rows.drop off).take n)[i]? = Rk r:=hi;rw [TW] at hi'
    split at hi'
    ·rw [List.getElem?_drop] at hi';obtain ⟨u,g1,g2,g3⟩:=hB.rel _ r q a hi' ha;refine ⟨u,?_,g2,g3.ext hr hx⟩;rw [φb];show cs[(c.φ j).2+off*s+i*s+q]? = Rk u;rw [<- g1]
     congr 1
     show (c.φ j).2+off*s+i*s+q=(c.φ j).2+(off+i)*s+q;rw [TE];omega
    simp_all
   obtain ⟨cs',fr',hB'⟩:=hr.blk j k h;exact ⟨cs',fr',⟨by rw [φo hj];exact hB'.at_,by rw [φo hj];exact hB'.nf,hB'.pos,hB'.free,by rw [φo hj];exact hB'.fits,hB'.len,λi r q a hi ha=>by
    obtain ⟨u,g1,g2,g3⟩:=hB'.rel i r q a hi ha;exact ⟨u,by simp_all,g2,g3.ext hr hx⟩⟩⟩
  ·have old:∀ {j k},c'.live j k->∃ k0,c.live j k0:=λ{j k} hl=>by
    grind
   obtain ⟨_,h1⟩:=old hl;obtain ⟨_,h2⟩:=old hl';rw [φ1,φ1];exact hr.inj j j' _ _ h1 h2 hne
  refine .hs ?_ hc hm h0 λx hx=>?_
  ·unfold Cx.born
   simp_all
  have hat':c'.w.heap[(c'.φ b).1]? = Rk (.cells cs ty fr):=by rw [φ1];exact hat
  have := Cx.hd_of (c:=c') (b:=b) (k:=⟨ver+1,s,ty,(rows.drop off).take n⟩) Hb hat';have he:=hx.symm.trans this;simp only [hdo,sie] at he
  simp_all
section
variable {P:Program} {ρ:Operand->AV} {H:AH}
theorem EvA.trim {op:Op} {b ver s off n:Nat} {ty:TypeId} {rows:List (List AV)} (h:QR P ρ op<|.hs b ver s off n) (hb:H[b]? = Rk (Rk ⟨ver,s,ty,rows⟩)) (hle:off+n<=rows.length) :
  EvA P ρ op H (.hs b (ver+1) s 0 n) (H.set b<|Rk ⟨ver+1,s,ty,(rows.drop off).take n⟩):=λo ho c a K Q hH hr hxs hK=>
 h o ho H c a K Q hH hr hxs λv c1 hH1 hr1 hx1 hv1=>by
  obtain ⟨c2,e1,e2,e3,e4,e5⟩:=Cx.trim hr1 (by rw [hH1];exact hb) hle hv1;rw [<- e1];exact hK v c2 (by simp_all) e3 (hx1.trans e4) e5
theorem EvA.cutO {α:Type} {f:α->List AV} {op:Op} {b ver w n:Nat} {ty:TypeId} (l:List α) {zl zh:Int} (h:QR P ρ op<|.hs b ver w (0+zl.toNat)<|zh.toNat-zl.toNat) (hb:H[b]? = Rk (bE Rj ver w ty<|l.map f)) (hn:n=l.length)
  (g:0<=zl/\zl<=zh/\zh<=(n:Int)) :
  EvA P ρ op H (hS Rj b (ver+1) w ((l.drop zl.toNat).take<|zh.toNat-zl.toNat).length) (H.set b<|bE Rj (ver+1) w ty<|((l.drop zl.toNat).take<|zh.toNat-zl.toNat).map f):=by
 obtain ⟨g1,g2,g3⟩:=g;have hl:((l.drop zl.toNat).take<|zh.toNat-zl.toNat).length=zh.toNat-zl.toNat:=by rw [Tx,TY];omega
 have := EvA.trim h (rows:=l.map f) hb (by grind);rw [hl,TV,List.map_drop];rw [T9] at this;exact this
inductive FzP (H:AH):AV->AV->Prop
 | fz {a a':AV} (h:Fz 0 H a a'):FzP H a a'
 | hp {b ver s j:Nat} {ty:TypeId} {r x row':List AV} (hk:H[b]? = Rk (Rk ⟨ver,s,ty,[r++x]⟩)) (h:FzL 0 H r row'):FzP H (.hp b ver s 0 j) (.fp row' j)
theorem FzP.sound {c:Cx} (hr:HRel c) {a r:AV} (h:FzP c.H a r):∀ v,c.rel a v->FRel c.w (c.all 0) r v:=by
 cases h with
 | fz h=>exact Fz.sound hr h
 | @hp b ver s j ty r x row' hk h=>
  intro u hu;have hlv:c.live b ⟨ver,s,ty,[r++x]⟩:=hk;obtain ⟨hl,h⟩:=h.spec;obtain ⟨cs,fr,hB⟩:=hr.blk b _ hlv
  cases hu with
  | fr h=>cases h
  | hp hb hh=>
   obtain ⟨fr,rfl,hat,hd⟩:=hB.cells hlv λx hx=>(hh x hx).1;obtain ⟨hs',rfl⟩:=hh _ hd;refine .fp (g:=(c.φ b).1) (o:=(c.φ b).2+0*s) (λj=>(cs[(c.φ b).2+0*s+j]?).getD undef) (.inr ⟨b,_,Tw _,hlv,rfl⟩) (hr.live_lt hlv) (λq d hq=>?_) (λq d hq=>?_) λq d hq=>?_
   all_goals
    obtain ⟨y,hy⟩:=bG hl.symm hq;have hlt:=(ges hy).1;obtain ⟨u,g1,g2,g3⟩:=hB.rel 0 (r++x) q y rfl (by grind);replace g1:cs[(c.φ b).2+0*s+q]? = Rk u:=g1
   ·rw [cell_of_row c.w _ _ cs ty fr hat,g1]
    rfl
   ·simp_all
   rw [g1];exact Fz.sound hr (h q y d hy hq) u g3
inductive FzPL (H:AH):List AV->List AV->Prop
 | nil:FzPL H [] []
 | cons {a b:AV} {l k:List AV} (h:FzP H a b) (t:FzPL H l k):FzPL H (a::l) (b::k)
theorem FzPL.spec {l k:List AV} (h:FzPL H l k):l.length=k.length/\∀ (i:Nat) (c d:AV),l[i]? = Rk c->k[i]? = Rk d->FzP H c d:=by
 induction h with
 | nil=>simp_all
 | cons h t ih=>
  grind
theorem ax.tmpP {f:FuncId} {r:AV} {Rf as':List AV} (h:ax P f as' r) (hl0:Rf.length=as'.length) (hz:∀ (i:Nat) (a a':AV),Rf[i]? = Rk a->as'[i]? = Rk a'->FzP H a a') (hd:dry 9 r=Ri):dS P f Rf H r H:=by
 refine ⟨h.1,λc vs hH hr hall=>?_⟩;obtain ⟨hl,hrel⟩:=hall;refine (h.2 c.w (c.all 0) vs (λg hg=>Cx.all_lt hr hg) (hr.gl.mono (Nat.le_refl _) λ_ hg _=>⟨rfl,.inl hg⟩) (hl.trans hl0) λi a v ha hv=>?_).mono λe w' ⟨v,fz',he,hb,hv,h1,h2,h3⟩ => ?_
 ·obtain ⟨q,hq⟩:=bG hl0.symm ha;exact FzP.sound hr (by grind) v<|hrel i q v hq hv
 obtain ⟨g1,g2⟩:=xZ hr hb (fz':=λ_=>False) (λg hg=>hg.elim) (λg hg=>hg.elim) λb k hlv hz=>hz.elim;exact ⟨v,{ w:=w',fz:=λg=>c.fz g\/False,H:=c.H,φ:=c.φ },he,rfl,hH,g1,g2,.fr<|A8 9 r v hd hv⟩
theorem EvA.callTP {cl:Call} {f:Operand} {g:FuncId} {Rf:List AV} {r:AV} (hc:cl.callee = .value f) (hf:ρ f = .fn (.func g) []) (h:ax P g Rf r) (hz:FzPL H (cl.args.toList.map ρ) Rf) (hd:dry 9 r=Ri):EvA P ρ (.call cl) H r H:=
 EvA.call hc hf (List.append_nil _) (h.tmpP hz.spec.1 hz.spec.2 hd)
end
def OJ (r:AV) (G:Nat->AH):AV->AH->Prop:=λr' G'=>∃ ver,r'=r/\G'=G ver
def Qo:List Nat->AH->AH->AH
 | [],_,H=>H
 | b::bs,G,H=>match G with
  | []=>H
  | x::xs=>Qo bs xs (H.set b x)
def Oj (H:AH) (ids:List Nat) (G:AH):AH:=Qo ids G H
theorem BI {H:AH} {b:Nat} {bs:List Nat} {x:Option ABlk} {xs:AH}:Oj H (b::bs) (x::xs)=Oj (H.set b x) bs xs:=rfl
theorem BJ:∀ (ids:List Nat) (H G:AH),(Oj H ids G).length=H.length
 | [],_,_=>rfl
 | _::_,_,[]=>rfl
 | b::bs,H,x::xs=>by rw [BI,BJ bs,List.length_set]
theorem FX {b:Nat}:∀ (ids:List Nat) (H G:AH),b∉ids->(Oj H ids G)[b]? = H[b]?
 | [],_,_,_=>rfl
 | _::_,_,[],_=>rfl
 | c::bs,H,x::xs,h=>by
  rw [BI,FX bs _ _ (λhm=>h<|.tail _ hm),Tq (λe=>h<|by simp_all)]
theorem FY:∀ (ids:List Nat) (H G:AH) (i b:Nat),ids.Nodup->ids[i]? = Rk b->b<H.length->i<G.length->(Oj H ids G)[b]? = G[i]?
 | [],_,_,_,_,_,h,_,_=>by grind
 | _::_,_,[],_,_,_,_,_,h=>by grind
 | c::bs,H,x::xs,i,b,hn,h,hb,hi=>by
  rw [BI];obtain ⟨hn1,hn2⟩:=List.nodup_cons.1 hn
  cases i with
  | zero=>
   simp only [Tv,sie] at h;subst h;rw [FX bs _ _ hn1,TB hb]
   rfl
  | succ i=>
   simp only [TT] at h;rw [FY bs _ xs i b hn2 h (by simp_all) (by simp_all)]
   rfl
inductive OutAt (S:Nat->Nat->Prop) (H:AH):List Nat->AH->Prop
 | nil:OutAt S H [] []
 | cons {b:Nat} {k k0:ABlk} {bs:List Nat} {G:AH} (hb:H[b]? = Rk (Rk k)) (hk:RenK S k k0) (t:OutAt S H bs G):OutAt S H (b::bs) (Rk k0::G)
 | none {b:Nat} {bs:List Nat} {G:AH} (hb:H[b]? = Rk Option.none) (t:OutAt S H bs G):OutAt S H (b::bs) (Option.none::G)
theorem OutAt.spec {S:Nat->Nat->Prop} {H:AH} {ids:List Nat} {G:AH} (h:OutAt S H ids G):ids.length=G.length/\∀ (i b:Nat),ids[i]? = Rk b->(H[b]? = Rk Option.none/\G[i]? = Rk Option.none)\/∃ k k0:ABlk,H[b]? = Rk (Rk k)/\G[i]? = Rk (Rk k0)/\RenK S k k0:=by
 induction h with
 | nil=>simp_all
 | @none b bs G hb t ih=>
  grind
 | @cons b k k0 bs G hb hk t ih=>
  grind
section
variable {P:Program}
theorem dN.outAt {f:FuncId} {as0 Rf:List AV} {H0 H:AH} {r0 r:AV} {G0:Nat->AH} (h:dN P f as0 H0<|OJ r0 G0) (ids:List Nat) (hn:ids.Nodup) (hin:OutAt (λb i=>ids[i]? = Rk b) H ids H0) (has:RenL (λb i=>ids[i]? = Rk b) Rf as0)
  {G G':Nat->AH} (N:Nat) (hN:H.length=N) (hout:∀ v,RenHL (sg ids N) (G0 v)<|G v) (hlen:∀ v,(G0 v).length=ids.length) (hr:Ren (sg ids N) r0 r) (hG:∀ v,Oj H ids (G v)=G' v):dN P f Rf H (OJ r G'):=by
 subst hN;refine h.frameN ids hn hin.spec.1 hin.spec.2 has.spec.1 has.spec.2 λr1 G1 ⟨v,e1,e2⟩=>⟨r,G' v,?_,by simp_all,v,rfl,rfl⟩;subst e2;obtain ⟨l1,l2,l3⟩:=(hout v).spec;have hl:=hlen v;have lt:∀ {i b},ids[i]? = Rk b->b<H.length:=λ{i b} hi=>by
  rcases hin.spec.2 i b hi with ⟨h1,_⟩ | ⟨k,_,h1,_⟩
  ·exact (ges h1).1
  grind
 have sgi:∀ {i b},i<(G0 v).length->sg ids H.length i b->ids[i]? = Rk b:=λ{i b} hi hs=>by
  rcases hs with hs | ⟨hs,_⟩
  ·exact hs
  omega
 refine ⟨by omega,by rw [<- hG,BJ];omega,λi b hi hs hd=>?_,λi b k0 hs hk=>?_,λb hb hni=>by rw [<- hG,FX _ _ _ hni]⟩
 ·have hib:=sgi hi hs;rw [<- hG,FY ids H (G v) i b hn hib (lt hib) (by omega)];have hg:i<(G v).length:=by omega
  rw [geq hg]
  cases hc:(G v)[i] with
  | none=>rfl
  | some k'=>
   obtain ⟨k,h1,_⟩:=l3 i k' (by rw [geq hg,hc])
   simp_all
 have hi:=(ges hk).1;have hib:=sgi hi hs;obtain ⟨k',h1,h2⟩:=l2 i k0 hk;refine ⟨k',?_,h2⟩;rw [<- hG,FY ids H (G v) i b hn hib (lt hib) (by omega)];exact h1
end
section
variable {P:Program} {nt b0:Nat} {Q:Exit->Env->AH->Prop} {en:List (Nat×AV)} {H:AH} {ops:Array Oper} {l:List Oper} {d:Tmp} {t:TypeId} {pos:String} {af:Array Edge}
theorem oW {cl:Call} {f:Operand} {g:FuncId} {oO Rf:List AV} {r:AV} {G:Nat->AH} (hc:cl.callee = .value f) (hf:rho (ai en) f = .fn (.func g) oO) (ha:cl.args.toList.map (rho<|ai en)++oO=Rf)
  (h:dN P g Rf H<|OJ r G) (k:∀ ver,TO P nt b0 ops l Q (ai ((d,r)::en))<|G ver):TO P nt b0 ops (⟨Rk d,.call cl,t,pos,af,Rl⟩::l) Q (ai en) H:=by
 subst ha;exact TO.runG (.free rfl) (Ba rfl hc hf h) λr' H' ⟨ver,hr,hH⟩=>by
  subst hr hH;exact k ver
end
theorem RenK.mB {K V:Type} {kn vn:Nat} {kc:K->List Value} {cv:V->List AV} {l:List (K×V)} (S:Nat->Nat->Prop) (hv:∀ v,(cv v).all (isF 9)=Ri):RenK S (mB kn vn kc cv l) (mB kn vn kc cv l) := .ofF λr hr a ha=>by
 obtain ⟨p,_,rfl⟩:=TH.1 hr;rcases List.mem_append.1 ha with ha | ha
 ·obtain ⟨x,_,rfl⟩:=TH.1 ha
  rfl
 grind
theorem RenK.bE' {S:Nat->Nat->Prop} {α:Type} {v w:Nat} {ty:TypeId} {f:α->List AV} {x:List α} (hf:∀ x,(f x).all (isF 9)=Ri):RenK S ⟨v,w,ty,x.map f⟩ ⟨v,w,ty,x.map f⟩ := .ofF λr hr a ha=>BG hf r hr a ha
section
variable {P:Program} {K:Type} [DecidableEq K] {kn:Nat} {kc:K->List Value} {uZ t e:TypeId} {l:List (K×Bool)} {ρ:Operand->AV} {H:AH} {x y z:Operand} {b:Nat}
theorem Lg {zv:Value} (hz:(P.info? e).bind (·.zero)=Rk zv) (w:World):(zeroValue e).run P w = .ok zv w:=by
 cases hi:P.info? e with
 | none=>simp_all
 | some i=>
  rw [hi] at hz;have hz':i.zero=Rk zv:=hz;simp [zeroValue,typeInfo,hi,hz']
theorem EvA.lookB (q:KeyA P uZ kn kc) (ht:P.underlying t=Rk (.map uZ e)) (hz:(P.info? e).bind (·.zero)=Rk (.bool Rj)) (k:K)
  (hx:ρ x = .mp b (kn+1)) (hy:ρ y=mkA ((kc k).map AV.v)) (hb:H[b]? = Rk (Rk<|mB kn 1 kc cB l)) :
  EvA P ρ (.lookup t x y Rj) H (Bo<|(GN l k).getD Rj) H:=
 EvA.look (vn:=1) (cv:=cB) (ok:=false) q (λ_=>rfl) Rj ht (Lg hz) (λ_ => .fr<|.v rfl) k hx hy hb
theorem EvA.msetB (q:KeyA P uZ kn kc) (ht:P.underlying t=Rk (.map uZ e)) (k:K) (v:Bool)
  (hx:ρ x = .mp b (kn+1)) (hy:ρ y=mkA ((kc k).map AV.v)) (hz:ρ z=Bo v) (hb:H[b]? = Rk (Rk<|mB kn 1 kc cB l)) :
  EvA P ρ (.mapUpdate t x y z) H .top (H.set b<|Rk<|mB kn 1 kc cB<|I4 l k v):=
 EvA.mset (vn:=1) (cv:=cB) q (λ_=>rfl) ht (Nat.succ_pos kn) k v hx hy (by rw [hz];rfl) (by rw [hz];rfl) hb
omit [DecidableEq K] in
end
section
variable {P:Program}
theorem dN.mkS {f:FuncId} {fn:Func} {body:Code} {Rf:List AV} {H:AH} {R:AV->AH->Prop} (hf:P.funcs[f]? = Rk fn) (hb:fn.body=Rk body) (hcall:iq P f=Ri) (hn:Tt Rf.length fn.ntmps=Ri)
 (hok:codeOk fn.ntmps body=Ri) {e0:Env} (hw:CF (KV Rf) e0) (h:T P fn.ntmps H.length body (SQ H.length<|Fin P fn R) e0 H):dN P f Rf H R:=dN.mkT hf hb hcall hn hok hw h.leaf
end
section
variable {P:Program} {ρ:Operand->AV} {H:AH}
theorem Jj {o:Oper} {t:TypeId} {x:Operand} {cs:List AV} {b:Nat} (ho:o.op = .box t x) (hc:(ρ x).cells=Rk cs) (h0:0<cs.length) (hb:H[b]? = Rk Rl):QO P o ρ H (.hp b 0 cs.length 0 0) (H.set b<|Rk ⟨0,cs.length,t,[cs]⟩):=by
 intro c a K Q hH hr hx hK;have hx1:=hx x (by rw [ho];simp [Op.operands]);have hz':=ve hx1 hc;have hsz:=hz'.size;subst hH;have hrel:HRel (c.newAt b ⟨0,cs.length,t,[cs]⟩ (a.eval x).cells):=by
  refine Cx.newAt_rel hr hb h0 (by simp_all) (λi row h=>?_) λi row j a h1 h2=>?_
  ·grind
  match i,h1 with
  | 0,h1=>
   simp only [Tv,sie] at h1;subst h1;simpa using hz'.get h2
  | i+1,h1=>grind
 have hrun:(execOp a.eval o).run P c.w = .ok (.value<|.pointer<|Rk ⟨c.w.heap.size,0,Rl⟩) (c.newAt b ⟨0,cs.length,t,[cs]⟩ (a.eval x).cells).w:=by
  rw [execOp,ho];refine (?_:Sem.run P _ c.w=_);have : (Instr.box t<|a.eval x).run P c.w = .ok (.pointer<|Rk ⟨c.w.heap.size,0,Rl⟩) (c.w.alloc<|.cells (a.eval x).cells t):=by
   simp [Instr.box,newVar,newRow]
  simp only [Sem.run_bind,this,Result.andThen_ok,Sem.run_pure]
  rfl
 unfold Oper.wp;rw [hrun];have hl2:=Cx.newAt_self (c:=c) (k:=⟨0,cs.length,t,[cs]⟩) (cs:=(a.eval x).cells) hb;have hφ2:(c.newAt b ⟨0,cs.length,t,[cs]⟩ (a.eval x).cells).φ b=(c.w.heap.size,0):=if_pos rfl;refine hK _ (c.newAt b ⟨0,cs.length,t,[cs]⟩ (a.eval x).cells) rfl hrel (Cx.newAt_ext hr hb)<|.hp ?_ λq hq=>?_
 ·unfold Cx.born;rw [show (c.newAt b ⟨0,cs.length,t,[cs]⟩ (a.eval x).cells).H[b]? = Rk (Rk _) from hl2];omega
 have := Cx.hd_of hl2 (o:=.cells (a.eval x).cells t) (by rw [hφ2];exact heap_alloc_new _ _);rw [hφ2] at this;have he:=hq.symm.trans this;simp only [hdo,sie] at he
 simp_all
theorem EvA.bxA {t:TypeId} {x:Operand} {cs:List AV} (b:Nat) (hx:(ρ x).cells=Rk cs) (hn:(Nat.blt 0 cs.length)=Ri) (hb:H[b]? = Rk Rl):EvA P ρ (.box t x) H (.hp b 0 cs.length 0 0) (H.set b<|Rk ⟨0,cs.length,t,[cs]⟩):=
 λ_ ho=>Jj ho hx (nlb hn) hb
end
def Cx.mapAt (c:Cx) (b:Nat) (k:ABlk):Cx:={ w:=c.w.alloc (.map #[] 0),fz:=c.fz,H:=c.H.set b (Rk k),φ:=λq=>if q=b then (c.w.heap.size,0) else c.φ q }
section
variable {c:Cx} {b:Nat} {k:ABlk}
theorem Cx.mapAt_live {q:Nat} {k':ABlk} (h:(c.mapAt b k).live q k'):(q=b/\k'=k)\/(q≠b/\c.live q k'):=Cx.newAt_live (cs:=#[]) h
theorem Cx.mapAt_φ {q:Nat} (h:q≠b):(c.mapAt b k).φ q=c.φ q:=if_neg h
theorem Cx.mapAt_ext (hr:HRel c) (hb:c.H[b]? = Rk Rl):Ext c (c.mapAt b k) where
 os:=rfl
 tape:=rfl
 output:=rfl
 size:=by simp [Cx.mapAt]
 keep:=λg hg _=>Below.heap_alloc _ _ _ hg
 fz:=λ_ h=>h
 uX:=λ_ h => .inl h
 N:=by simp [Cx.mapAt]
 born:=λ_ _ h=>(Cx.newAt_born (k:=k) (cs:=#[]) hb h).2
 hd:=λq ver x hq hx=>by
  obtain ⟨k',hl,hv,o,hc,hx'⟩:=Cx.hd_some hx;have hne:=(Cx.newAt_born (k:=k) (cs:=#[]) hb hq).1;rcases Cx.mapAt_live hl with ⟨e,_⟩ | ⟨_,hl'⟩
  ·omega
  rw [Cx.mapAt_φ hne] at hc hx';have hh:c.w.heap[(c.φ q).1]? = Rk o:=by
   rw [<- hc];exact (Below.heap_alloc _ _ _<|hr.live_lt hl').symm
  rw [<- hv];exact (Cx.hd_of hl' hh).trans hx'
 ib:=λq k' hl=>by
  rcases Cx.mapAt_live hl with ⟨rfl,rfl⟩ | ⟨hne,hl'⟩
  ·left
   simp [Cx.mapAt]
  exact .inr ⟨q,k',hl',by rw [Cx.mapAt_φ hne]⟩
theorem Cx.mapAt_rel (hr:HRel c) (hb:c.H[b]? = Rk Rl) {kn s:Nat} (hs:0<s):HRel (c.mapAt b ⟨0,s,kn,[]⟩) where
 gl:=hr.glx<|Cx.mapAt_ext hr hb
 lt:=λg hg=>by
  have := hr.lt g hg;simp [Cx.mapAt];omega
 blk:=λq k' hq=>by
  rcases Cx.mapAt_live hq with ⟨rfl,rfl⟩ | ⟨hne,hl'⟩
  ·have e:(c.mapAt q ⟨0,s,kn,[]⟩).φ q=(c.w.heap.size,0):=if_pos rfl;exact ⟨#[],Rl,⟨by rw [e];exact (heap_alloc_new c.w<|.map #[] 0).trans (by simp [ID]),by rw [e];exact λhz=>Nat.lt_irrefl _<|hr.lt _ hz,hs,λf hf=>by grind,by simp_all,λi row h=>by grind,λi row j a h=>by grind⟩⟩
  obtain ⟨cs',fr,hB⟩:=hr.blk q k' hl';refine ⟨cs',fr,⟨by rw [Cx.mapAt_φ hne];exact (Below.heap_alloc _ _ _<|hr.live_lt hl').trans hB.at_,by rw [Cx.mapAt_φ hne];exact hB.nf,hB.pos,hB.free,by rw [Cx.mapAt_φ hne];exact hB.fits,hB.len,λi row j a h1 h2=>?_⟩⟩;obtain ⟨u,h3,h4,h5⟩:=hB.rel i row j a h1 h2;exact ⟨u,by rw [Cx.mapAt_φ hne];exact h3,h4,h5.ext hr<|Cx.mapAt_ext hr hb⟩
 inj:=λq q' k1 k2 h1 h2 hne=>by
  have lt:∀ {j kj},c.live j kj->(c.φ j).1<c.w.heap.size:=λhl=>hr.live_lt hl;rcases Cx.mapAt_live h1 with ⟨rfl,rfl⟩ | ⟨hn1,hl1⟩
  ·rcases Cx.mapAt_live h2 with ⟨rfl,rfl⟩ | ⟨hn2,hl2⟩
   ·omega
   have := hr.live_lt hl2;rw [show (c.mapAt q ⟨0,s,kn,[]⟩).φ q=(c.w.heap.size,0) from if_pos rfl,Cx.mapAt_φ hn2];omega
  rcases Cx.mapAt_live h2 with ⟨rfl,rfl⟩ | ⟨hn2,hl2⟩
  ·have := hr.live_lt hl1;rw [show (c.mapAt q' ⟨0,s,kn,[]⟩).φ q'=(c.w.heap.size,0) from if_pos rfl,Cx.mapAt_φ hn1];omega
  rw [Cx.mapAt_φ hn1,Cx.mapAt_φ hn2];exact hr.inj q q' k1 k2 hl1 hl2 hne
end
section
variable {P:Program} {ρ:Operand->AV} {H:AH}
theorem Jk {o:Oper} {t:TypeId} {kn s b:Nat} (ho:o.op = .makeMap t Rl) (hs:0<s) (hb:H[b]? = Rk Rl):QO P o ρ H (.mp b s) (H.set b<|Rk ⟨0,s,kn,[]⟩):=by
 intro c a Kk Q hH hr hxs hK;subst hH;have : (execOp a.eval o).run P c.w = .ok (.value<|.map<|Rk c.w.heap.size) (c.mapAt b ⟨0,s,kn,[]⟩).w:=by
  rw [execOp,ho];refine (?_:Sem.run P _ c.w=_);simp [Instr.makeMap,Cx.mapAt]
 unfold Oper.wp;rw [this];have hl2:(c.mapAt b ⟨0,s,kn,[]⟩).live b ⟨0,s,kn,[]⟩:=Cx.newAt_self (k:=⟨0,s,kn,[]⟩) (cs:=#[]) hb;have e:(c.mapAt b ⟨0,s,kn,[]⟩).φ b=(c.w.heap.size,0):=if_pos rfl;refine hK _ (c.mapAt b ⟨0,s,kn,[]⟩) rfl (Cx.mapAt_rel hr hb hs) (Cx.mapAt_ext hr hb)<|.mp ?_ λx hx=>?_
 ·unfold Cx.born;rw [show (c.mapAt b ⟨0,s,kn,[]⟩).H[b]? = Rk (Rk _) from hl2];omega
 have := Cx.hd_of hl2 (o:=.map #[] 0) (by rw [e];exact heap_alloc_new _ _);rw [e] at this;have he:=hx.symm.trans this;simp only [hdo,sie] at he
 simp_all
theorem EvA.mmkA {K:Type} {kn:Nat} {t:TypeId} (kc:K->List Value) (b:Nat) (hb:H[b]? = Rk Rl):EvA P ρ (.makeMap t Rl) H (.mp b<|kn+1) (H.set b<|Rk<|mB kn 1 kc cB ([]:List<|K×Bool)):=
 λ_ ho=>Jk (kn:=kn) ho (Nat.succ_pos kn) hb
end
section
variable {P:Program} {ρ:Operand->AV} {t e:TypeId}
theorem QR.buildZ {n w:Nat} {ag:Bool} {zs:List AV} (hu:P.underlying t=Rk (.array n e)) (z:TyZ P t zs) (q:TyF P e ag w):QR P ρ (.build t #[]) (.agg zs) := .mk λK hK=>by
 show Bl P t [] K;have hz:=z.z;have ho:=z.one;have hq:=q.info
 cases hi:P.info? t with
 | none=>simp_all
 | some i=>
  rw [hi] at hz ho
  cases hzz:i.zero with
  | none=>simp_all
  | some zv=>
   simp only [Option.bind_some,hzz,Option.map_some,sie] at hz ho
   cases hj:P.info? e with
   | none=>simp_all
   | some ie=>
    simp only [Bl,hi,hu,hzz,hj,Al,hz];exact Ck.intro ho hK
end
section
variable {P:Program} {nt b0:Nat} {Q:Exit->Env->AH->Prop} {e:Env} {H:AH}
theorem T.ifH {α:Type} {q:Bool} {x:Operand} {t f:Code} {X Y:Option α} {r:α} (hc:rho e x = .v (.bool q)) (h:(bif q then X else Y)=Rk r) (h1:q=Ri->X=Rk r->T P nt b0 t Q e H) (h2:q=Rj->Y=Rk r->T P nt b0 f Q e H):T P nt b0 (.cond x t f) Q e H:=
 T.cond hc (λhq=>h1 hq<|FL hq h) λhq=>h2 hq (FM hq h)
end
theorem QU {α:Type} {a b:α} (h:Rk a=Rk b):a=b:=osl h
def PP (e:Env):List (Nat×AV)->List (Nat×AV)
 | []=>[]
 | p::l=>(p.1,e p.1)::PP e l
theorem wk {e:Env}:∀ {en:List (Nat×AV)},PP e en=en->CF e (ai en)
 | [],_=>QP
 | (t,a)::l,h=>by
  injection h with h1 h2;injection h1 with _ h1;exact QQ h1<|wk h2
theorem kw {b0:Nat} {e:Env} {H H0:AH} {en:List (Nat×AV)} (hH:H0=H) (h:PP e en=en):eZ b0 e H (ai en) H0:=Ap hH<|wk h
def Ol:Nat->List AV->List (Nat×AV)
 | _,[]=>[]
 | i,a::l=>(i,a)::Ol (i+1) l
theorem Jl:∀ (l:List AV) (i t:Nat),ai (Ol i l) t=if t<i then .top else l.getD (t-i) .top
 | [],i,t=>by
  show AV.top=_
  simp_all
 | a::l,i,t=>by
  show (bif Tp t i then a else ai (Ol (i+1) l) t)=_
  cases hb:Tp t i with
  | true=>
   simp_all
  | false=>
   have hne:t≠i:=λh=>by rw [h,show Tp i i=Ri from Nat.beq_refl i] at hb;cases hb
   rw [cond_false,Jl l (i+1) t]
   grind
theorem G3 (l:List AV):CF (KV l) (ai<|Ol 0 l):=λt => .inr (by rw [Jl,if_neg (by omega)];rfl)
section
variable {P:Program} {f:FuncId} {fn:Func} {body:Code} {Rf:List AV} {r:AV} {H H':AH}
def okF (P:Program) (f:FuncId) (fn:Func) (body:Code):Bool:=iq P f&&codeOk fn.ntmps body
theorem G5 (h:okF P f fn body=Ri):iq P f=Ri/\codeOk fn.ntmps body=Ri:=by
 unfold okF at h
 simp_all
theorem pM (hf:P.funcs[f]? = Rk fn) (hb:fn.body=Rk body) (hk:okF P f fn body=Ri) (hn:Tt Rf.length fn.ntmps=Ri) (h:T P fn.ntmps 0 body (Fin P fn λr0 G=>Fz 0 G r0 r) (ai<|Ol 0 Rf) []):ax P f Rf r:=
 ax.mkT hf hb (G5 hk).1 hn (G5 hk).2 (G3 Rf) h
theorem aM (hf:P.funcs[f]? = Rk fn) (hb:fn.body=Rk body) (hk:okF P f fn body=Ri) (hn:Tt Rf.length fn.ntmps=Ri) (h:T P fn.ntmps H.length body (SQ H.length<|Fin P fn λr0 G=>r0=r/\G=H') (ai<|Ol 0 Rf) H):dS P f Rf H r H':=
 dS.mkT hf hb (G5 hk).1 hn (G5 hk).2 (G3 Rf) h
end
section
variable {α β:Type} {G:Prop} {r:β} {x:Option β}
theorem jW {k:IntKind} {n:Int} (h:gd (QS k n) x=Rk r) (K:k.wrap n=n->x=Rk r->G):G:=K (gdW h).1 (gdW h).2
theorem jD {A:Prop} [Decidable A] (h:gd (decide A) x=Rk r) (K:A->x=Rk r->G):G:=K (gdD h).1 (gdD h).2
theorem jL {b:Bool} (h:gd b x=Rk r) (K:b=Ri->x=Rk r->G):G:=K (gdL h).1 (gdL h).2
theorem jB {o:Option α} {k:α->Option β} (h:o.bind k=Rk r) (K:∀ v,o=Rk v->k v=Rk r->G):G:=(Ao h).elim λv h=>K v h.1 h.2
end
section
variable {P:Program} {nt b0:Nat} {Q:Exit->Env->AH->Prop} {e e0:Env} {H H' H0:AH} {ops:Array Oper} {l:List Oper} {W:Type} {w:W}
theorem T.sr {i:Nat} {y:Code} (h:TO P nt b0 ops ops.toList (GR (T P nt b0 y Q) Q) e H):T P nt b0 (.seq (.region i ops Rj) y) Q e H := .seq<|.region h
theorem T.jU {S:Type} {A:Option S} {K:S->Option W} {x y:Code} (h:A.bind K=Rk w) (slots:S->List (Nat×AV)) (heap:S->AH)
  (J:∀ s,K s=Rk w->T P nt b0 y Q (ai<|slots s) (heap s)) (k:∀ s,A=Rk s->T P nt b0 x (GR (Px b0 (λ_:Unit=>True) (λ_=>slots s) λ_=>heap s) Q) e H):T P nt b0 (.seq x y) Q e H:=
 jB h λs h1 h2=>T.joinF (λ_:Unit=>True) (λ_=>slots s) (λ_=>heap s) (λ_ _=>J s h2) (k s h1)
theorem T.jF {S G:Type} {A:Option S} {K:S->Option W} {x y:Code} (h:A.bind K=Rk w) (inv:S->G->Prop) (slots:S->G->List (Nat×AV)) (heap:S->G->AH)
  (J:∀ s g,K s=Rk w->inv s g->T P nt b0 y Q (ai<|slots s g) (heap s g)) (k:∀ s,A=Rk s->T P nt b0 x (GR (Px b0 (inv s) (slots s)<|heap s) Q) e H):T P nt b0 (.seq x y) Q e H:=
 jB h λs h1 h2=>T.joinF (inv s) (slots s) (heap s) (λg hg=>J s g h2 hg) (k s h1)
theorem T.lU {S E:Type} {body:Code} {x:E} {step:S->Option (S ⊕ E)} {s0:S} (h:loopO step s0=Rk x) (slots:S->List (Nat×AV)) (heap:S->AH) (hs:eZ b0 e H (ai<|slots s0)<|heap s0)
  (round:∀ s z,step s=Rk z->T P nt b0 body (GR (FK b0 (λ_ (_:Unit)=>True) (λs _=>slots s) (λs _=>heap s) z)<|Leave Q x z) (ai<|slots s) (heap s)):T P nt b0 (.loop body) Q e H:=
 T.loop step (λ_ (_:Unit)=>True) (λs _=>slots s) (λs _=>heap s) () h trivial hs λs _ z hz _=>round s z hz
theorem lE {S E:Type} {slots:S->List (Nat×AV)} {heap:S->AH} {a:S} {z:S ⊕ E} (h:Rk (Sum.inl a)=Rk z) (c:eZ b0 e H (ai<|slots a)<|heap a):FK b0 (λ_ (_:Unit)=>True) (λs _=>slots s) (λs _=>heap s) z e H:=
 ⟨a,(),(osl h).symm,trivial,c⟩
theorem lX {S E:Type} {x y:E} {z:S ⊕ E} {ex:Exit} (h:Rk (Sum.inr y)=Rk z) (K:Rk y=Rk x->Q ex e H):Leave Q x z ex e H:=⟨y,(osl h).symm,λh=>K<|congrArg Rk h⟩
theorem TO.jB {S:Type} {q:Bool} {A B:Option S} {K:S->Option W} (h:(bif q then A else B).bind K=Rk w) (n:Nat) (slots:S->List (Nat×AV)) (heap:S->AH)
  (h1:∀ s,q=Ri->A=Rk s->(∀ e H,eZ b0 e H (ai<|slots s) (heap s)->TO P nt b0 ops (l.drop n) Q e H)->TO P nt b0 ops l Q e H)
  (h2:∀ s,q=Rj->B=Rk s->(∀ e H,eZ b0 e H (ai<|slots s) (heap s)->TO P nt b0 ops (l.drop n) Q e H)->TO P nt b0 ops l Q e H)
  (J:∀ s,K s=Rk w->TO P nt b0 ops (l.drop n) Q (ai<|slots s) (heap s)):TO P nt b0 ops l Q e H:=by
 obtain ⟨s,ha,hk⟩:=Ao h;have key:∀ e H,eZ b0 e H (ai<|slots s) (heap s)->TO P nt b0 ops (l.drop n) Q e H:=λe H c=>(J s hk).cut c
 grind
end
section
variable {P:Program} {ρ:Operand->AV} {H H':AH} {x y:Operand} {a:AV} {t:TypeId} {ag:Bool} {n:Nat}
theorem mv:QR P ρ (.move x) (ρ x):=QR.mv _ rfl
theorem as':QR P ρ (.assign x) (ρ x):=QR.asg _ rfl
def QC:AV->Bool
 | .fp _ _=>Ri
 | .hp _ _ _ _ _=>Ri
 | _=>Rj
theorem nl (h:QC (ρ x)=Ri):QR P ρ (.nilCheck x) (ρ x):=by
 cases e:ρ x with
 | fp row j=>exact QR.nilfp e
 | hp b v s i j=>exact QR.nilhp e
 | _=>rw [e] at h;cases h
def ldE (ag:Bool) (n:Nat):AV->Option AV
 | .fp row j=>m9 ag n row j
 | _=>Rl
theorem lf (a:AV) (ty:TyF P t ag n) (h:ldE ag n (ρ x)=Rk a):QR P ρ (.load t x) a:=by
 cases e:ρ x with
 | fp row j=>rw [e] at h;exact QR.loadfp a ty e h
 | _=>rw [e] at h;cases h
def faE (pl:List<|Nat×Nat) (i:Nat) (v:AV):Option AV:=match pl[i]? with
 | some (o,k+1)=>(match v with
  | .fp row j=>Rk (.fp row<|j+o)
  | .hp b u s q j=>Rk (.hp b u s q<|j+o)
  | _=>Rl)
 | _=>Rl
theorem G6 {α β:Type} {f:α->Option β}:∀ {l:List α} {k:List β},l.mapM f=Rk k->∀ {i:Nat} {b:β},k[i]? = Rk b->∃ a,l[i]? = Rk a/\f a=Rk b
 | [],k,h,i,b,hb=>by
  simp_all
 | c::l,k,h,i,b,hb=>by
  simp only [List.mapM_cons] at h;obtain ⟨d,hd,h⟩:=Ui.1 h;obtain ⟨k',hk',h⟩:=Ui.1 h;obtain rfl:=osl h
  cases i with
  | zero=>
   simp_all
  | succ i=>exact G6 hk' (by simp_all)
theorem fa {pl:List (Nat×Nat)} {i:Nat} (q:TyS P t pl) (h:faE pl i (ρ x)=Rk a):QR P ρ (.fieldAddr t x i) a:=by
 have hs:=q.s
 split at hs
 ·rename_i fs hu;unfold faE at h
  split at h
  ·rename_i o k hk;obtain ⟨fl,h1,h2⟩:=G6 hs hk;rw [Uf] at h1;obtain ⟨inf,h3,h4⟩:=Option.map_eq_some_iff.1 h2;injection h4 with h4 h5;have hc:(P.cellsOf fl.type != 0)=Ri:=by
    unfold Program.cellsOf;rw [h3];simp [h5]
   subst h4
   cases e:ρ x with
   | fp row j=>rw [e] at h;obtain rfl:=osl h;exact QR.fafp hu h1 hc e
   | hp b u s w j=>rw [e] at h;obtain rfl:=osl h;exact QR.fahp hu h1 hc e
   | _=>rw [e] at h;cases h
  cases h
 simp_all
theorem lh (a:AV) (ty:TyF P t ag n) {b ver s j:Nat} {ty':TypeId} {row:List AV} (h:ρ x = .hp b ver s 0 j) (hk:H[b]? = Rk (Rk ⟨ver,s,ty',[row]⟩)) (hp:m9 ag n row j=Rk a):EvA P ρ (.load t x) H a H:=EvA.loadhp a ty h hk rfl rfl rfl hp
def srE (n s j:Nat) (row cs:List AV):Option (List AV):=bif Tp cs.length n&&Tt (j+n) s then Rk (splice row j cs) else Rl
theorem sr (row':List AV) (ty:TyF P t ag n) {b ver s j:Nat} {ty':TypeId} {row cs:List AV} (hx:ρ x = .hp b ver s 0 j) (hy:(ρ y).cells=Rk cs) (hk:H[b]? = Rk (Rk ⟨ver,s,ty',[row]⟩)) (hr:srE n s j row cs=Rk row'):EvA P ρ (.store t x y) H .top (H.set b<|Rk ⟨ver,s,ty',[row']⟩):=by
 unfold srE at hr
 cases hb:(Tp cs.length n&&Tt (j+n) s) with
 | false=>simp_all
 | true=>
  rw [hb] at hr;obtain rfl:=osl hr;rw [bae] at hb;exact EvA.st (k:=⟨ver,s,ty',[row]⟩) _ ty hx hy hk rfl rfl rfl (Nat.eq_of_beq_eq_true hb.1) hb.2 rfl
end
section
variable {P:Program} {nt b0:Nat} {Q:Exit->Env->AH->Prop} {H H':AH} {ops:Array Oper} {l:List Oper} {d:Tmp} {ty:TypeId} {pos:String} {af:Array Edge} {en:List (Nat×AV)} {fp:Nat->Fp} {i:Nat} {K:Env->AH->Prop} {S W:Type} {r:W} {A:Option S} {k:S->Option W} {v:S->AV} {cl:Call} {f:Operand} {g:FuncId} {oO Rf:List AV}
theorem oC (h:A.bind k=Rk r) (hp:∀ s,A=Rk s->ax P g Rf (v s)) (hc:cl.callee = .value f) (hf:rho (ai en) f = .fn (.func g) oO) (ha:cl.args.toList.map (rho<|ai en)++oO=Rf) (hF:Rf.all (isF 9)=Ri)
  (J:∀ s,A=Rk s->k s=Rk r->TO P nt b0 ops l Q (ai ((d,v s)::en)) H):TO P nt b0 ops (⟨Rk d,.call cl,ty,pos,af,Rl⟩::l) Q (ai en) H:=
 jB h λs h1 h2=>oN (QR.call hc hf ha (hp s h1) hF) (J s h1 h2)
theorem fC (h:A.bind k=Rk r) (hp:∀ s,A=Rk s->ax P g Rf (v s)) (hc:cl.callee = .value f) (hf:rho (ai en) f = .fn (.func g) oO) (ha:cl.args.toList.map (rho<|ai en)++oO=Rf) (hF:Rf.all (isF 9)=Ri) (h0:fp i=([],Rj))
  (J:∀ s,A=Rk s->k s=Rk r->TF P fp (i+1) l K (ai ((d,v s)::en)) H):TF P fp i (⟨Rk d,.call cl,ty,pos,af,Rl⟩::l) K (ai en) H:=
 jB h λs h1 h2=>fN h0 (QR.call hc hf ha (hp s h1) hF) (J s h1 h2)
end
section
variable {P:Program} {fn:Func} {e:Env} {G:AH} {a:AV} {t:Tmp} {m:Nat}
theorem FZ (h:fn.results.toList=[.tmp t]) (h1:e t=a) (h2:isF 9 a=Ri):Fin P fn (λr0 G=>Fz m G r0 a) .ret e G:=Fin.ret (vs:=[a]) (by rw [h];exact .cons (.tmp h1) .nil)<|.of_isF 9 _ h2
end
section
variable {P:Program} {ρ:Operand->AV} {H:AH} {x y:Operand} {t:TypeId} {ag:Bool} {n j w:Nat} {q:Int}
theorem lf1 (V:Int->AV) (g:0<=q/\q<3) (ty:TyF P t ag n) {row:List AV} (h:ρ x = .fp row (j+q.toNat*w)) (h0:m9 ag n row (j+0*w)=Rk (V 0)) (h1:m9 ag n row (j+1*w)=Rk (V 1)) (h2:m9 ag n row (j+2*w)=Rk (V 2)):QR P ρ (.load t x) (V q):=
 QR.loadfp _ ty h (OG (P:=λz=>m9 ag n row (j+z.toNat*w)=Rk (V z)) g h0 h1 h2)
theorem lh1 (V:Int->AV) (g:0<=q/\q<3) (ty:TyF P t ag n) {b ver s:Nat} {ty':TypeId} {row:List AV} (h:ρ x = .hp b ver s 0 (j+q.toNat*w)) (hk:H[b]? = Rk (Rk ⟨ver,s,ty',[row]⟩)) (h0:m9 ag n row (j+0*w)=Rk (V 0)) (h1:m9 ag n row (j+1*w)=Rk (V 1)) (h2:m9 ag n row (j+2*w)=Rk (V 2)):EvA P ρ (.load t x) H (V q) H:=
 EvA.loadhp _ ty h hk rfl rfl rfl (OG (P:=λz=>m9 ag n row (j+z.toNat*w)=Rk (V z)) g h0 h1 h2)
theorem sr1 (R:Int->List AV) (g:0<=q/\q<3) (ty:TyF P t ag n) {b ver s:Nat} {ty':TypeId} {row cs:List AV} (hx:ρ x = .hp b ver s 0 (j+q.toNat*w)) (hy:(ρ y).cells=Rk cs) (hk:H[b]? = Rk (Rk ⟨ver,s,ty',[row]⟩)) (h0:srE n s (j+0*w) row cs=Rk (R 0)) (h1:srE n s (j+1*w) row cs=Rk (R 1)) (h2:srE n s (j+2*w) row cs=Rk (R 2)):EvA P ρ (.store t x y) H .top (H.set b<|Rk ⟨ver,s,ty',[R q]⟩):=
 sr _ ty hx hy hk (OG (P:=λz=>srE n s (j+z.toNat*w) row cs=Rk (R z)) g h0 h1 h2)
variable {v:Nat} {u:Int}
theorem Qp {Q:Int->Int->Prop} (g:0<=q/\q<3) (g':0<=u/\u<3) (h:Q 0 0/\Q 0 1/\Q 0 2/\Q 1 0/\Q 1 1/\Q 1 2/\Q 2 0/\Q 2 1/\Q 2 2):Q q u:=
 by grind
def P9 (Q:Nat->Nat->Int->Int->Prop):Prop:=Q 0 0 0 0/\Q 0 1 0 1/\Q 0 2 0 2/\Q 1 0 1 0/\Q 1 1 1 1/\Q 1 2 1 2/\Q 2 0 2 0/\Q 2 1 2 1/\Q 2 2 2 2
theorem lf2 (V:Int->Int->AV) (g:0<=q/\q<3) (g':0<=u/\u<3) (ty:TyF P t ag n) {row:List AV} (h:ρ x = .fp row ((j+q.toNat*w)+u.toNat*v)) (h9:P9 λa b y z=>m9 ag n row ((j+a*w)+b*v)=Rk (V y z)):QR P ρ (.load t x) (V q u):=
 QR.loadfp _ ty h (Qp (Q:=λy z=>m9 ag n row ((j+y.toNat*w)+z.toNat*v)=Rk (V y z)) g g' h9)
theorem sr2 (R:Int->Int->List AV) (g:0<=q/\q<3) (g':0<=u/\u<3) (ty:TyF P t ag n) {b ver s:Nat} {ty':TypeId} {row cs:List AV} (hx:ρ x = .hp b ver s 0 ((j+q.toNat*w)+u.toNat*v)) (hy:(ρ y).cells=Rk cs) (hk:H[b]? = Rk (Rk ⟨ver,s,ty',[row]⟩)) (h9:P9 λa b y z=>srE n s ((j+a*w)+b*v) row cs=Rk (R y z)):EvA P ρ (.store t x y) H .top (H.set b<|Rk ⟨ver,s,ty',[R q u]⟩):=
 sr _ ty hx hy hk (Qp (Q:=λy z=>srE n s ((j+y.toNat*w)+z.toNat*v) row cs=Rk (R y z)) g g' h9)
end
section
variable {P:Program} {H:AH}
theorem dS.oneE {f:FuncId} {as0 Rf:List AV} {b:Nat} {g:Bool} {ver w:Nat} {ty:TypeId} {CC rows:List (List AV)} {r:AV} (h:dS P f as0 [bE g ver w ty CC] r [bE g ver w ty rows]) (hb:H[b]? = Rk (bE g ver w ty CC))
  (has:RenL (λc i=>[b][i]? = Rk c) Rf as0) (hk0:∀ r∈CC,∀ a∈r,isF 9 a=Ri) (hk:∀ r∈rows,∀ a∈r,isF 9 a=Ri) (hr:isF 9 r=Ri):dS P f Rf H r (H.set b<|bE g ver w ty rows):=by
 have hlt:b<H.length:=(ges hb).1;have h0:dN P f as0 [bE g ver w ty CC] (λr' G=>r'=r/\G=[bE g ver w ty rows]):=⟨h.1,λc vs hH hr hall=>(h.2 c vs hH hr hall).mono λe w' ⟨v,c',h1,h2,h3,h4,h5,h6⟩=>⟨v,c',r,h1,h2,⟨rfl,h3⟩,h4,h5,h6⟩⟩;refine dN.acall<|h0.frameN [b] (by simp) rfl (λi c hi=>?_) has.spec.1 has.spec.2 λr0 G0 ⟨hr0,hG0⟩ => ?_
 ·match i with
  | 0=>
   obtain rfl:b=c:=by simpa using hi
   cases g with
   | true=>exact .inl ⟨hb,rfl⟩
   | false=>exact .inr ⟨_,_,hb,rfl,.ofF hk0⟩
  | i+1=>simp at hi
 subst hr0 hG0;have key:∀ i c,sg [b] H.length i c->i<1->c=b:=λi c hs hi=>by
  rcases hs with hs | ⟨hs,_⟩
  ·obtain rfl:i=0:=by omega
   simpa using hs.symm
  simp at hs;omega
 refine ⟨_,_,⟨by simp,by simp,λi c hi hs hn=>?_,λi c k0 hs hk0=>?_,λc hc hne=>Tq λe=>hne<|by simp [e]⟩,aF 9 _ hr,rfl,rfl⟩
 ·simp only [List.length_singleton] at hi;obtain rfl:=key i c hs hi;obtain rfl:i=0:=by omega
  simp only [Tv,sie] at hn;rw [TB hlt,hn]
 have hi:i<1:=by
  have := (ges hk0).1;simpa using this
 obtain rfl:=key i c hs hi;obtain rfl:i=0:=by omega
 simp only [Tv,sie] at hk0;refine ⟨k0,by rw [TB hlt,hk0],.ofF λr hr a ha=>?_⟩
 cases g with
 | true=>cases hk0
 | false=>
  obtain rfl:=osl hk0;exact hk r hr a ha
variable {nt b0:Nat} {Q:Exit->Env->AH->Prop} {en:List (Nat×AV)} {ops:Array Oper} {l:List Oper} {d:Tmp} {t:TypeId} {pos:String} {af:Array Edge}
end
section
variable {P:Program} {ρ:Operand->AV} {H:AH} {x y z:Operand} {t e uZ:TypeId} {ag:Bool} {w j b kn:Nat}
variable {K:Type} [DecidableEq K] {kc:K->List Value} {l:List (K×Bool)}
omit [DecidableEq K] in
end
section
variable {P:Program} {o:Oper} {ρ ρ':Operand->AV} {H:AH} {K K':AV->AH->Prop}
theorem OpG.congr {R:AV->AH->Prop} (h:OpG P o ρ H R) (he:∀ x∈o.op.operands,ρ x=ρ' x):OpG P o ρ' H R:=
 λc a K Q hH hr hxs hK=>h c a K Q hH hr (λx hx=>by rw [he x hx];exact hxs x hx) hK
theorem OpG.mono {R R':AV->AH->Prop} (h:OpG P o ρ H R) (hR:∀ r G,R r G->R' r G):OpG P o ρ H R':=
 λc a K Q hH hr hxs hK=>h c a K Q hH hr hxs λv c' r hr1 hr2 hr3 hr4=>hK v c' r (hR _ _ hr1) hr2 hr3 hr4
theorem QO.opG {r:AV} {H':AH} (h:QO P o ρ H r H'):OpG P o ρ H λr' G=>r'=r/\G=H':=
 λc a K Q hH hr hxs hK=>h c a K Q hH hr hxs λv c' hc hr2 hr3 hr4=>hK v c' r ⟨rfl,hc⟩ hr2 hr3 hr4
abbrev Xc:=Bool×List Nat
def agr (F:List Nat) (G H:AH):Prop:=∀ b∈F,G[b]? = H[b]?
theorem agr.a0 {b:Nat} {F:List Nat} {G H:AH} (h:agr (b::F) G H) {x:Option ABlk} (hx:H[b]? = Rk x):G[b]? = Rk x:=(h b<|by simp).trans hx
def yh (W:List Nat) (H H':AH):Prop:=∀ b,b<H.length->b∉W->H'[b]? = H[b]?
theorem dC {b:Nat} {X:Option ABlk}:yh [b] H (H.set b X):=λc _ hc=>Tq λe=>hc (by simp [e])
theorem p9 {L:AH}:yh [] H (H++L):=λ_ hb _=>gal hb
def BK (P:Program) (o:Oper) (ρ:Operand->AV) (H:AH) (b:Xc) (K:AV->AH->Prop):Prop:=match b.1 with
 | false=>∃ r,(∀ c∈b.2,c<H.length)/\(∀ G,agr b.2 G H->QO P o ρ G r G)/\K r H
 | true=>OpG P o ρ H λr H'=>yh b.2 H H'/\K r H'
theorem BK.mono {b:Xc} (h:BK P o ρ H b K) (hK:∀ r G,K r G->K' r G):BK P o ρ H b K':=by
 obtain ⟨b,F⟩:=b
 cases b with
 | false=>
  obtain ⟨r,h0,h1,h2⟩:=h;exact ⟨r,h0,h1,hK _ _ h2⟩
 | true=>
  show OpG P o ρ H λr H'=>yh F H H'/\K' r H';exact OpG.mono (R:=λr H'=>yh F H H'/\K r H') h λr G hr=>⟨hr.1,hK _ _ hr.2⟩
theorem BK.congr {b:Xc} (h:BK P o ρ H b K) (he:∀ x∈o.op.operands,ρ x=ρ' x):BK P o ρ' H b K:=by
 obtain ⟨b,F⟩:=b
 cases b with
 | false=>
  obtain ⟨r,h0,h1,h2⟩:=h;exact ⟨r,h0,λG hG=>(h1 G hG).congr he,h2⟩
 | true=>
  show OpG P o ρ' H λr H'=>yh F H H'/\K r H';exact OpG.congr (R:=λr H'=>yh F H H'/\K r H') h he
theorem BK.opG {b:Xc} (h:BK P o ρ H b K):OpG P o ρ H K:=by
 obtain ⟨b,F⟩:=b
 cases b with
 | false=>
  obtain ⟨r,_,h1,h2⟩:=h;refine (QO.opG<|h1 H λ_ _=>rfl).mono ?_;rintro r' G ⟨rfl,rfl⟩;exact h2
 | true=>exact OpG.mono (R:=λr H'=>yh F H H'/\K r H') h λr G hr=>hr.2
def Lh (a b:Xc):Bool := !b.1||a.2.all λx => !b.2.contains x
def Li (P:Program) (ops:Array Oper) (cls:Nat->Xc) (Q:Env->AH->Prop):Nat->Array Bool->Env->AH->Prop
 | 0,listed,e,H=>Region.ready .any ops listed=[]/\Q e H
 | fuel+1,listed,e,H=>(Region.ready .any ops listed=[]->Q e H) /\
  ∀ i∈Region.ready .any ops listed,∃ o,ops[i]? = Rk o/\BK P o (rho e) H (cls i) λr H'=>Li P ops cls Q fuel (listed.setIfInBounds i Ri) (p7 e o.dst r) H'
theorem Ig {ops:Array Oper} {cls:Nat->Xc} {Q:Env->AH->Prop} {i:Nat} {oi:Oper} {r:AV} {F:List Nat} (hi:ops[i]? = Rk oi) (hci:cls i=(Rj,F)) :
  ∀ (fuel:Nat) (listed:Array Bool) (e:Env) (H:AH),
   (∀ (j:Nat) (oj:Oper),ops[j]? = Rk oj->j≠i->listed.getD j Ri=Rj->(∀ ed∈oj.after,Region.binds .any ed=Ri->ed.on≠i)->oi.apart ops oj=Ri/\Lh (cls i) (cls j)=Ri) ->
   i∈Region.ready .any ops listed->(∀ c∈F,c<H.length)->(∀ G,agr F G H->QO P oi (rho e) G r G)->Li P ops cls Q fuel (listed.setIfInBounds i Ri) (p7 e oi.dst r) H->Li P ops cls Q (fuel+1) listed e H:=by
 intro fuel
 induction fuel with
 | zero=>
  intro listed e H _ hr hF hy hA;refine ⟨λh=>(by rw [h] at hr;cases hr),λj hj=>?_⟩
  by_cases hji:j=i
  ·subst hji;exact ⟨oi,hi,by rw [hci];exact ⟨r,hF,hy,hA⟩⟩
  have := ready_mono hj hji;rw [hA.1] at this
  cases this
 | succ fuel ih=>
  intro listed e H hfree hr hF hy hA;refine ⟨λh=>(by rw [h] at hr;cases hr),λj hj=>?_⟩
  by_cases hji:j=i
  ·subst hji;exact ⟨oi,hi,by rw [hci];exact ⟨r,hF,hy,hA⟩⟩
  obtain ⟨oj,hoj,hsj⟩:=hA.2 j<|ready_mono hj hji;obtain ⟨hjun,oj',Aj,hall⟩:=mem_ready.1 hj;rw [hoj] at Aj;injection Aj with Aj;subst Aj;have hnot:∀ ed∈oj.after,Region.binds .any ed=Ri->ed.on≠i:=λed he hb heq=>by
   have h1:=hall ed he hb;have h0:=(mem_ready.1 hr).1;rw [heq] at h1;rcases TM i listed.size with h' | h'
   ·simp [h'] at h0 h1;rw [h0] at h1;cases h1
   simp [Ub h'] at h1
  obtain ⟨hap,hcm⟩:=hfree j oj hoj hji hjun hnot;obtain ⟨h1,h2,h3⟩:=Oper.apart_spec hap;have ej:=sS (e:=e) (r:=r) h1;have hfree':∀ (k:Nat) (ok:Oper),ops[k]? = Rk ok->k≠i->(listed.setIfInBounds j Ri).getD k Ri=Rj->(∀ ed∈ok.after,Region.binds .any ed=Ri->ed.on≠i)->oi.apart ops ok=Ri/\Lh (cls i) (cls k)=Ri:=λk ok hk hki hun hno=>by
   refine hfree k ok hk hki ?_ hno
   by_cases hjk:j=k
   ·subst hjk;exact hjun
   rw [getD_set_ne Ri hjk] at hun;exact hun
  have hsj':=hsj.congr ej;have go:∀ q Hj,(∀ c∈F,c<Hj.length)->(∀ c∈F,Hj[c]? = H[c]?)->Li P ops cls Q fuel ((listed.setIfInBounds i Ri).setIfInBounds j Ri) (p7 (p7 e oi.dst r) oj.dst q) Hj->Li P ops cls Q (fuel+1) (listed.setIfInBounds j Ri) (p7 e oj.dst q) Hj:=λq Hj hF' hHj hAj=>by
   have ei:=sS (e:=e) (oi:=oj) (r:=q) h3;refine ih (listed.setIfInBounds j Ri) (p7 e oj.dst q) Hj hfree' (ready_mono hr<|Ne.symm hji) hF' (λG hG=>(hy G λc hc=>(hG c hc).trans<|hHj c hc).congr λx hx=>(ei x hx).symm) ?_;rw [Uc _ _ hji,xX (λd hd=>λhd'=>h2 d (by simpa using hd')<|by simpa using hd)];exact hAj
  refine ⟨oj,hoj,?_⟩;rw [hci] at hcm;generalize cls j=cj at hsj' hcm ⊢;obtain ⟨b,W⟩:=cj
  cases b with
  | false=>
   obtain ⟨q,q0,q1,q2⟩:=hsj';exact ⟨q,q0,q1,go q H hF (λ_ _=>rfl) q2⟩
  | true=>
   simp only [Lh,Bool.not_true,Bool.false_or,Tu,Bool.not_eq_true',TQ,decide_eq_false_iff_not] at hcm;show OpG P oj (rho e) H λr1 H1=>yh W H H1/\Li P ops cls Q (fuel+1) (listed.setIfInBounds j Ri) (p7 e oj.dst r1) H1;refine OpG.mono (R:=λr1 H1=>yh W H H1/\Li P ops cls Q fuel ((listed.setIfInBounds i Ri).setIfInBounds j Ri) (p7 (p7 e oi.dst r) oj.dst r1) H1) hsj' λq Hj ⟨k1,k2⟩=>⟨k1,go q Hj (λc hc=>?_) (λc hc=>k1 c (hF c hc)<|hcm c hc) k2⟩;have := k1 c (hF c hc)<|hcm c hc;rw [geq (hF c hc)] at this;exact (ges this).1
def OL (ops:Array Oper) (cls:Nat->Xc):List Nat->Array Bool->Bool
 | [],listed=>(Region.ready .any ops listed).isEmpty
 | i::l,listed=>(match ops[i]? with
  | some oi=>if (cls i).1 then Region.ready .any ops listed==[i] else (Region.ready .any ops listed).contains i&&(Tz ops.size).all λj=>j==i||listed.getD j Ri||(match ops[j]? with
   | some oj=>(oj.after.any λed=>Region.binds .any ed&&ed.on==i)||(oi.apart ops oj&&Lh (cls i) (cls j))
   | none=>Ri)
  | none=>Rj)&&OL ops cls l (listed.setIfInBounds i Ri)
def TX (P:Program) (ops:Array Oper) (cls:Nat->Xc):List Nat->(Env->AH->Prop)->Env->AH->Prop
 | [],K,e,H=>K e H
 | i::l,K,e,H=>∃ o,ops[i]? = Rk o/\BK P o (rho e) H (cls i) λr H'=>TX P ops cls l K (p7 e o.dst r) H'
theorem F3 {ops:Array Oper} {cls:Nat->Xc} {Q:Env->AH->Prop}:∀ (l:List Nat) (listed:Array Bool) (e:Env) (H:AH),OL ops cls l listed=Ri->TX P ops cls l Q e H->Li P ops cls Q l.length listed e H
 | [],listed,e,H,hc,h=>⟨by simpa [OL] using hc,h⟩
 | i::l,listed,e,H,hc,h=>by
  obtain ⟨oi,hi,hs⟩:=h;simp only [OL,hi,bae] at hc;obtain ⟨hc1,hc2⟩:=hc;generalize hci:cls i=ci at hc1 hs;obtain ⟨b,F⟩:=ci
  cases b with
  | true=>
   simp only [if_true,beq_iff_eq] at hc1;refine ⟨λhn=>(by rw [hc1] at hn;cases hn),λj hj=>?_⟩;rw [hc1,List.mem_singleton] at hj;subst hj;exact ⟨oi,hi,by rw [hci];exact BK.mono (b:=(Ri,F)) hs λr G hr=>F3 l _ _ _ hc2 hr⟩
  | false=>
   obtain ⟨r,hF,hy,hK⟩:=hs;simp only [TZ,if_false,bae,TQ,dte,Tu,List.mem_range] at hc1;refine Ig hi hci l.length listed e H (λj oj hj hne hun hno=>?_) hc1.1 hF hy<|F3 l _ _ _ hc2 hK;have hjs:j<ops.size:=(TA.1 hj).1;have := hc1.2 j hjs;simp only [hj,hun,TP,beq_iff_eq,hne,false_or,TZ,bae] at this;rw [hci];rcases this with h1 | h1
   ·rw [TN] at h1;obtain ⟨ed,h2,h3⟩:=h1;simp only [bae,beq_iff_eq] at h3;exact absurd h3.2<|hno ed h2 h3.1
   exact h1
theorem Df {nt:Nat} {ops:Array Oper} {cls:Nat->Xc} {Q:Exit->Env->AH->Prop} (hd:H5 nt ops.toList=Ri) (hg:ops.all (λo=>o.guard.isNone)=Ri):∀ (fuel:Nat) (listed:Array Bool) (e:Env) (H:AH),Li P ops cls (Q .normal) fuel listed e H ->
  ∀ (c c0:Cx) (a:Act),c.H=H->Ext c0 c->SRel c nt e a->wpAny P .any ops (Oz nt c0 Q) fuel listed a c.w
 | 0,listed,e,H,h,c,c0,a,hH,hx,hs=>⟨h.1,trivial,c,e,rfl,hx,hs,hH ▸ h.2⟩
 | fuel+1,listed,e,H,h,c,c0,a,hH,hx,hs=>by
  refine ⟨λhr=>⟨trivial,c,e,rfl,hx,hs,hH ▸ h.1 hr⟩,λi hi=>?_⟩;obtain ⟨o,ho,hst⟩:=h.2 i hi;have hm:o∈ops.toList:=by rw [Array.mem_toList_iff];exact Ug ho
  have hgn:o.guard=Rl:=by
   rw [Array.all_eq_true] at hg;obtain ⟨hlt,rfl⟩:=TA.1 ho;simpa using hg i hlt
  have hw:Region.wanted o (yielded ops a.tmps)=Ri:=by simp [Region.wanted,hgn]
  unfold wpOp;simp only [ho];rw [if_pos hw];refine .inl<|hst.opG c a _ _ hH hs.heap (λx _=>hs.rho x) λv c' r hA hr' hx' hv=>?_;exact Df hd hg fuel _ _ _ hA c' c0 _ rfl (hx.trans hx')<|hs.put o.dst (n8 hd hm) hx' hr' hv
end
section
variable {P:Program} {nt b0:Nat} {Q:Exit->Env->AH->Prop} {e:Env} {H H':AH} {r:AV}
theorem T.drawX {i:Nat} {ops:Array Oper} (ord:List Nat) (cls:Nat->Xc) (hm:P.follows .mixedOrders=Ri) (hg:ops.all (λo=>o.guard.isNone)=Ri) (hc:(OL ops cls ord (TS ops.size Rj)&&(ord.length==ops.size))=Ri) (h:TX P ops cls ord (Q .normal) e H):T P nt b0 (.region i ops Ri) Q e H:=by
 intro hok c c0 a hH hb hx hs;simp only [codeOk] at hok;simp only [bae,beq_iff_eq] at hc;refine wp_region_any hm ?_;have hlex:=F3 ord (TS ops.size Rj) e H hc.1 h;have := Df hok hg ord.length _ e H hlex c.drew c0 a hH (hx.trans c.drew_ext) ⟨hs.size,hs.defers,λt=>(hs.rel t).ext hs.heap c.drew_ext,Cx.drew_rel hs.heap⟩;rw [hc.2] at this;exact this
variable {d:Tmp} {op:Op} {ty:TypeId} {pos:String} {af:Array Edge} {en:List (Nat×AV)} {cls:Nat->Xc} {ops:Array Oper} {i:Nat} {K:Env->AH->Prop} {l:List Nat}
theorem TX.nil (h:K e H):TX P ops cls [] K e H:=h
theorem xN (h0:ops[i]? = Rk ⟨Rk d,op,ty,pos,af,Rl⟩) (hc:cls i=(Rj,[])) (hv:QR P (rho<|ai en) op r) (h:TX P ops cls l K (ai ((d,r)::en)) H):TX P ops cls (i::l) K (ai en) H:=
 ⟨_,h0,by rw [hc];exact ⟨r,λ_ h=>(by cases h),λG _=>hv _ rfl G,h⟩⟩
theorem xR (F:List Nat) (h0:ops[i]? = Rk ⟨Rk d,op,ty,pos,af,Rl⟩) (hc:cls i=(Rj,F)) (hb:F.all (λb=>Nat.blt b H.length)=Ri) (hv:∀ G,agr F G H->EvA P (rho<|ai en) op G r G) (h:TX P ops cls l K (ai ((d,r)::en)) H):TX P ops cls (i::l) K (ai en) H:=
 ⟨_,h0,by rw [hc];exact ⟨r,λb hm=>nlb<|Tu.1 hb b hm,λG hG=>hv G hG _ rfl,h⟩⟩
theorem xT {W:List Nat} {o:Oper} {R:AV->AH->Prop} {e:Env} (h0:ops[i]? = Rk o) (hc:cls i=(Ri,W)) (hv:OpG P o (rho e) H R) (hk:∀ r G,R r G->yh W H G/\TX P ops cls l K (p7 e o.dst r) G):TX P ops cls (i::l) K e H:=by
 refine ⟨o,h0,?_⟩;rw [hc];exact OpG.mono (R':=λr H'=>yh W H H'/\TX P ops cls l K (p7 e o.dst r) H') hv hk
theorem xA {W:List Nat} (h0:ops[i]? = Rk ⟨Rk d,op,ty,pos,af,Rl⟩) (hc:cls i=(Ri,W)) (hv:EvA P (rho<|ai en) op H r H') (hk:yh W H H') (h:TX P ops cls l K (ai ((d,r)::en)) H'):TX P ops cls (i::l) K (ai en) H:=
 xT h0 hc (QO.opG<|hv ⟨Rk d,op,ty,pos,af,Rl⟩ rfl) λr' G hG=>by obtain ⟨e1,e2⟩:=hG;subst e1 e2;exact ⟨hk,h⟩
theorem xV {W:List Nat} (h0:ops[i]? = Rk ⟨Rl,op,ty,pos,af,Rl⟩) (hc:cls i=(Ri,W)) (hv:EvA P (rho<|ai en) op H r H') (hk:yh W H H') (h:TX P ops cls l K (ai en) H'):TX P ops cls (i::l) K (ai en) H:=
 xT h0 hc (QO.opG<|hv ⟨Rl,op,ty,pos,af,Rl⟩ rfl) λr' G hG=>by obtain ⟨e1,e2⟩:=hG;subst e1 e2;exact ⟨hk,h⟩
end
def EqS (a b:AV):Prop:=∀ (w:World) (fz:Nat->Prop) (v:Value),FRel w fz a v->FRel w fz b v
def Et:List AV->List AV->Prop
 | [],[]=>True
 | a::r,b::q=>EqS a b/\Et r q
 | _,_=>False
theorem EqS.refl (a:AV):EqS a a:=λ_ _ _ h=>h
theorem Et.refl:∀ r:List AV,Et r r
 | []=>trivial
 | a::r=>⟨EqS.refl a,Et.refl r⟩
theorem Et.len:∀ {r q:List AV},Et r q->r.length=q.length
 | [],[],_=>rfl
 | a::r,b::q,h=>by rw [llc,llc,Et.len h.2]
 | [],_::_,h=>h.elim
 | _::_,[],h=>h.elim
theorem Et.get:∀ {r q:List AV},Et r q->∀ {j:Nat} {b:AV},q[j]? = Rk b->∃ a,r[j]? = Rk a/\EqS a b
 | [],[],_,j,b,h=>by simp at h
 | a::r,b::q,h,0,c,hc=>by
  simp only [Tv,sie] at hc;subst hc;exact ⟨a,rfl,h.1⟩
 | a::r,b::q,h,j+1,c,hc=>by
  simp only [TT] at hc ⊢;exact h.2.get hc
 | [],_::_,h,_,_,_=>h.elim
 | _::_,[],h,_,_,_=>h.elim
theorem EqS.sl {n:Nat} {row row':Nat->List AV} (he:∀ i,i<n->Et (row i) (row' i)):EqS (.sl n row) (.sl n row'):=λw fz v h=>by
 cases h with
 | @sl _ cap s g o _ a us hc hm ha hs hu h1 h3=>
  refine .sl (s:=s) (g:=g) (o:=o) us hc hm ha (λi hi=>?_) (λi j b hi hj=>?_) (λi j b hi hj=>?_) λi j b hi hj=>?_
  ·rw [<- (he i hi).len];exact hs i hi
  ·obtain ⟨a',ha',_⟩:=(he i hi).get hj;exact hu i j a' hi ha'
  ·obtain ⟨a',ha',_⟩:=(he i hi).get hj;exact h1 i j a' hi ha'
  obtain ⟨a',ha',e⟩:=(he i hi).get hj;exact e _ _ _<|h3 i j a' hi ha'
theorem EqS.fp {row row':List AV} (he:Et row row') {j:Nat}:EqS (.fp row j) (.fp row' j):=λw fz v h=>by
 cases h with
 | fp us hg hlt hu h1 h3=>
  refine .fp us hg hlt (λj b hj=>?_) (λj b hj=>?_) λj b hj=>?_
  ·obtain ⟨a',ha',_⟩:=he.get hj;exact hu j a' ha'
  ·obtain ⟨a',ha',_⟩:=he.get hj;exact h1 j a' ha'
  obtain ⟨a',ha',e⟩:=he.get hj;exact e _ _ _<|h3 j a' ha'
theorem Nc {c:Cx} {n:Nat} {row:Nat->List AV} {b:AV} {v:Value} (he:EqS (.sl n row) b) (h:c.rel (.sl n row) v):c.rel b v := .fr<|he _ _ _<|uG h
theorem zf {c:Cx} {row row':List AV} {v:Value} {j:Nat} (he:Et row row') (h:c.rel (.fp row j) v):c.rel (.fp row' j) v := .fr<|EqS.fp he _ _ _<|uH h
theorem EqS.eL {α β:Type} [Inhabited α] [Inhabited β] {f:α->List AV} {g:β->List AV} {i:α->β} (h:∀ x,Et (f x)<|g<|i x) (l:List α):EqS (eL f l) (eL g<|l.map i):=by
 unfold Go.Proofs.YtabfkkjdfhbngaaGreatDoor.eL;rw [llm];refine .sl λk hk=>?_;have e1:l.getD k Rh=l[k]:=by rw [gdq,geq hk];rfl
 have e2:(l.map i).getD k Rh=i l[k]:=by rw [gdq,TU,geq hk];rfl
 rw [e1,e2];exact h _
theorem F4 {α β:Type} [Inhabited α] [Inhabited β] {f:α->List AV} {g:β->List AV} {i:α->β} {c:Cx} {v:Value} (h:∀ x,Et (f x)<|g<|i x) {l:List α} (hv:c.rel (eL f l) v):c.rel (eL g<|l.map i) v:=Nc (EqS.eL h l) hv
theorem row_in {α:Type} [Inhabited α] {f:α->List AV} {r:List α->Nat->List AV} (h0:∀ x l,r (x::l) 0=f x) (h1:∀ x l i,r (x::l) (i+1)=r l i):∀ (l:List α) (i:Nat),i<l.length->r l i=f (l.getD i Rh)
 | [],i,h=>by simp at h
 | x::l,0,_=>h0 x l
 | x::l,i+1,h=>by
  rw [h1,row_in h0 h1 l i (by simpa using h)]
  rfl
theorem EqS.slr {α:Type} [Inhabited α] {f:α->List AV} {r:List α->Nat->List AV} (h0:∀ x l,r (x::l) 0=f x) (h1:∀ x l i,r (x::l) (i+1)=r l i) (l:List α):EqS (.sl l.length<|r l) (Go.Proofs.YtabfkkjdfhbngaaGreatDoor.eL f l):=
 .sl λi hi=>by rw [row_in h0 h1 l i hi];exact Et.refl _
theorem EqS.slr' {α:Type} [Inhabited α] {f:α->List AV} {r:List α->Nat->List AV} (h0:∀ x l,r (x::l) 0=f x) (h1:∀ x l i,r (x::l) (i+1)=r l i) (l:List α):EqS (Go.Proofs.YtabfkkjdfhbngaaGreatDoor.eL f l) (.sl l.length<|r l):=
 .sl λi hi=>by rw [row_in h0 h1 l i hi];exact Et.refl _
section
variable {P:Program} {ρ:Operand->AV} {x:Operand} {t e:TypeId} {ag:Bool}
theorem QR.slG {α:Type} [Inhabited α] {c:α->List AV} (l:List α) {n w:Nat} {row:List AV} (hu:P.underlying t=Rk (.array n e)) (ty:TyF P e ag w) (hx:ρ x = .fp row 0) (hl:l.length=n) (hn:(Tt n 16777216)=Ri) (hr:row.length=n*w/\∀ i,i<n->(row.drop<|i*w).take w=c (l.getD i Rh)) :
  QR P ρ (.slice t x Rl Rl Rl) (eL c l):=by
 have hn':=nlb hn;have key:QR P ρ (.slice t x Rl Rl Rl) (.sl n λi=>(row.drop<|0+i*w).take w) := .mk λK hK=>by
  show xG P ρ (.slice t x Rl Rl Rl) K;simp only [xG,wD,hu,hx,Option.map_none];show (0<=(0:Int)/\(0:Int)<=(n:Int)/\(n:Int)<=(n:Int)/\0+n*P.cellsOf e<=row.length/\(P.info? e).isSome=Ri/\n<=9223372036854775807)/\_;rw [ty.cells];exact ⟨⟨by omega,by omega,by omega,by omega,ty.info,by omega⟩,hK⟩
 refine key.res λC v hv=>?_;unfold Go.Proofs.YtabfkkjdfhbngaaGreatDoor.eL;rw [hl];exact EK (λi hi=>by rw [T9];exact hr.2 i hi) hv
theorem QR.ldG {α:Type} [Inhabited α] {c:α->List AV} {l:List α} (a:AV) {row:List AV} {q:Nat} (tt:TyF P t ag 1) (hx:ρ x = .fp row (0+q*1)) (hr:∀ q,q<l.length->[row.getD q .top]=c (l.getD q Rh)/\q<row.length) (hq:q<l.length) (ha:c (l.getD q Rh)=[a]) (hag:ag=Rj):QR P ρ (.load t x) a:=by
 subst hag;refine QR.loadfp a tt hx ?_;obtain ⟨h1,h2⟩:=hr q hq;show row[0+q*1]? = Rk a;rw [T9,Nat.mul_one,geq h2];rw [ha,gdq,geq h2] at h1;injection h1 with h1;exact congrArg Rk h1
end
section
variable {P:Program} {ρ:Operand->AV} {H:AH}
theorem QR.extB {cl:Call} {f x y:Operand} {g:FuncId} {fn:Func} {e:Array Value->Sem Value} {s:BA} {c n:Int} (hc:cl.callee = .value f) (hf:ρ f = .fn (.func g) []) (ha:cl.args = #[x,y]) (hx:ρ x=St s) (hy:ρ y=Y c)
  (h1 : P.funcs[g]? = some fn) (h2 : (fn.name == "runtime.NumGoroutine") = false) (h3 : fn.body.isNone = true) (h4 : Extern.findNext fn = none) (h5 : Extern.find fn = some e)
  (hr:∀ w:World,(e #[.string s,.int .u8 c]).run P w = .ok (.int .i64 n) w):QR P ρ (.call cl) (I n):=λo ho G=>by
 intro C a K Q hH hrel hxs hK;have hf1:=hf ▸ hxs f (by rw [ho];simp [Op.operands,Call.operands,hc]);obtain ⟨vs,he,hl,_⟩:=Aa hf1;obtain rfl:vs = #[]:=by
  cases vs with
  | mk l=>cases l with
   | nil=>rfl
   | cons a l=>simp at hl
 have hx1:=hx ▸ hxs x (by rw [ho];simp [Op.operands,Call.operands,ha]);have hy1:=hy ▸ hxs y (by rw [ho];simp [Op.operands,Call.operands,ha]);obtain ⟨ex,_⟩:=ik hx1;obtain ⟨ey,_⟩:=ik hy1;have hrun:(execOp a.eval o).run P C.w = .ok (.value<|.int .i64 n) C.w:=by
  rw [execOp,ho];simp only [resolve,hc,he,Deferred.ofValue,Sem.run_bind,Sem.run_pure,Result.andThen_ok,invoke];have := run_callFunc_extern h1 h2 h3 h4 h5 (cl.args.map a.eval ++ #[]) C.w;have e2:cl.args.map a.eval ++ #[] = #[.string s,.int .u8 c]:=by rw [ha];simp [ex,ey]
  rw [e2] at this;rw [show #[]++Array.map a.eval cl.args ++ #[] = #[.string s,.int .u8 c] by rw [ha];simp [ex,ey],this,hr]
  rfl
 unfold Oper.wp;rw [hrun,Oper.upon_value];exact hK _ C hH hrel (Ext.refl C)<|.fr<|.v rfl
def PQ (s:BA) (c:Int):Int:=((Lib.countByte s.data.toList c.toNat.toUInt8:Nat):Int)
def PR (s:BA) (c:Int):Int:=Lib.indexByte s.data.toList c.toNat.toUInt8
theorem QR.extCount {cl:Call} {f x y:Operand} {g:FuncId} {fn:Func} {s:BA} {c:Int} (hc:cl.callee = .value f) (hf:ρ f = .fn (.func g) []) (ha:cl.args = #[x,y]) (hx:ρ x=St s) (hy:ρ y=Y c)
  (h1 : P.funcs[g]? = some fn) (h2 : (fn.name == "runtime.NumGoroutine") = false) (h3 : fn.body.isNone = true) (h4 : Extern.findNext fn = none) (h5 : Extern.find fn = some Extern.BytealgCount.count) : QR P ρ (.call cl) (I (PQ s c)) :=
 QR.extB hc hf ha hx hy h1 h2 h3 h4 h5 λw=>Lib.run_countString s c w
theorem QR.extIndex {cl:Call} {f x y:Operand} {g:FuncId} {fn:Func} {s:BA} {c:Int} (hc:cl.callee = .value f) (hf:ρ f = .fn (.func g) []) (ha:cl.args = #[x,y]) (hx:ρ x=St s) (hy:ρ y=Y c)
  (h1 : P.funcs[g]? = some fn) (h2 : (fn.name == "runtime.NumGoroutine") = false) (h3 : fn.body.isNone = true) (h4 : Extern.findNext fn = none) (h5 : Extern.find fn = some Extern.BytealgIndexByte.indexByte) : QR P ρ (.call cl) (I (PR s c)) :=
 QR.extB hc hf ha hx hy h1 h2 h3 h4 h5 λw=>Lib.run_indexByteString s c w
end
def CK:List BA:=[(⟨#[]⟩:BA),(⟨#[97,99,121,99,108,105,99]⟩:BA),(⟨#[105,114,114,101,102]⟩:BA),(⟨#[101,109,112,116,121]⟩:BA)]
def Pz:List AV:=[St (⟨#[]⟩:BA),St (⟨#[97,99,121,99,108,105,99]⟩:BA),St (⟨#[105,114,114,101,102]⟩:BA),St (⟨#[101,109,112,116,121]⟩:BA)]
theorem Nf:∀ q,q<CK.length->[Pz.getD q .top]=cS (CK.getD q Rh)/\q<Pz.length
 | 0,_=>⟨rfl,by decide⟩
 | 1,_=>⟨rfl,by decide⟩
 | 2,_=>⟨rfl,by decide⟩
 | 3,_=>⟨rfl,by decide⟩
 | q+4,h=>absurd h (Nat.not_lt.2<|Ua 4 q)
theorem Lj:Pz.length=4*1/\∀ i,i<4->(Pz.drop (i*1)).take 1=cS (CK.getD i Rh):=⟨rfl,λi h=>by
 match i,h with
 | 0,_=>rfl
 | 1,_=>rfl
 | 2,_=>rfl
 | 3,_=>rfl
 | q+4,h=>exact absurd h (Nat.not_lt.2 (Ua 4 q))⟩
def EM:List BA:=[(⟨#[112,111]⟩:BA),(⟨#[108,111,99]⟩:BA),(⟨#[101,120,116]⟩:BA),(⟨#[114,102]⟩:BA),(⟨#[99,111]⟩:BA),(⟨#[102,114]⟩:BA),(⟨#[102,101,110,99,101]⟩:BA),(⟨#[119,114]⟩:BA),(⟨#[119,119]⟩:BA),(⟨#[105,100]⟩:BA)]
def Qq:List AV:=[St (⟨#[112,111]⟩:BA),St (⟨#[108,111,99]⟩:BA),St (⟨#[101,120,116]⟩:BA),St (⟨#[114,102]⟩:BA),St (⟨#[99,111]⟩:BA),St (⟨#[102,114]⟩:BA),St (⟨#[102,101,110,99,101]⟩:BA),St (⟨#[119,114]⟩:BA),St (⟨#[119,119]⟩:BA),St (⟨#[105,100]⟩:BA)]
theorem Ll:Qq.length=10*1/\∀ i,i<10->(Qq.drop (i*1)).take 1=cS (EM.getD i Rh):=⟨rfl,λi h=>by
 match i,h with
 | 0,_=>rfl
 | 1,_=>rfl
 | 2,_=>rfl
 | 3,_=>rfl
 | 4,_=>rfl
 | 5,_=>rfl
 | 6,_=>rfl
 | 7,_=>rfl
 | 8,_=>rfl
 | 9,_=>rfl
 | q+10,h=>exact absurd h (Nat.not_lt.2 (Ua 10 q))⟩
structure QV where
 Op:Int
 Loc:Int
 Reg:Int
 Val:Int
instance:Inhabited QV:=⟨⟨Rh,Rh,Rh,Rh⟩⟩
def QV.c (x:QV):List AV:=[I x.Op,I x.Loc,I x.Reg,I x.Val]
theorem QV.isF (x:QV):(QV.c x).all (isF 9)=Ri:=rfl
structure QW where
 From:LI
 Order:LL
instance:Inhabited QW:=⟨⟨Rh,Rh⟩⟩
def QW.c (x:QW):List AV:=[eL cI x.From,eL (cL cI) x.Order]
theorem QW.isF (x:QW):(QW.c x).all (isF 9)=Ri:=rfl
structure ZTr where
 p:List (List QV)
 x:QW
 number:LL
 schedule:LI
 failed:List ((Int×Int×Int)×Bool)
structure ZTv where
 p:List (List QV)
 x:QW
 number:LL
instance:Inhabited ZTv:=⟨⟨Rh,Rh,Rh⟩⟩
def ZTv.c (x:ZTv):List AV:=[eL (cL QV.c) x.p,eL cI x.x.From,eL (cL cI) x.x.Order,eL (cL cI) x.number]
structure QX where
 Thread:Int
 Index:Int
 Loc:Int
 Reads:Bool
 bK:Bool
instance:Inhabited QX:=⟨⟨Rh,Rh,Rh,Rh,Rh⟩⟩
def QX.c (x:QX):List AV:=[I x.Thread,I x.Index,I x.Loc,Bo x.Reads,Bo x.bK]
theorem QX.isF (x:QX):(QX.c x).all (isF 9)=Ri:=rfl
structure XV_impl_valuer where
 p:List (List QV)
 x:QW
 events:List QX
instance:Inhabited XV_impl_valuer:=⟨⟨Rh,Rh,Rh⟩⟩
def XV_impl_valuer.c (x:XV_impl_valuer):List AV:=[eL (cL QV.c) x.p,eL cI x.x.From,eL (cL cI) x.x.Order,eL QX.c x.events]
inductive ZTE where
 | mk (Op:Int) (Name:BA) (Kids:List ZTE)
structure ae where
 Op:Int
 Name:BA
 Kids:List ZTE
instance:Inhabited ZTE:=⟨.mk Rh Rh []⟩
instance:Inhabited ae:=⟨⟨Rh,Rh,[]⟩⟩
def ZTE.out:ZTE->ae
 | .mk a0 a1 a2=>⟨a0,a1,a2⟩
def ae.inn (x:ae):ZTE := .mk x.Op x.Name x.Kids
mutual
def ZTE.c:ZTE->List AV
 | .mk a0 a1 a2=>[I a0,St a1,.sl a2.length (ZTE.r a2)]
def ZTE.r:List ZTE->Nat->List AV
 | []=>λ_=>[.nil,.nil,.nil]
 | x::l=>λi=>match i with
  | 0=>ZTE.c x
  | i+1=>ZTE.r l i
end
theorem ZTE.len (x:ZTE):(ZTE.c x).length=3:=by
 cases x;simp only [ZTE.c];rfl
theorem ZTE.r0 (x:ZTE) (l:List ZTE):ZTE.r (x::l) 0=ZTE.c x:=by simp only [ZTE.r]
theorem ZTE.r1 (x:ZTE) (l:List ZTE) (i:Nat):ZTE.r (x::l) (i+1)=ZTE.r l i:=by simp only [ZTE.r]
def ae.c (x:ae):List AV:=[I x.Op,St x.Name,eL ZTE.c x.Kids]
theorem ae.isF (x:ae):(ae.c x).all (isF 9)=Ri:=rfl
theorem ZTE.out_c (x:ZTE):Et (ZTE.c x) (ae.c x.out):=by
 cases x;simp only [ZTE.c];exact ⟨EqS.refl _,⟨EqS.refl _,⟨EqS.slr ZTE.r0 ZTE.r1 _,trivial⟩⟩⟩
theorem ae.inn_c (x:ae):Et (ae.c x) (ZTE.c x.inn):=by
 cases x;simp only [ae.inn,ZTE.c];exact ⟨EqS.refl _,⟨EqS.refl _,⟨EqS.slr' ZTE.r0 ZTE.r1 _,trivial⟩⟩⟩
structure aj where
 Kind:Int
 Expr:ae
instance:Inhabited aj:=⟨⟨Rh,Rh⟩⟩
def aj.c (x:aj):List AV:=[I x.Kind,I x.Expr.Op,St x.Expr.Name,eL ZTE.c x.Expr.Kids]
theorem aj.isF (x:aj):(aj.c x).all (isF 9)=Ri:=rfl
structure Z3i where
 x0:Int
 x1:Int
 x2:Int
instance:Inhabited Z3i:=⟨⟨Rh,Rh,Rh⟩⟩
def Z3i.c (x:Z3i):List AV:=[I x.x0,I x.x1,I x.x2]
def Z3i.get (a:Z3i) (q:Int):Int:=if q=0 then a.x0 else if q=1 then a.x1 else a.x2
def Z3i.set (a:Z3i) (q:Int) (v:Int):Z3i:=if q=0 then ⟨v,a.x1,a.x2⟩ else if q=1 then ⟨a.x0,v,a.x2⟩ else ⟨a.x0,a.x1,v⟩
structure ah where
 b:LI
 p:Int
instance:Inhabited ah:=⟨⟨Rh,Rh⟩⟩
def ah.c (x:ah):List AV:=[eL cY x.b,I x.p]
structure aa where
 rest:BA
 failed:Bool
instance:Inhabited aa:=⟨⟨Rh,Rh⟩⟩
def aa.c (x:aa):List AV:=[St x.rest,Bo x.failed]
structure Z3b where
 x0:Int
 x1:Int
 x2:Int
instance:Inhabited Z3b:=⟨⟨Rh,Rh,Rh⟩⟩
def Z3b.c (x:Z3b):List AV:=[Y x.x0,Y x.x1,Y x.x2]
def Z3b.get (a:Z3b) (q:Int):Int:=if q=0 then a.x0 else if q=1 then a.x1 else a.x2
def Z3b.set (a:Z3b) (q:Int) (v:Int):Z3b:=if q=0 then ⟨v,a.x1,a.x2⟩ else if q=1 then ⟨a.x0,v,a.x2⟩ else ⟨a.x0,a.x1,v⟩
structure Z33 where
 x0:Z3b
 x1:Z3b
 x2:Z3b
instance:Inhabited Z33:=⟨⟨Rh,Rh,Rh⟩⟩
def Z33.c (x:Z33):List AV:=[Y x.x0.x0,Y x.x0.x1,Y x.x0.x2,Y x.x1.x0,Y x.x1.x1,Y x.x1.x2,Y x.x2.x0,Y x.x2.x1,Y x.x2.x2]
def Z33.get (a:Z33) (q:Int):Z3b:=if q=0 then a.x0 else if q=1 then a.x1 else a.x2
def Z33.set (a:Z33) (q:Int) (v:Z3b):Z33:=if q=0 then ⟨v,a.x1,a.x2⟩ else if q=1 then ⟨a.x0,v,a.x2⟩ else ⟨a.x0,a.x1,v⟩
structure QY where
 p:List (List QV)
 pc:Z3b
 reg:Z33
 mem:Z3b
instance:Inhabited QY:=⟨⟨Rh,Rh,Rh,Rh⟩⟩
def QY.c (x:QY):List AV:=[eL (cL QV.c) x.p,Y x.pc.x0,Y x.pc.x1,Y x.pc.x2,Y x.reg.x0.x0,Y x.reg.x0.x1,Y x.reg.x0.x2,Y x.reg.x1.x0,Y x.reg.x1.x1,Y x.reg.x1.x2,Y x.reg.x2.x0,Y x.reg.x2.x1,Y x.reg.x2.x2,Y x.mem.x0,Y x.mem.x1,Y x.mem.x2]
structure QZ where
 values:QY
instance:Inhabited QZ:=⟨⟨Rh⟩⟩
def QZ.c (x:QZ):List AV:=[eL (cL QV.c) x.values.p,Y x.values.pc.x0,Y x.values.pc.x1,Y x.values.pc.x2,Y x.values.reg.x0.x0,Y x.values.reg.x0.x1,Y x.values.reg.x0.x2,Y x.values.reg.x1.x0,Y x.values.reg.x1.x1,Y x.values.reg.x1.x2,Y x.values.reg.x2.x0,Y x.values.reg.x2.x1,Y x.values.reg.x2.x2,Y x.values.mem.x0,Y x.values.mem.x1,Y x.values.mem.x2]
structure Xutf8_acceptRange where
 lo:Int
 hi:Int
instance:Inhabited Xutf8_acceptRange:=⟨⟨Rh,Rh⟩⟩
def Xutf8_acceptRange.c (x:Xutf8_acceptRange):List AV:=[Y x.lo,Y x.hi]
def kR (code:LI):Option ah:= TK (bif Rm ((2000:Int)<(code.length:Int)) then gd (Rm<|0<=(0:Int)/\(0:Int)<=(2000:Int)/\(2000:Int)<=(code.length:Int)) <|Rk ((code.drop (0:Int).toNat).take<|(2000:Int).toNat-(0:Int).toNat) else Rk code) λs1=>Rk (⟨s1,(0:Int)⟩:ah)
def az (r_:ah) (n:Int):Option (ah×Int):= gd (QS .i64<|r_.p+(1:Int)) <|TK (bif Rm (n<(1:Int)) then Rk Ri else Rk ((r_.b.length:Int)==(0:Int))) λs2=>bif s2 then Rk ((⟨r_.b,(r_.p+(1:Int))⟩:ah),(0:Int)) else gd (QS .i64<|(r_.p+(1:Int))-(1:Int)) <|bif Rm (((r_.p+(1:Int))-(1:Int))<(r_.b.length:Int)) then gd (Rm<|0<=((r_.p+(1:Int))-(1:Int))/\((r_.p+(1:Int))-(1:Int))<(r_.b.length:Int)) <|gd (QS .i64<|J r_.b<|(r_.p+(1:Int))-(1:Int)) <|gd (Rm<|n≠0) <|Rk ((⟨r_.b,(r_.p+(1:Int))⟩:ah),((J r_.b<|(r_.p+(1:Int))-(1:Int)).tmod n)) else gd (Rm<|(r_.b.length:Int)≠0) <|gd (Rm<|0<=(((r_.p+(1:Int))-(1:Int)).tmod (r_.b.length:Int))/\(((r_.p+(1:Int))-(1:Int)).tmod (r_.b.length:Int))<(r_.b.length:Int)) <|gd (QS .i64<|J r_.b<|((r_.p+(1:Int))-(1:Int)).tmod (r_.b.length:Int)) <|gd (QS .i64<|(J r_.b<|((r_.p+(1:Int))-(1:Int)).tmod (r_.b.length:Int))*(131:Int)) <|gd (QS .i64<|((r_.p+(1:Int))-(1:Int))*(7:Int)) <|gd (QS .i64<|(((r_.p+(1:Int))-(1:Int))*(7:Int))+(3:Int)) <|gd (Rm<|0<=(((((r_.p+(1:Int))-(1:Int))*(7:Int))+(3:Int)).tmod (r_.b.length:Int))/\(((((r_.p+(1:Int))-(1:Int))*(7:Int))+(3:Int)).tmod (r_.b.length:Int))<(r_.b.length:Int)) <|gd (QS .i64<|J r_.b<|((((r_.p+(1:Int))-(1:Int))*(7:Int))+(3:Int)).tmod (r_.b.length:Int)) <|gd (QS .i64<|(J r_.b<|((((r_.p+(1:Int))-(1:Int))*(7:Int))+(3:Int)).tmod (r_.b.length:Int))*(1117:Int)) <|gd (QS .i64<|((J r_.b<|((r_.p+(1:Int))-(1:Int)).tmod (r_.b.length:Int))*(131:Int))+((J r_.b<|((((r_.p+(1:Int))-(1:Int))*(7:Int))+(3:Int)).tmod (r_.b.length:Int))*(1117:Int))) <|gd (QS .i64<|((r_.p+(1:Int))-(1:Int))*(29:Int)) <|gd (QS .i64<|(((J r_.b<|((r_.p+(1:Int))-(1:Int)).tmod (r_.b.length:Int))*(131:Int))+((J r_.b<|((((r_.p+(1:Int))-(1:Int))*(7:Int))+(3:Int)).tmod (r_.b.length:Int))*(1117:Int)))+(((r_.p+(1:Int))-(1:Int))*(29:Int))) <|gd (QS .i64<|((r_.p+(1:Int))-(1:Int)).tdiv (r_.b.length:Int)) <|gd (QS .i64<|(((r_.p+(1:Int))-(1:Int)).tdiv (r_.b.length:Int))*(53:Int)) <|gd (QS .i64<|((((J r_.b<|((r_.p+(1:Int))-(1:Int)).tmod (r_.b.length:Int))*(131:Int))+((J r_.b<|((((r_.p+(1:Int))-(1:Int))*(7:Int))+(3:Int)).tmod (r_.b.length:Int))*(1117:Int)))+(((r_.p+(1:Int))-(1:Int))*(29:Int)))+((((r_.p+(1:Int))-(1:Int)).tdiv (r_.b.length:Int))*(53:Int))) <|gd (Rm<|(64:Int)≠0) <|gd (QS .i64<|(((((J r_.b<|((r_.p+(1:Int))-(1:Int)).tmod (r_.b.length:Int))*(131:Int))+((J r_.b<|((((r_.p+(1:Int))-(1:Int))*(7:Int))+(3:Int)).tmod (r_.b.length:Int))*(1117:Int)))+(((r_.p+(1:Int))-(1:Int))*(29:Int)))+((((r_.p+(1:Int))-(1:Int)).tdiv (r_.b.length:Int))*(53:Int))).tdiv (64:Int)) <|TK (Rk<|OB .i64 (((((J r_.b<|((r_.p+(1:Int))-(1:Int)).tmod (r_.b.length:Int))*(131:Int))+((J r_.b<|((((r_.p+(1:Int))-(1:Int))*(7:Int))+(3:Int)).tmod (r_.b.length:Int))*(1117:Int)))+(((r_.p+(1:Int))-(1:Int))*(29:Int)))+((((r_.p+(1:Int))-(1:Int)).tdiv (r_.b.length:Int))*(53:Int)))<|(((((J r_.b<|((r_.p+(1:Int))-(1:Int)).tmod (r_.b.length:Int))*(131:Int))+((J r_.b<|((((r_.p+(1:Int))-(1:Int))*(7:Int))+(3:Int)).tmod (r_.b.length:Int))*(1117:Int)))+(((r_.p+(1:Int))-(1:Int))*(29:Int)))+((((r_.p+(1:Int))-(1:Int)).tdiv (r_.b.length:Int))*(53:Int))).tdiv (64:Int)) λw27=>gd (Rm<|n≠0) <|Rk ((⟨r_.b,(r_.p+(1:Int))⟩:ah),(w27.tmod n))
def bi (r_:ah) (list:LI):Option (ah×Int):= TK (az (⟨r_.b,r_.p⟩:ah) (list.length:Int)) λv1=>gd (Rm<|0<=v1.2/\v1.2<(list.length:Int)) <|Rk ((⟨v1.1.b,v1.1.p⟩:ah),(J list v1.2))
def Lm (l:List BA) (sep:BA):BA:=⟨(Lib.join (l.map (·.data.toList)) sep.data.toList).toArray⟩
def nT (l:List BA) (sep:BA):Option BA:=
 gd (Rm<|l.length<=140737488355328/\(Lm l sep).size<=140737488355328)<|Rk (Lm l sep)
end
end Go.Proofs.YtabfkkjdfhbngaaGreatDoor
