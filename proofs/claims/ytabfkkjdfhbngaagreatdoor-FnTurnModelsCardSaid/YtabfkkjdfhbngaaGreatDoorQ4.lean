/- Texts joined. No conditions. -/
import Derived.Lib.Bytealg
import Derived.Laws.Externs
import Derived.Lib.Join
import Derived.Below
import Derived.Laws.OwnMore
import Derived.Deep.Draws
import Derived.Laws.Rows
import Derived.Laws.MakeOwn
import Derived.Laws.Entries
import Derived.Lib.Hide
import Derived.Test.YtabfkkjdfhbngaaGreatDoorRows
import Derived.WalkKit
import Derived.ProofKit
import Derived.Deep.RegionHeld3
import Derived.Deep.DrawnRows
import Derived.Maps.AppendAt
import Derived.Deep.AppendLies
import Derived.RegionTactic
import Derived.OwnWalk
import Derived.Outline
import Derived.Deep.RegionLaw
import Derived.Test.YtabfkkjdfhbngaaGreatDoorQ3
namespace Go.Proofs.YtabfkkjdfhbngaaGreatDoor
noncomputable section
open _root_.Inhabited renaming default -> Nj
open _root_.Bool renaming true -> Nk
open _root_.Bool renaming false -> Nl
open _root_.Option renaming some -> Nn
open _root_.Option renaming none -> Np
open _root_.Decidable renaming decide -> Nq
open _root_.Go.Proofs.Tryz
open _root_.Go.Proofs.Tryz renaming prog -> Nr
open _root_.Nat renaming add_mul -> Pi, ble -> Pk, mul_le_mul_right -> Pm, mul_comm -> Pq, le_refl -> Pt, lt_or_ge -> Pw, zero_add -> PE, min_eq_left -> PM, le_add_left -> PT
open _root_.List renaming replicate -> Pj, getElem?_take -> Pn, getElem?_cons_zero -> Po, length_take -> Pp, mem_replicate -> Pv, all_eq_true -> Px, ext_getElem? -> Py, range -> Pz, mem_map -> PD, mem_of_getElem? -> PG, getElem?_cons_succ -> PI, getElem?_set_ne -> PL, map_take -> PN, length_drop -> PO, getElem?_set_self -> PP, nil_append -> PR, map_congr_left -> P5, length_replicate -> P8
open _root_.Array renaming getElem?_toList -> Ps, range -> Pu, length_toList -> PH, mem_of_getElem? -> PK, getElem?_eq_none -> PU, any_eq_true' -> PX, getElem?_eq_some_iff -> PY, getElem?_append_left -> PZ, getElem?_eq_getElem -> P9
open _root_.Bool renaming or_eq_true -> PF
open _root_.Option renaming bind_eq_some_iff -> PQ, map_eq_some_iff -> P6
open Go.RowKit
set_option maxRecDepth 100000
section
variable {P:Program} {o:Oper} {ρ:Operand->AV} {H:AH} {x y:Operand} {t e:TypeId}
theorem zP {lo co:Operand} {l k:Int} {z:Value} (ho:o.op = .makeSlice t lo co) (ht:P.underlying t=Nn (.slice e)) (hlo:ρ lo = .v (.int .i64 l)) (hco:ρ co = .v (.int .i64 k)) (hz:(P.info? e).bind (·.zero)=Nn z)
  (h0:0<=l) (h1:l<=k) (hb:k*(P.bytesOf e:Int)<=140737488355328) (hk:k<=140737488355328) (hs:0<P.cellsOf e) (hzs:(dD z).length=P.cellsOf e) (hz1:lG z.cells=Nk) :
  Fw P o ρ H ⟨0,P.cellsOf e,e,Pj k.toNat<|dD z⟩ (.hs H.length 0 (P.cellsOf e) 0 l.toNat):=by
 cases hi:P.info? e with
 | none=>simp_all
 | some i=>
  simp only [hi,Option.bind_some] at hz;have hby:P.bytesOf e=i.bytes:=by simp [Program.bytesOf,hi]
  have hce:P.cellsOf e=i.size:=by simp [Program.cellsOf,hi]
  have hzsz:z.cells.size=P.cellsOf e:=by simpa [dD] using hzs
  refine λc a hH hr hx=>?_;have hl1:=(eO<|hlo ▸ hx lo (by rw [ho];simp [Op.operands])).1;have hk1:=(eO<|hco ▸ hx co (by rw [ho];simp [Op.operands])).1;have hzc:=qY c hz1;have hsize:(sizeOf e).run P c.w = .ok (P.cellsOf e) c.w:=run_sizeOf c.w hi;have hzero:(zeroValue e).run P c.w = .ok z c.w:=by simp [zeroValue,typeInfo,hi,hz]
  refine ⟨(Pu<|k.toNat*P.cellsOf e).map (z.cells[· % z.cells.size]!),.slice (Nn ⟨c.w.heap.size,0,Np⟩) l.toNat k.toNat,?_,Cx.new_rel hr _ _ hs (by simp) (λq row h=>?_) λq row j a' h1' h2=>?_,?_⟩
  ·rw [execOp,ho];refine (?_:Sem.run P _ c.w=_);have hneg : ¬ ((((Nq (k<0)||Nq (i.bytes*k>2 ^ 48))||Nq (l<0))||Nq (l>k))=Nk):=by
    simp only [PF,dte,not_or];rw [hby,Int.mul_comm] at hb;omega
   have : (Instr.makeSlice t (a.eval lo)<|a.eval co).run P c.w = .ok (.slice (Nn ⟨c.w.heap.size,0,Np⟩) l.toNat k.toNat) (c.w.alloc (.cells ((Pu<|k.toNat*P.cellsOf e).map (z.cells[· % z.cells.size]!)) e)):=by
    rw [hl1,hk1];simp only [Instr.makeSlice,Sem.run_bind,av ht,Result.andThen_ok,asInt,asIntOf,Sem.run_pure,run_typeInfo c.w hi,AL (n:=l) h0 (by omega),AL (n:=k) (by omega) (by omega)];rw [if_neg hneg];simp only [Sem.run_bind,run_askRoom,Result.andThen_ok,hsize]
    by_cases h00:k.toNat*P.cellsOf e=0
    ·rw [if_pos h00,h00];have h00':∀ f:Nat->Value,Array.map f (Pu 0) = #[]:=λf=>Array.eq_empty_of_size_eq_zero (by simp);simp [newRow,h00']
    rw [if_neg h00];simp [hzero,newRow]
   simp only [Sem.run_bind,this,Result.andThen_ok,Sem.run_pure]
   rfl
  ·grind
  ·have hq:q<k.toNat:=by
    have := (ges h1').1;simpa using this
   have := PG h1';rw [Pv] at this;rw [this.2] at h2;have hj:j<P.cellsOf e:=by
    have := (ges h2).1;omega
   have hfit:q*P.cellsOf e+j<k.toNat*P.cellsOf e:=by
    have : (q+1)*P.cellsOf e<=k.toNat*P.cellsOf e:=Pm _ (by omega);rw [Pi] at this;omega
   simp only;rw [yA _ _ _ hfit (by omega),hzsz,Pq,Nat.mul_add_mod,Nat.mod_eq_of_lt hj];exact hzc.get h2
  subst hH;have := Cx.new_hs c ⟨0,P.cellsOf e,e,Pj k.toNat<|dD z⟩ ((Pu<|k.toNat*P.cellsOf e).map (z.cells[· % z.cells.size]!)) (n:=l.toNat) (cap:=k.toNat) (by simp;omega) (by omega) (by omega) (by simp);omega
theorem Jw {ag:Bool} {w m:Nat} {zs:List AV} {a b:Int} (q:SlT P t e ag w zs m) (ho:o.op = .makeSlice t x y) (hx:ρ x = .v (.int .i64 a)) (hy:ρ y = .v (.int .i64 b)) (hq:0<=a/\a<=b/\b*(m:Int)<=140737488355328/\b<=140737488355328) :
  Fw P o ρ H ⟨0,w,e,Pj b.toNat zs⟩ (.hs H.length 0 w 0 a.toNat):=by
 have hz:=q.z.z;have h1:=q.z.one
 cases hb:(P.info? e).bind (·.zero) with
 | none=>simp_all
 | some z=>
  rw [hb] at hz h1;simp only [Option.map_some,sie] at hz h1;have h:=zP (P:=P) (o:=o) (ρ:=ρ) (H:=H) ho q.u hx hy hb hq.1 hq.2.1 (by rw [q.by_];omega) hq.2.2.2 (by rw [q.ty.cells];exact nlb q.pos) (by rw [hz,q.ty.cells];exact q.zl) h1;rw [hz,q.ty.cells] at h;exact h
end
section
variable {P:Program}
def OSQ (bs:List Nat) (K:AH) (r:AV):AV->AH->Prop:=λr0 G=>
 bs.Nodup/\bs.length=K.length/\(∀ (j b:Nat),bs[j]? = Nn b->∃ k,uX k/\G[b]? = Nn (Nn k)/\K[j]? = Nn (Nn k))/\Ren (λi j=>bs[j]? = Nn i) r0 r
inductive Lies (G:AH):List Nat->AH->Prop
 | nil:Lies G [] []
 | cons {b:Nat} {k:ABlk} {bs:List Nat} {K:AH} (h:G[b]? = Nn (Nn k)) (hk:uX k) (t:Lies G bs K):Lies G (b::bs) (Nn k::K)
theorem Lies.spec {G:AH} {bs:List Nat} {K:AH} (h:Lies G bs K):bs.length=K.length/\∀ (j b:Nat),bs[j]? = Nn b->∃ k,uX k/\G[b]? = Nn (Nn k)/\K[j]? = Nn (Nn k):=by
 induction h with
 | nil=>simp_all
 | @cons b k bs K h hk t ih=>
  grind
theorem OSQ.mk {bs:List Nat} {K G:AH} {r r0:AV} (hnd:bs.Nodup) (hl:Lies G bs K) (hr:Ren (λi j=>bs[j]? = Nn i) r0 r):OSQ bs K r r0 G:=⟨hnd,hl.spec.1,hl.spec.2,hr⟩
inductive RowsF:AH->Prop
 | nil:RowsF []
 | cons {k:ABlk} {K:AH} (hk:uX k) (t:RowsF K):RowsF (Nn k::K)
theorem RowsF.spec {K:AH} (h:RowsF K):∀ (j:Nat) (k:ABlk),K[j]? = Nn (Nn k)->uX k:=by
 induction h with
 | nil=>simp_all
 | cons hk t ih=>
  grind
end
def IV (ops:Array Oper):Nat->Nat->Nat->Bool
 | 0,_,_=>Nl
 | n+1,j,i=>match ops[j]? with
  | some oj=>oj.after.any λed=>Region.binds .any ed&&(ed.on==i||IV ops n ed.on i)
  | none=>Nl
def ClL (ops:Array Oper) (listed:Array Bool):Prop:=∀ (j:Nat) (oj:Oper),ops[j]? = Nn oj->listed.getD j Nl=Nk->∀ ed∈oj.after,Region.binds .any ed=Nk->listed.getD ed.on Nl=Nk
theorem FR {listed:Array Bool} {i j:Nat} (h:listed.getD i Nl=Nk):(listed.setIfInBounds j Nk).getD i Nl=Nk:=by
 by_cases e:j=i
 ·subst e;rcases Pw j listed.size with h' | h'
  ·simp [h']
  simp [PU h'] at h
 simp_all
theorem ClL.up {ops:Array Oper} {listed:Array Bool} {j:Nat} (h:ClL ops listed) (hj:j∈Region.ready .any ops listed):ClL ops (listed.setIfInBounds j Nk):=by
 intro i oi hoi hl ed he hb
 by_cases e:j=i
 ·subst e;obtain ⟨_,oj,hoj,hall⟩:=mem_ready.1 hj;rw [hoi] at hoj;injection hoj with hoj;subst hoj;exact FR<|hall ed he hb
 refine FR<|h i oi hoi ?_ ed he hb
 simp_all
theorem Af {ops:Array Oper} {listed:Array Bool} {i:Nat} (h:ClL ops listed) (hi:listed.getD i Nk=Nl):∀ (n j:Nat),(∀ oj,ops[j]? = Nn oj->∀ ed∈oj.after,Region.binds .any ed=Nk->listed.getD ed.on Nl=Nk)->IV ops n j i=Nl
 | 0,_,_=>rfl
 | n+1,j,hj=>by
  unfold IV
  split
  ·rename_i oj hoj;rw [Bool.eq_false_iff];intro hany;rw [PX] at hany;obtain ⟨ed,h1,h2⟩:=hany;simp only [bae,PF,beq_iff_eq] at h2;have hl:=hj oj hoj ed h1 h2.1;rcases h2.2 with h3 | h3
   ·grind
   rw [Af h hi n ed.on λoj' hoj'=>h ed.on oj' hoj' hl] at h3
   cases h3
  rfl
section
variable {P:Program}
theorem CS {ops:Array Oper} {fp:Nat->Fp} {Q:Env->AH->Prop} {i n:Nat} {oi:Oper} {r:AV} (hi:ops[i]? = Nn oi) :
  ∀ (fuel:Nat) (listed:Array Bool) (e:Env) (H Hi:AH),ClL ops listed ->
   (∀ (j:Nat) (oj:Oper),ops[j]? = Nn oj->j≠i->listed.getD j Nk=Nl->IV ops (n+1) j i=Nl->oi.apart ops oj=Nk/\nS (fp i) (fp j)=Nk) ->
   i∈Region.ready .any ops listed->ql P oi (rho e) H r Hi (fp i).1->((fp i).2=Nl->Hi=H)->Hm P ops fp Q fuel (listed.setIfInBounds i Nk) (uU e oi.dst r) Hi->Hm P ops fp Q (fuel+1) listed e H:=by
 intro fuel
 induction fuel with
 | zero=>
  intro listed e H Hi _ _ hr hy hro hA;refine ⟨λh=>(by simp_all),λj hj=>?_⟩
  by_cases hji:j=i
  ·grind
  have := ready_mono hj hji;rw [hA.1] at this
  grind
 | succ fuel ih=>
  intro listed e H Hi hcl hfree hr hy hro hA;refine ⟨λh=>(by simp_all),λj hj=>?_⟩
  by_cases hji:j=i
  ·grind
  obtain ⟨oj,q,Hj,hoj,hsj,hroj,hAj⟩:=hA.2 j<|ready_mono hj hji;obtain ⟨hjun,oj',hoj',hall⟩:=mem_ready.1 hj;rw [hoj] at hoj';injection hoj' with hoj';subst hoj';have hnot:IV ops (n+1) j i=Nl:=Af hcl (mem_ready.1 hr).1 (n+1) j λoj' hoj'=>by
   rw [hoj] at hoj';injection hoj' with hoj';subst hoj';exact hall
  obtain ⟨hap,hcm⟩:=hfree j oj hoj hji hjun hnot;obtain ⟨h1,h2,h3⟩:=Oper.apart_spec hap;have ej:=vW (e:=e) (r:=r) h1;have ei:=vW (e:=e) (oi:=oj) (r:=q) h3;have hsj':=hsj.congr ej;have hfree':∀ (k:Nat) (ok:Oper),ops[k]? = Nn ok->k≠i->(listed.setIfInBounds j Nk).getD k Nk=Nl->IV ops (n+1) k i=Nl->oi.apart ops ok=Nk/\nS (fp i) (fp k)=Nk:=λk ok hk hki hun hno=>by
   refine hfree k ok hk hki ?_ hno
   by_cases hjk:j=k
   ·subst hjk;exact hjun
   rw [getD_set_ne Nk hjk] at hun;exact hun
  have fin:∀ Hj',ql P oj (rho e) H q Hj' (fp j).1->((fp j).2=Nl->Hj'=H)->ql P oi (rho e) Hj' r Hj (fp i).1->((fp i).2=Nl->Hj=Hj')->∃ o r' H',ops[j]? = Nn o/\ql P o (rho e) H r' H' (fp j).1/\((fp j).2=Nl->H'=H)/\Hm P ops fp Q (fuel+1) (listed.setIfInBounds j Nk) (uU e o.dst r') H':=λHj' s1 s1' s2 s2'=>by
   refine ⟨oj,q,Hj',hoj,s1,s1',ih (listed.setIfInBounds j Nk) (uU e oj.dst q) Hj' Hj (hcl.up hj) hfree' (ready_mono hr<|Ne.symm hji) (s2.congr λx hx=>(ei x hx).symm) s2' ?_⟩;rw [Array.setIfInBounds_comm _ _ hji,yU (λd hd=>λhd'=>h2 d (by simpa using hd')<|by simpa using hd)];exact hAj
  simp only [nS,PF,bae,Bool.not_eq_true',Px,List.contains_eq_mem,decide_eq_false_iff_not] at hcm;rcases hcm with hdis | ⟨w1,w2⟩
  ·have hag:agree (fp j).1 H Hi:=⟨hy.1.symm,λb hb=>(hy.2.1 b λhbi=>hdis b hbi hb).symm⟩;obtain ⟨Hj',a1,a2,a3,a4⟩:=hsj'.at_ hag;have hag2:agree (fp i).1 Hj' H:=⟨a1,λb hb=>a3 b<|hdis b hb⟩;obtain ⟨K,b1,b2,b3,b4⟩:=hy.at_ hag2;have hKH:K=Hj:=by
    apply Py;intro b
    by_cases hbi:b∈(fp i).1
    ·rw [b2 b hbi,hsj'.2.1 b (hdis b hbi)]
    rw [b3 b hbi]
    by_cases hbj:b∈(fp j).1
    ·exact a2 b hbj
    rw [a3 b hbj,hsj'.2.1 b hbj,hy.2.1 b hbi]
   subst hKH;refine fin Hj' a4 (λhw=>?_) b4 λhw=>?_
   ·apply Py;intro b
    by_cases hbj:b∈(fp j).1
    ·rw [a2 b hbj,hroj hw,hy.2.1 b (λhbi=>hdis b hbi hbj)]
    exact a3 b hbj
   apply Py;intro b
   by_cases hbi:b∈(fp i).1
   ·rw [b2 b hbi,hro hw,a3 b (hdis b hbi)]
   exact b3 b hbi
  grind
def LA (ops:Array Oper) (fp:Nat->Fp):Bool:=
 Region.lexB .any ops&&ops.all (λo=>o.guard.isNone) &&
 (Pz ops.size).all λi=>(Pz ops.size).all λj=>Nq (j<=i)||nS (fp i) (fp j)||IV ops 6 j i
theorem DJ {ops:Array Oper} {fp:Nat->Fp} {Q:Env->AH->Prop} (hc:LA ops fp=Nk):∀ (l:List Oper) (k:Nat) (listed:Array Bool) (e:Env) (H:AH),ClL ops listed->(∀ j,l[j]? = ops[k+j]?)->listed.size=ops.size->(∀ j,j<k->listed.getD j Nk=Nk) ->
  Region.lexFrom .any ops l.length k listed=Nk->TF P fp k l Q e H->Hm P ops fp Q l.length listed e H
 | [],k,listed,e,H,_,_,_,_,hB,h=>⟨by simpa [Region.lexFrom] using hB,h⟩
 | o::l,k,listed,e,H,hcl,hl,hsz,hbef,hB,h=>by
  have h0:ops[k]? = Nn o:=by simpa using (hl 0).symm
  have hk:k<ops.size:=(PY.1 h0).1;simp only [llc,Region.lexFrom,bae] at hB;obtain ⟨⟨hr,hf⟩,hB'⟩:=hB;obtain ⟨r,H',hs,hro,hK⟩:=h;have hrk:k∈Region.ready .any ops listed:=by simpa using hr
  refine CS (n:=5) h0 l.length listed e H H' hcl (λj oj hj hne hun hno=>?_) hrk hs hro
   (DJ hc l (k+1) _ _ _ (hcl.up hrk) (λj=>by have := hl<|j+1;grind) (by simp_all) (λj hj=>?_) hB' hK)
  ·have hno1:∀ ed∈oj.after,Region.binds .any ed=Nk->ed.on≠k:=λed he hb heq=>by
    unfold IV at hno;simp only [hj] at hno;rw [Bool.eq_false_iff] at hno;refine hno ?_;rw [PX];exact ⟨ed,he,by simp [hb,heq]⟩
   refine ⟨Region.free_spec h0 hf j oj hj hne hun hno1,?_⟩;have hjs:j<ops.size:=(PY.1 hj).1;have hkj : ¬ j<=k:=λhle=>by
    have := hbef j (by omega);rw [this] at hun
    cases hun
   simp only [LA,bae,Px,List.mem_range] at hc
   grind
  by_cases e:j=k
  ·simp_all
  rw [getD_set_ne Nk (Ne.symm e)]
  grind
variable {nt b0:Nat} {Q:Exit->Env->AH->Prop} {e:Env} {H:AH}
theorem T.drawH {i:Nat} {ops:Array Oper} (fp:Nat->Fp) (hm:P.follows .mixedOrders=Nk) (hc:LA ops fp=Nk) (h:TF P fp 0 ops.toList (Q .normal) e H):T P nt b0 (.region i ops Nk) Q e H:=by
 intro hok c c0 a hH hb hx hs;simp only [codeOk] at hok;have hc':=hc;simp only [LA,bae,Region.lexB] at hc';refine wp_region_any hm ?_;have hlex:=DJ hc ops.toList 0 (Array.replicate ops.size Nl) e H (λj oj hj hl=>by
  rcases Pw j ops.size with h' | h'
  ·simp [h'] at hl
  simp_all) (λj=>by simp) (by simp) (λj hj=>absurd hj (by omega)) (by simp_all) h
 have := wW hok hc'.1.2 ops.toList.length _ e H hlex c.drew c0 a hH (hx.trans c.drew_ext) ⟨hs.size,hs.defers,λt=>(hs.rel t).ext hs.heap c.drew_ext,Cx.drew_rel hs.heap⟩;rw [PH] at this;exact this
end
section
variable {P:Program} {ρ:Operand->AV} {H H':AH}
structure MethT (P:Program) (t:TypeId) (name:String) (g:FuncId) (off:Nat):Prop where
 ex:∃ i m e,P.info? t=Nn i/\i.methods.find? (·.name==name)=Nn m/\m.func=Nn (g,Nk)/\P.underlying t=Nn (.pointer e) /\
  ((m.path.toList=[]/\off=0)\/∃ s k fs fl u,m.path.toList=[⟨s,k,Nk⟩]/\P.underlying s=Nn (.struct fs)/\fs[k]? = Nn fl/\P.cellsOf fl.type≠0/\(P.info? fl.type).isSome=Nk/\fl.offset=off/\P.underlying fl.type=Nn u/\(∀ e,u ≠ .pointer e))
def KC (P:Program) (t:TypeId) (name:String) (g:FuncId) (off:Nat):Bool:=
 match P.info? t,P.underlying t with
 | some i,Nn (.pointer _)=>(match i.methods.find? (·.name==name) with
  | some m=>m.func==Nn (g,Nk)&&(match m.path.toList with
   | []=>off==0
   | [⟨s,k,Nk⟩]=>(match P.underlying s with
    | some (.struct fs)=>(match fs[k]? with
     | some fl=>P.cellsOf fl.type != 0&&(P.info? fl.type).isSome&&fl.offset==off&&(match P.underlying fl.type with
      | some (.pointer _) | none=>Nl
      | some _=>Nk)
     | none=>Nl)
    | _=>Nl)
   | _=>Nl)
  | none=>Nl)
 | _,_=>Nl
theorem MethT.of {t:TypeId} {name:String} {g off:Nat} (h:KC P t name g off=Nk):MethT P t name g off:=by
 unfold KC at h
 split at h
 ·rename_i i e hi hu
  split at h
  ·rename_i m hm;simp only [bae,beq_iff_eq] at h;obtain ⟨hf,h⟩:=h;refine ⟨i,m,e,hi,hm,hf,hu,?_⟩
   split at h
   ·rename_i hp;exact .inl ⟨hp,by simpa using h⟩
   ·rename_i s k hp
    split at h
    ·rename_i fs hs
     split at h
     ·rename_i fl hfl;simp only [bae,beq_iff_eq,bne_iff_ne,ne_eq] at h;obtain ⟨⟨⟨h1,h2⟩,h3⟩,h4⟩:=h
      cases hfu:P.underlying fl.type with
      | none=>rw [hfu] at h4;cases h4
      | some u=>exact .inr ⟨s,k,fs,fl,u,hp,hs,hfl,h1,h2,h3,hfu,λe' he=>by subst he;rw [hfu] at h4;cases h4⟩
     cases h
    cases h
   cases h
  cases h
 grind
def MW (off:Nat):AV->AV
 | .fp row j => .fp row (j+off)
 | .hp b v s i j => .hp b v s i (j+off)
 | a=>a
theorem ED {t:TypeId} {name:String} {g off:Nat} (hm:MethT P t name g off) (w:World) (n:Nat) {g0:Nat} {o0:Nat} (v:Value) (hv:v = .pointer (Nn ⟨g0,o0,Np⟩)):(method (n+1) t v name).run P w = .ok (g,.pointer<|Nn ⟨g0,o0+off,Np⟩) w:=by
 obtain ⟨i,m,e,hi,hf,hg,hu,hp⟩:=hm.ex;have e1:(typeInfo t).run P w = .ok i w:=run_typeInfo w hi;rcases hp with ⟨hp,rfl⟩ | ⟨s,k,fs,fl,u,hp,hs,hk,hc,_,rfl,hfu,hne⟩
 ·simp only [method,Sem.run_bind,e1,Result.andThen_ok,hf,hp,follow,Sem.run_pure,hg,receiverAt,av hu,Place.get,hv,Nat.add_zero]
 obtain ⟨i2,hi2⟩:=vR hc
 have e2 : (receiverAt fl.type (.var ⟨g0,o0 + fl.offset,none⟩) true (if m.path.isEmpty then some ((name.splitOn ".").getLastD name) else none)).run P w = .ok (.pointer (some ⟨g0,o0 + fl.offset,none⟩)) w := by
  unfold receiverAt;simp only [Sem.run_bind,av hfu,Result.andThen_ok]
  cases u <;> simp_all
 simp only [method,Sem.run_bind,e1,Result.andThen_ok,hf,hp,follow,Sem.run_pure,hg,av hs,hk,Place.get,hv,asAddr,fieldPlace,run_sizeOf w hi2,hc,if_false,if_true,add0,e2]
theorem zQ {t:TypeId} {name:String} {g off:Nat} (hm:MethT P t name g off) (hcl:iN P g=Nk) (w:World) {g0 o0:Nat} (args:Array Value) :
  (callMethod (.iface t<|.pointer<|Nn ⟨g0,o0,Np⟩) name args).run P w = .ok (.enter g<|#[.pointer (Nn ⟨g0,o0+off,Np⟩)]++args) w:=by
 have h0:0<Made.depth:=by decide
 obtain ⟨n,hn⟩:∃ n,P.types.size+Made.depth=n+1:=⟨P.types.size+Made.depth-1,by omega⟩;have h1:=ED hm w n (g0:=g0) (o0:=o0) _ rfl;have h2:=tu hcl (#[.pointer (Nn ⟨g0,o0+off,Np⟩)]++args) w;have hp:(program:Sem Program).run P w = .ok P w:=rfl;simp only [callMethod,Sem.run_bind,hp,Result.andThen_ok,hn,h1];exact h2
theorem EE {o:Oper} {cl:Call} {x:Operand} {name:String} {t:TypeId} {row:List AV} {j:Nat} {g:FuncId} {off:Nat} {r:AV} (ho:o.op = .call cl) (hc:cl.callee = .invoke x name) (hx:ρ x = .ifc t (.fp row j)) (hm:MethT P t name g off)
  (h:f8 P g (.fp row (j+off)::cl.args.toList.map ρ) H r H'):MX P o ρ H r H':=by
 intro c a K Q hH hr hxs hK;have hf1:=hx ▸ hxs x (by rw [ho];simp [Op.operands,Call.operands,hc]);obtain ⟨y,he,hrel⟩:=wO hf1;have hfp:=sG hrel;have key:∃ g0 o0,y = .pointer (Nn ⟨g0,o0,Np⟩)/\c.rel (.fp row<|j+off) (.pointer<|Nn ⟨g0,o0+off,Np⟩):=by
  cases hfp with
  | fp us hg hlt hu h1 h=>
   refine ⟨_,_,rfl,?_⟩;rw [Nat.add_assoc];exact .fr<|.fp us hg hlt hu h1 h
 obtain ⟨g0,o0,hy,hrec⟩:=key;have hargs:BH c (.fp row (j+off)::cl.args.toList.map ρ) (#[.pointer (Nn ⟨g0,o0+off,Np⟩)]++cl.args.map a.eval):=by
  refine ⟨by simp;omega,λi q v hq hv=>?_⟩
  match i with
  | 0=>
   simp only [Po,sie] at hq;have : (#[Value.pointer (Nn ⟨g0,o0+off,Np⟩)]++cl.args.map a.eval)[0]? = Nn (Value.pointer<|Nn ⟨g0,o0+off,Np⟩):=by
    rw [PZ (show 0<1 by decide)]
    rfl
   rw [this] at hv;injection hv with hv;subst hq hv;exact hrec
  | i+1=>
   simp only [PI,List.getElem?_map,Ps] at hq;have e:(#[Value.pointer (Nn ⟨g0,o0+off,Np⟩)]++cl.args.map a.eval)[i+1]? = (cl.args.map a.eval)[i]? := by
    rw [Array.getElem?_append_right (by simp)];simp
   rw [e,Array.getElem?_map] at hv
   cases ha:cl.args[i]? with
   | none=>rw [ha] at hq;cases hq
   | some z=>
    rw [ha] at hq hv;injection hq with hq;injection hv with hv;subst hq hv;refine hxs z ?_;rw [ho];have hz:=PK ha;simp [Op.operands,Call.operands,hz]
 have hrun:(execOp a.eval o).run P c.w = .ok (.enter g<|#[.pointer (Nn ⟨g0,o0+off,Np⟩)]++cl.args.map a.eval) c.w:=by
  have h3:=zQ hm h.1 c.w (g0:=g0) (o0:=o0)<|cl.args.map a.eval;rw [execOp,ho];simp only [resolve,hc,he,hy,Sem.run_bind,Sem.run_pure,Result.andThen_ok,invoke];have e1:((#[Value.iface t (.pointer<|Nn ⟨g0,o0,Np⟩)]++cl.args.map a.eval)[0]? : Option Value)=Nn (Value.iface t<|.pointer<|Nn ⟨g0,o0,Np⟩):=by
   rw [PZ (show 0<1 by decide)]
   rfl
  have e2:(#[Value.iface t (.pointer<|Nn ⟨g0,o0,Np⟩)]++cl.args.map a.eval).extract 1 (#[Value.iface t (.pointer<|Nn ⟨g0,o0,Np⟩)]++cl.args.map a.eval).size=cl.args.map a.eval:=by
   apply Array.ext';simp;exact List.take_of_length_le (by simp)
  rw [e1,e2];exact h3
 unfold Oper.wp;rw [hrun,Oper.upon_enter];refine (h.2 c _ hH hr hargs).mono λe w' ⟨v,c',he,hw,hH',hr',hx,hv⟩ => ?_
 grind
theorem M0.inv {cl:Call} {x:Operand} {name:String} {t:TypeId} {row:List AV} {j:Nat} {g:FuncId} {off:Nat} {ars:List AV} {r:AV} (hc:cl.callee = .invoke x name) (hx:ρ x = .ifc t (.fp row j)) (hm:MethT P t name g off) (ha:cl.args.toList.map ρ=ars)
  (h:aD P g (.fp row (j+off)::ars) r) (hF:ars.all (isF 9)=Nk):M0 P ρ (.call cl) r:=λo ho G=>by
 subst ha;refine EE ho hc hx hm<|h.acall ?_ G;simp only [List.all_cons,hF,Bool.and_true]
 rfl
end
structure A3 (α:Type) where
 x0:α
 x1:α
 x2:α
section
variable {α:Type}
instance [Inhabited α]:Inhabited (A3 α):=⟨⟨Nj,Nj,Nj⟩⟩
def A3.get (a:A3 α) (q:Int):α:=if q=0 then a.x0 else if q=1 then a.x1 else a.x2
def A3.set (a:A3 α) (q:Int) (v:α):A3 α:=if q=0 then ⟨v,a.x1,a.x2⟩ else if q=1 then ⟨a.x0,v,a.x2⟩ else ⟨a.x0,a.x1,v⟩
end
section
variable {P:Program} {ρ:Operand->AV} {H H':AH} {x y:Operand} {t e:TypeId}
theorem M0.ixafp {ag:Bool} {n w:Nat} {row:List AV} {j:Nat} {k:IntKind} {q:Int} (hu:P.underlying t=Nn (.array n e)) (ty:TyF P e ag w) (hx:ρ x = .fp row j) (hy:ρ y = .v (.int k q)) (hq:0<=q/\q<n):M0 P ρ (.indexAddr t x y) (.fp row<|j+q.toNat*w) := .mk λK hK=>by
 show fZ P t (ρ x) (ρ y) K;simp only [fZ,hu,hx,hy,ty.cells];exact ⟨hq,Ck.intro ty.info hK⟩
theorem M0.ixahp {ag:Bool} {n w:Nat} {b ver s i j:Nat} {k:IntKind} {q:Int} (hu:P.underlying t=Nn (.array n e)) (ty:TyF P e ag w) (hx:ρ x = .hp b ver s i j) (hy:ρ y = .v (.int k q)) (hq:0<=q/\q<n):M0 P ρ (.indexAddr t x y) (.hp b ver s i<|j+q.toNat*w) := .mk λK hK=>by
 show fZ P t (ρ x) (ρ y) K;simp only [fZ,hu,hx,hy,ty.cells];exact ⟨hq,Ck.intro ty.info hK⟩
theorem M0.mkifc {u:TypeDesc} (a:AV) (hu:P.underlying t=Nn u) (hn:∀ m,u ≠ .interface m) (hx:ρ x=a):M0 P ρ (.makeInterface t x) (.ifc t a) := .mk λK hK=>by
 show vI P ρ (.makeInterface t x) K;simp only [vI,hu,hx]
 cases u <;> first | exact absurd rfl (hn _) | (rw [AV.force_iff];exact hK)
end
def up (m:Nat) (gh:NG):NG:=λi=>((gh i).1,(gh i).2.1+m,(gh i).2.2)
section
variable {α:Type}
def nrs (m:Nat) (gh:NG) (w:Nat) (l:List<|List α):List (List AV):=cO (up m gh) w l
structure NN (K:AH) (gh:NG) (w:Nat) (ty:TypeId) (f:α->List AV) (l:List (List α)):Prop where
 nk:NK 0 K gh w ty f l
 kf:KF K
variable {K:AH} {gh:NG} {w:Nat} {ty:TypeId} {f:α->List AV} {l:List (List α)}
theorem NN.at_ (h:NN K gh w ty f l) {i:Nat} (hi:i<l.length):K[(gh i).2.1]? = Nn (bE (gh i).1 (gh i).2.2 w ty<|(l.getD i []).map f):=(h.nk.at_ i hi).2
theorem NN.lt (h:NN K gh w ty f l) {i:Nat} (hi:i<l.length):(gh i).2.1<K.length:=(ges<|h.at_ hi).1
theorem NN.nil_ (h:NN K gh w ty f l) {i:Nat} (hi:i<l.length):(gh i).1=Nk->l.getD i []=[]:=h.nk.nil_ i hi
theorem KF.set {k:Nat} {x:Option ABlk} (h:KF K) (hx:∀ b,x=Nn b->uX b):KF (K.set k x):=λi b hb=>by
 by_cases e:k=i
 ·grind
 rw [PL e] at hb;exact h i b hb
theorem KF.cons {x:Option ABlk} (h:KF K) (hx:∀ b,x=Nn b->uX b):KF (x::K):=λi b hb=>by
 match i,hb with
 | 0,hb=>exact hx b (osl hb)
 | i+1,hb=>exact h i b hb
theorem HL {g:Bool} {v:Nat} {l:List α} (hf:∀ x,(f x).all (isF 9)=Nk):∀ b,bE g v w ty (l.map f)=Nn b->uX b:=λb hb=>by
 cases g with
 | true=>cases hb
 | false=>
  obtain rfl:=osl hb;exact λr hr a ha=>pG hf r hr a ha
theorem NN.set (h:NN K gh w ty f l) {i:Nat} (hi:i<l.length) {g:Bool} {ver:Nat} {r:List α} (hg:g=Nk->r=[]) (hf:∀ x,(f x).all (isF 9)=Nk):NN (K.set (gh i).2.1<|bE g ver w ty<|r.map f) (gh.put i (g,(gh i).2.1,ver)) w ty f (l.set i r):=
 ⟨h.nk.set hi hg,h.kf.set<|HL hf⟩
theorem NN.nil:NN ([]:AH) gh w ty f []:=⟨⟨λi hi=>by grind,λi hi=>by grind,λi j hi=>by grind⟩,λi k hk=>by grind⟩
theorem NN.fz [Inhabited α] (h:NN K gh w ty f l) (S:AH) {b ver n:Nat} {to:TypeId} (hb:(S++K)[b]? = Nn (bE Nl ver 1 to<|nrs S.length gh w l)) (hn:n=l.length) (hf:∀ x,(f x).all (isF 9)=Nk):Fz 0 (S++K) (hS Nl b ver 1 n) (eL (cL f) l):=by
 have hk:NK 0 (S++K) (up S.length gh) w ty f l:=⟨λi hi=>⟨Nat.zero_le _,by
  show (S++K)[(gh i).2.1+S.length]? = _;rw [gar (by omega),Nat.add_sub_cancel];exact h.at_ hi⟩,λi hi=>h.nil_ hi,λi j hi hj hne he=>h.nk.sep i j hi hj hne (by simpa [up] using he)⟩
 exact hk.fz hb hn hf
end
def Rot (m N:Nat) (i j:Nat):Prop:=(i<m/\j=i)\/(m<=i/\i<N+m/\j=i+1)\/(i=N+m/\j=m)
theorem Rot.up {m N k:Nat} (h:k<N):Rot m N (k+m) (k+(m+1)) := .inr<|.inl ⟨by omega,by omega,rfl⟩
theorem Rot.new {m N:Nat}:Rot m N (N+m) m := .inr<|.inr ⟨rfl,rfl⟩
inductive RenHL (S:Nat->Nat->Prop):AH->AH->Prop
 | nil:RenHL S [] []
 | none {l l':AH} (t:RenHL S l l'):RenHL S (Np::l) (Np::l')
 | some {k k':ABlk} {l l':AH} (h:RenK S k k') (t:RenHL S l l'):RenHL S (Nn k::l) (Nn k'::l')
theorem RenHL.bE {S:Nat->Nat->Prop} {α:Type} {g:Bool} {v w:Nat} {ty:TypeId} {f:α->List AV} {x:List α} {l l':AH} (hf:∀ x,(f x).all (isF 9)=Nk) (t:RenHL S l l'):RenHL S (bE g v w ty (x.map f)::l) (Go.Proofs.YtabfkkjdfhbngaaGreatDoor.bE g v w ty (x.map f)::l'):=by
 cases g with
 | true=>exact .none t
 | false=>exact .some (.ofF λr hr a ha=>pG hf r hr a ha) t
theorem RenHL.spec {S:Nat->Nat->Prop} {l l':AH} (h:RenHL S l l'):l.length=l'.length/\(∀ (i:Nat) (k:ABlk),l[i]? = Option.some (Option.some k)->∃ k',l'[i]? = Option.some (Option.some k')/\RenK S k k')/\∀ (i:Nat) (k':ABlk),l'[i]? = Option.some (Option.some k')->∃ k,l[i]? = Option.some (Option.some k)/\RenK S k k':=by
 induction h with
 | nil=>simp_all
 | none t ih=>
  grind
 | some h t ih=>
  grind
theorem kI {S:Nat->Nat->Prop} {g:Bool} {i j v w n:Nat} (h:S i j):Ren S (hS g i v w n) (hS g j v w n):=by
 cases g with
 | true=>exact .nil
 | false=>exact .hs h
theorem EF {c:Cx} {row row2:List AV} {j n:Nat} {v:Value} (hs:(row.drop j).take n=row2) (h:c.rel (.fp row j) v):c.rel (.fp row2 0) v:=by
 have h:=sG h
 cases h with
 | @fp _ _ g o us hg hlt hu h1 hr=>
  subst hs;have key:∀ (q:Nat) (a:AV),((row.drop j).take n)[q]? = Nn a->row[j+q]? = Nn a:=λq a hq=>by
   grind
  exact .fr<|.fp (g:=g) (o:=o+j) (j:=0) (λq=>us<|j+q) hg hlt (λq a hq=>by grind) (λq a hq=>h1 _ _<|key q a hq) λq a hq=>hr _ _<|key q a hq
section
variable {P:Program} {ρ:Operand->AV} {H H':AH} {x y:Operand} {t e:TypeId}
theorem M0.fafpS (n:Nat) {fs:Array Field} {f:Nat} {fl:Field} {row row2:List AV} {j:Nat} (hu:P.underlying t=Nn (.struct fs)) (hf:fs[f]? = Nn fl) (hc:(P.cellsOf fl.type != 0)=Nk) (hx:ρ x = .fp row j) (hs:(row.drop<|j+fl.offset).take n=row2):M0 P ρ (.fieldAddr t x f) (.fp row2 0):=
 (M0.fafp hu hf hc hx).res λ_ _ h=>EF hs h
variable {nt b0:Nat} {Q:Exit->Env->AH->Prop} {en:Env} {ops:Array Oper}
end
inductive RenRows (S:Nat->Nat->Prop):List (List AV)->List (List AV)->Prop
 | nil:RenRows S [] []
 | cons {a b:List AV} {l k:List (List AV)} (h:RenL S a b) (t:RenRows S l k):RenRows S (a::l) (b::k)
theorem RenRows.spec {S:Nat->Nat->Prop} {l k:List (List AV)} (h:RenRows S l k):l.length=k.length/\∀ (i:Nat) (c d:List AV),l[i]? = Nn c->k[i]? = Nn d->RenL S c d:=by
 induction h with
 | nil=>simp_all
 | cons h t ih=>
  grind
theorem RenK.rowsL {S:Nat->Nat->Prop} {v s:Nat} {ty:TypeId} {r r':List (List AV)} (h:RenRows S r r'):RenK S ⟨v,s,ty,r⟩ ⟨v,s,ty,r'⟩:=
 ⟨rfl,rfl,rfl,h.spec.1,λi a b ha hb=>(h.spec.2 i a b ha hb).spec⟩
theorem RenK.rowL {S:Nat->Nat->Prop} {v s:Nat} {ty:TypeId} {r r':List AV} (h:RenL S r r'):RenK S ⟨v,s,ty,[r]⟩ ⟨v,s,ty,[r']⟩ := .rowsL<|.cons h .nil
section
variable {α:Type} {K:AH} {gh:NG} {w:Nat} {ty:TypeId} {f:α->List AV} {l:List (List α)}
def Tk (a:Nat) (i j:Nat):Prop:=(i<=a/\j=i)\/(a+2<=i/\j+1=i)
theorem Tk.up {a k:Nat}:Tk a (k+(a+2)) (k+1+a) := .inr ⟨by omega,by omega⟩
theorem Reid.take {b0 a:Nat} {S S' K:AH} {x2 x2' x3:Option ABlk} (hm:S.length=a) (hb:Pk b0 a=Nk) (hS:RenHL (Tk a) S S') (hK:KF K) (hx:RenHL (Tk a) [x2] [x2']):Reid b0 (Tk a) (S++x2::x3::K) (S'++x2'::K):=by
 have hb:=nlb hb;obtain ⟨h1,h2,h3⟩:=hS.spec;obtain ⟨_,h5,h6⟩:=hx.spec;have hm':S'.length=a:=h1.symm.trans hm;have a1:∀ i,i<a->(S++x2::x3::K)[i]? = S[i]? := λi hi=>gal (by omega);have a2:(S++x2::x3::K)[a]? = Nn x2:=by
  rw [gar (by omega)];have : a-S.length=0:=by omega
  rw [this]
  rfl
 have a3:∀ k,(S++x2::x3::K)[k+a+2]? = K[k]? := λk=>by
  grind
 have c1:∀ i,i<a->(S'++x2'::K)[i]? = S'[i]? := λi hi=>gal (by omega);have c2:(S'++x2'::K)[a]? = Nn x2':=by
  rw [gar (by omega)];have : a-S'.length=0:=by omega
  rw [this]
  rfl
 have c3:∀ k,(S'++x2'::K)[k+a+1]? = K[k]? := λk=>by
  grind
 refine ⟨λi j j' e1 e2=>?_,λi i' j e1 e2=>?_,λi hi => .inl ⟨by omega,rfl⟩,by grind,λj k0 hk=>?_,λi j k hS hk=>?_⟩
 ·rcases e1 with ⟨_,rfl⟩ | ⟨_,e1⟩ <;> rcases e2 with ⟨_,rfl⟩ | ⟨_,e2⟩ <;> omega
 ·rcases e1 with ⟨_,e1⟩ | ⟨_,e1⟩ <;> rcases e2 with ⟨_,e2⟩ | ⟨_,e2⟩ <;> omega
 ·rcases Nat.lt_trichotomy j a with hj | hj | hj
  ·rw [c1 j hj] at hk;obtain ⟨k,g1,g2⟩:=h3 j k0 hk;exact ⟨j,k,.inl ⟨by omega,rfl⟩,by simp_all,g2⟩
  ·subst hj;rw [c2] at hk;obtain rfl:=osl hk;obtain ⟨k,g1,g2⟩:=h6 0 k0 rfl;obtain rfl:=osl g1;exact ⟨_,k,.inl ⟨by omega,rfl⟩,a2,g2⟩
  obtain ⟨q,rfl⟩:∃ q,j=q+a+1:=⟨j-a-1,by omega⟩;rw [c3 q] at hk;exact ⟨q+a+2,k0,.inr ⟨by omega,by omega⟩,by simp_all,.ofF<|hK q k0 hk⟩
 rcases hS with ⟨e1,rfl⟩ | ⟨e1,e2⟩
 ·rcases Pw j a with hj | hj
  ·grind
  obtain rfl:j=a:=by omega
  rw [a2] at hk;obtain rfl:=osl hk;obtain ⟨k',g1,_⟩:=h5 0 k rfl
  simp_all
 obtain ⟨q,rfl⟩:∃ q,i=q+a+2:=⟨i-a-2,by omega⟩
 simp_all
end
section
variable {P:Program} {H:AH} {s:Nat}
def Kc (P:Program) (H:AH) (s:Nat) (a:AV) (news:List<|List AV):Prop:=∀ (c:Cx) (u:Value),c.H=H->HRel c->c.rel a u ->
 (∀ w,(Builtin.lenOf u).run P w = .ok news.length w)/\(∀ (i:Nat) (row:List AV),news[i]? = Nn row->row.length=s) /\
 ∀ n,n<=news.length->∃ vs:List Value,(∀ w,w.heap=c.w.heap->(Builtin.firstCells s n u).run P w = .ok vs.toArray w)/\zZ c s (news.take n) vs
theorem Kc.of {a:AV} {news:List (List AV)} (len:Nat) (hl:news.length=len) (h:∀ (c:Cx) (u:Value),c.H=H->HRel c->c.rel a u->∃ A cap,u = .slice A len cap/\∀ n,n<=len->∃ vs,SrcIs P c s (.slice A n cap) (news.take n) vs):Kc P H s a news:=λc u hH hr hu=>by
 obtain ⟨A,cap,rfl,h1⟩:=h c u hH hr hu;refine ⟨λw=>by rw [hl];simp [Builtin.lenOf],λi row hi=>?_,λn hn=>?_⟩
 ·obtain ⟨vs,h2⟩:=h1 len<|Pt _;refine h2.rows i row ?_
  grind
 obtain ⟨vs,h2⟩:=h1 n (by omega);refine ⟨vs,λw hw=>?_,h2.is⟩;have h3:=h2.cells w hw;rw [Pp,PM hn] at h3;rw [<- h3]
 cases A <;> rfl
theorem Kc.own {b ver off len:Nat} {k:ABlk} (hk:H[b]? = Nn (Nn k)) (hv:k.ver=ver) (hs:k.s=s) (hn:off+len<=k.rows.length):Kc P H s (.hs b ver s off len) ((k.rows.drop off).take len):=
 .of len (by grind) λc u hH hr hu=>by
  cases hu with
  | fr h=>cases h
  | @hs _ _ _ _ _ cap A hb hc hm h0 hx=>
   refine ⟨A,cap,rfl,λn hn' => ?_⟩;rw [List.take_take,PM hn'];exact dN.own hk hv hs (by omega) rfl c _ hH hr<|.hs hb (by omega) hm h0 λx hx'=>⟨(hx x hx').1,by grind,(hx x hx').2.2.1,(hx x hx').2.2.2⟩
theorem Kc.fz {α:Type} [Inhabited α] {f:α->List AV} {l:List α} (hf:∀ x,(f x).length=s):Kc P H s (eL f l) (l.map f):=
 .of l.length (by simp) λc u hH hr hu=>by
  have h:=sF hu
  cases h with
  | @sl _ cap sz g o _ a us hc hm ha hs hu2 h1 h=>
   refine ⟨a,cap,rfl,λn hn=>?_⟩;have e:(l.map f).take n=(Pz n).map λi=>f (l.getD i Nj):=by
    rw [<- PN,<- uO f (l.take n),Pp,PM hn];apply P5;intro i hi;have hi':i<n:=by simpa using hi
    simp [Pn,hi']
   rw [e];refine dN.sl (H:=c.H) (n:=n) (row:=λi=>f<|l.getD i Nj) (λi _=>hf _) c _ rfl hr<|.fr<|.sl (s:=sz) (g:=g) (o:=o) us (by omega) hm (λh0=>ha<|by omega) (λi hi=>hs i<|by omega) (λi j a hi=>hu2 i j a<|by omega) (λi j a hi=>h1 i j a<|by omega) λi j a hi=>h i j a (by omega)
variable {o:Oper} {ρ:Operand->AV}
variable {α:Type} {c:α->List AV} {l k:List α} {x y:Operand} {t u e:TypeId} {ag:Bool} {w m b ver off len:Nat} {zs:List AV}
def cpy (l:List α) (off:Nat) (k:List α) (len:Nat):List α:=if off+len<=l.length then l.take off++k.take (min k.length len)++l.drop (off+min k.length len) else l
theorem Ag (l:List α) (off:Nat) (k:List α) (len:Nat):(cpy l off k len).length=l.length:=by
 unfold cpy
 grind
theorem IW {lo hi:Int} {n:Nat} (h:0<=lo/\lo<=hi/\hi<=(n:Int)) (hn:n=l.length):(0+lo.toNat)+(hi.toNat-lo.toNat)<=l.length:=by omega
end
section
variable {P:Program} {K V:Type} [DecidableEq K] {kn vn:Nat} {kc:K->List Value} {cv:V->List AV} {keyT t e:TypeId} {l:List (K×V)} {ρ:Operand->AV} {H:AH} {x y z:Operand} {b:Nat}
theorem EvA.look (q:KeyA P keyT kn kc) (hv:∀ v,(cv v).length=vn) (d:V) {zv:Value} {ok:Bool} (ht:P.underlying t=Nn (.map keyT e)) (hz:∀ w,(zeroValue e).run P w = .ok zv w) (hzr:∀ c:Cx,c.rel (mkA<|cv d) zv) (k:K)
 (hx:ρ x = .mp b (kn+vn)) (hy:ρ y=mkA ((kc k).map AV.v)) (hb:H[b]? = Nn (Nn<|mB kn vn kc cv l)) :
 EvA P ρ (.lookup t x y ok) H (bif ok then .tup [mkA (cv<|(Fa l k).getD d),.v (.bool (Fa l k).isSome)] else mkA (cv<|(Fa l k).getD d)) H:=λ_ ho=>EA q hv d ho ht hz hzr k hx hy hb
end
section
variable {K V:Type} {kn vn:Nat} {kc:K->List Value} {cv:V->List AV} {l:List (K×V)} {H:AH}
theorem StayB.mp {m:Nat} (hv:∀ v,(cv v).all (isF 9)=Nk):StayB m H (Nn<|mB kn vn kc cv l) (Nn<|mB kn vn kc cv l) := .keep λr hr a ha=>by
 obtain ⟨p,_,rfl⟩:=PD.1 hr;rcases List.mem_append.1 ha with ha | ha
 ·obtain ⟨x,_,rfl⟩:=PD.1 ha
  rfl
 exact wS 9 m a<|Px.1 (hv p.2) a ha
end

theorem Cx.trim {c:Cx} {b ver s off n:Nat} {ty:TypeId} {rows:List (List AV)} (hr:HRel c) (hb:c.H[b]? = Nn (Nn ⟨ver,s,ty,rows⟩)) (hle:off+n<=rows.length) {v:Value} (hv:c.rel (.hs b ver s off n) v) :
  ∃ c':Cx,c'.w=c.w/\c'.H=c.H.set b (Nn ⟨ver+1,s,ty,(rows.drop off).take n⟩)/\HRel c'/\Ext c c'/\c'.rel (.hs b (ver+1) s 0 n) v:=by
 have hlv:c.live b ⟨ver,s,ty,rows⟩:=hb;have hblt:b<c.H.length:=(ges hb).1;obtain ⟨cs,fr,hB⟩:=hr.blk b _ hlv
 cases hv with
 | fr h=>cases h
 | @hs _ _ _ _ _ cap A hbn hc hm h0 hh=>
  obtain ⟨fr,rfl,hat,hd⟩:=hB.cells hlv λx hx=>(hh x hx).1;obtain ⟨_,hn,hA,hcap⟩:=hh _ hd;let c':Cx:={ w:=c.w,fz:=c.fz,H:=c.H.set b (Nn ⟨ver+1,s,ty,(rows.drop off).take n⟩),φ:=λj=>if j=b then ((c.φ b).1,(c.φ b).2+off*s) else c.φ j };have φb:c'.φ b=((c.φ b).1,(c.φ b).2+off*s):=if_pos rfl;have φo:∀ {j},j≠b->c'.φ j=c.φ j:=λ{j} hj=>if_neg hj;have φ1:∀ j,(c'.φ j).1=(c.φ j).1:=λj=>by
   grind
  have Hb:c'.H[b]? = Nn (Nn ⟨ver+1,s,ty,(rows.drop off).take n⟩):=by
   show (c.H.set b _)[b]? = _
   simp_all
  have Ho:∀ {j},j≠b->c'.H[j]? = c.H[j]? := λ{j} hj=>by
   grind
  have lv:∀ {j k},c'.live j k->(j=b/\k=⟨ver+1,s,ty,(rows.drop off).take n⟩)\/(j≠b/\c.live j k):=λ{j k} hl=>by
   by_cases hj:j=b
   ·subst hj;have hl':c'.H[j]? = Nn (Nn k):=hl
    simp_all
   have hl':c'.H[j]? = Nn (Nn k):=hl;rw [Ho hj] at hl';exact .inr ⟨hj,hl'⟩
  have hx:Ext c c':=by
   refine ⟨rfl,rfl,rfl,Pt _,λ_ _ _=>rfl,λ_ h=>h,λ_ h => .inl h,by grind,λj q hj=>?_,λj q x hj hx=>?_,λj k hl => .inr ?_⟩
   ·by_cases e:j=b
    ·subst e;unfold Cx.born at hj ⊢
     grind
    unfold Cx.born at hj ⊢
    simp_all
   ·by_cases e:j=b
    ·subst e;unfold Cx.born at hj;rw [hb] at hj;unfold Cx.hd at hx
     grind
    unfold Cx.hd at hx ⊢
    grind
   grind
  have hlen:((rows.drop off).take n).length=n:=by rw [Pp,PO];omega
  have hfit:=hB.fits;simp only at hfit;refine ⟨c',rfl,rfl,⟨hr.lt,λj k hl=>?_,λj j' k k' hl hl' hne=>?_,hr.glx hx⟩,hx,?_⟩
  ·rcases lv hl with ⟨rfl,rfl⟩ | ⟨hj,h⟩
   ·refine ⟨cs,Nn fr,⟨?_,?_,hB.pos,hB.free,?_,λi r hi=>?_,λi r q a hi ha=>?_⟩⟩
    ·show c.w.heap[(c'.φ j).1]? = _;rw [φ1,hat]
     rfl
    ·rw [φ1];exact hB.nf
    ·rw [φb];show (c.φ j).2+off*s+((rows.drop off).take n).length*s<=cs.size;rw [hlen];have : off*s+n*s<=rows.length*s:=by rw [<- Pi];exact Pm s hle
     omega
    ·have hi':((rows.drop off).take n)[i]? = Nn r:=hi;rw [Pn] at hi'
     split at hi'
     ·rw [List.getElem?_drop] at hi';exact hB.len _ r hi'
     simp_all
    have hi':((rows.drop off).take n)[i]? = Nn r:=hi;rw [Pn] at hi'
    split at hi'
    ·rw [List.getElem?_drop] at hi';obtain ⟨u,g1,g2,g3⟩:=hB.rel _ r q a hi' ha;refine ⟨u,?_,g2,g3.ext hr hx⟩;rw [φb];show cs[(c.φ j).2+off*s+i*s+q]? = Nn u;rw [<- g1]
     congr 1
     show (c.φ j).2+off*s+i*s+q=(c.φ j).2+(off+i)*s+q;rw [Pi];omega
    simp_all
   obtain ⟨cs',fr',hB'⟩:=hr.blk j k h;exact ⟨cs',fr',⟨by rw [φo hj];exact hB'.at_,by rw [φo hj];exact hB'.nf,hB'.pos,hB'.free,by rw [φo hj];exact hB'.fits,hB'.len,λi r q a hi ha=>by
    obtain ⟨u,g1,g2,g3⟩:=hB'.rel i r q a hi ha;exact ⟨u,by simp_all,g2,g3.ext hr hx⟩⟩⟩
  ·have old:∀ {j k},c'.live j k->∃ k0,c.live j k0:=λ{j k} hl=>by
    grind
   obtain ⟨_,h1⟩:=old hl;obtain ⟨_,h2⟩:=old hl';rw [φ1,φ1];exact hr.inj j j' _ _ h1 h2 hne
  refine .hs ?_ hc hm h0 λx hx=>?_
  ·unfold Cx.born
   simp_all
  have hat':c'.w.heap[(c'.φ b).1]? = Nn (.cells cs ty fr):=by rw [φ1];exact hat
  have := Cx.hd_of (c:=c') (b:=b) (k:=⟨ver+1,s,ty,(rows.drop off).take n⟩) Hb hat';have he:=hx.symm.trans this;simp only [hdo,sie] at he
  simp_all
section
variable {P:Program} {ρ:Operand->AV} {H:AH}
theorem EvA.trim {op:Op} {b ver s off n:Nat} {ty:TypeId} {rows:List (List AV)} (h:M0 P ρ op<|.hs b ver s off n) (hb:H[b]? = Nn (Nn ⟨ver,s,ty,rows⟩)) (hle:off+n<=rows.length) :
  EvA P ρ op H (.hs b (ver+1) s 0 n) (H.set b<|Nn ⟨ver+1,s,ty,(rows.drop off).take n⟩):=λo ho c a K Q hH hr hxs hK=>
 h o ho H c a K Q hH hr hxs λv c1 hH1 hr1 hx1 hv1=>by
  obtain ⟨c2,e1,e2,e3,e4,e5⟩:=Cx.trim hr1 (by rw [hH1];exact hb) hle hv1;rw [<- e1];exact hK v c2 (by simp_all) e3 (hx1.trans e4) e5
theorem EvA.cutO {α:Type} {f:α->List AV} {op:Op} {b ver w n:Nat} {ty:TypeId} (l:List α) {zl zh:Int} (h:M0 P ρ op<|.hs b ver w (0+zl.toNat)<|zh.toNat-zl.toNat) (hb:H[b]? = Nn (bE Nl ver w ty<|l.map f)) (hn:n=l.length)
  (g:0<=zl/\zl<=zh/\zh<=(n:Int)) :
  EvA P ρ op H (hS Nl b (ver+1) w ((l.drop zl.toNat).take<|zh.toNat-zl.toNat).length) (H.set b<|bE Nl (ver+1) w ty<|((l.drop zl.toNat).take<|zh.toNat-zl.toNat).map f):=by
 obtain ⟨g1,g2,g3⟩:=g;have hl:((l.drop zl.toNat).take<|zh.toNat-zl.toNat).length=zh.toNat-zl.toNat:=by rw [Pp,PO];omega
 have := EvA.trim h (rows:=l.map f) hb (by grind);rw [hl,PN,List.map_drop];rw [PE] at this;exact this
inductive FzP (H:AH):AV->AV->Prop
 | fz {a a':AV} (h:Fz 0 H a a'):FzP H a a'
 | hp {b ver s j:Nat} {ty:TypeId} {r x row':List AV} (hk:H[b]? = Nn (Nn ⟨ver,s,ty,[r++x]⟩)) (h:FzL 0 H r row'):FzP H (.hp b ver s 0 j) (.fp row' j)
inductive FzPL (H:AH):List AV->List AV->Prop
 | nil:FzPL H [] []
 | cons {a b:AV} {l k:List AV} (h:FzP H a b) (t:FzPL H l k):FzPL H (a::l) (b::k)
theorem FzPL.spec {l k:List AV} (h:FzPL H l k):l.length=k.length/\∀ (i:Nat) (c d:AV),l[i]? = Nn c->k[i]? = Nn d->FzP H c d:=by
 induction h with
 | nil=>simp_all
 | cons h t ih=>
  grind
end
def Ke (r:AV) (G:Nat->AH):AV->AH->Prop:=λr' G'=>∃ ver,r'=r/\G'=G ver
def Mr:List Nat->AH->AH->AH
 | [],_,H=>H
 | b::bs,G,H=>match G with
  | []=>H
  | x::xs=>Mr bs xs (H.set b x)
def Kg (H:AH) (ids:List Nat) (G:AH):AH:=Mr ids G H
theorem yZ {H:AH} {b:Nat} {bs:List Nat} {x:Option ABlk} {xs:AH}:Kg H (b::bs) (x::xs)=Kg (H.set b x) bs xs:=rfl
theorem za:∀ (ids:List Nat) (H G:AH),(Kg H ids G).length=H.length
 | [],_,_=>rfl
 | _::_,_,[]=>rfl
 | b::bs,H,x::xs=>by rw [yZ,za bs,List.length_set]
theorem CU {b:Nat}:∀ (ids:List Nat) (H G:AH),b∉ids->(Kg H ids G)[b]? = H[b]?
 | [],_,_,_=>rfl
 | _::_,_,[],_=>rfl
 | c::bs,H,x::xs,h=>by
  rw [yZ,CU bs _ _ (λhm=>h<|.tail _ hm),PL (λe=>h<|by simp_all)]
theorem CV:∀ (ids:List Nat) (H G:AH) (i b:Nat),ids.Nodup->ids[i]? = Nn b->b<H.length->i<G.length->(Kg H ids G)[b]? = G[i]?
 | [],_,_,_,_,_,h,_,_=>by grind
 | _::_,_,[],_,_,_,_,_,h=>by grind
 | c::bs,H,x::xs,i,b,hn,h,hb,hi=>by
  rw [yZ];obtain ⟨hn1,hn2⟩:=List.nodup_cons.1 hn
  cases i with
  | zero=>
   simp only [Po,sie] at h;subst h;rw [CU bs _ _ hn1,PP hb]
   rfl
  | succ i=>
   simp only [PI] at h;rw [CV bs _ xs i b hn2 h (by simp_all) (by simp_all)]
   rfl
inductive OutAt (S:Nat->Nat->Prop) (H:AH):List Nat->AH->Prop
 | nil:OutAt S H [] []
 | cons {b:Nat} {k k0:ABlk} {bs:List Nat} {G:AH} (hb:H[b]? = Nn (Nn k)) (hk:RenK S k k0) (t:OutAt S H bs G):OutAt S H (b::bs) (Nn k0::G)
 | none {b:Nat} {bs:List Nat} {G:AH} (hb:H[b]? = Nn Option.none) (t:OutAt S H bs G):OutAt S H (b::bs) (Option.none::G)
theorem OutAt.bE {S:Nat->Nat->Prop} {H:AH} {α:Type} {g:Bool} {v w b:Nat} {ty:TypeId} {f:α->List AV} {x:List α} {bs:List Nat} {G:AH} (hb:H[b]? = Nn (bE g v w ty<|x.map f)) (hf:∀ x,(f x).all (isF 9)=Nk) (t:OutAt S H bs G):OutAt S H (b::bs) (Go.Proofs.YtabfkkjdfhbngaaGreatDoor.bE g v w ty (x.map f)::G):=by
 cases g with
 | true=>exact .none hb t
 | false=>exact .cons hb (.ofF λr hr a ha=>pG hf r hr a ha) t
theorem OutAt.spec {S:Nat->Nat->Prop} {H:AH} {ids:List Nat} {G:AH} (h:OutAt S H ids G):ids.length=G.length/\∀ (i b:Nat),ids[i]? = Nn b->(H[b]? = Nn Option.none/\G[i]? = Nn Option.none)\/∃ k k0:ABlk,H[b]? = Nn (Nn k)/\G[i]? = Nn (Nn k0)/\RenK S k k0:=by
 induction h with
 | nil=>simp_all
 | @none b bs G hb t ih=>
  grind
 | @cons b k k0 bs G hb hk t ih=>
  grind
section
variable {P:Program}
theorem bP.outAt {f:FuncId} {as0 Ni:List AV} {H0 H:AH} {r0 r:AV} {G0:Nat->AH} (h:bP P f as0 H0<|Ke r0 G0) (ids:List Nat) (hn:ids.Nodup) (hin:OutAt (λb i=>ids[i]? = Nn b) H ids H0) (has:RenL (λb i=>ids[i]? = Nn b) Ni as0)
  {G G':Nat->AH} (N:Nat) (hN:H.length=N) (hout:∀ v,RenHL (sg ids N) (G0 v)<|G v) (hlen:∀ v,(G0 v).length=ids.length) (hr:Ren (sg ids N) r0 r) (hG:∀ v,Kg H ids (G v)=G' v):bP P f Ni H (Ke r G'):=by
 subst hN;refine h.frameN ids hn hin.spec.1 hin.spec.2 has.spec.1 has.spec.2 λr1 G1 ⟨v,e1,e2⟩=>⟨r,G' v,?_,by simp_all,v,rfl,rfl⟩;subst e2;obtain ⟨l1,l2,l3⟩:=(hout v).spec;have hl:=hlen v;have lt:∀ {i b},ids[i]? = Nn b->b<H.length:=λ{i b} hi=>by
  rcases hin.spec.2 i b hi with ⟨h1,_⟩ | ⟨k,_,h1,_⟩
  ·exact (ges h1).1
  grind
 have sgi:∀ {i b},i<(G0 v).length->sg ids H.length i b->ids[i]? = Nn b:=λ{i b} hi hs=>by
  rcases hs with hs | ⟨hs,_⟩
  ·exact hs
  omega
 refine ⟨by omega,by rw [<- hG,za];omega,λi b hi hs hd=>?_,λi b k0 hs hk=>?_,λb hb hni=>by rw [<- hG,CU _ _ _ hni]⟩
 ·have hib:=sgi hi hs;rw [<- hG,CV ids H (G v) i b hn hib (lt hib) (by omega)];have hg:i<(G v).length:=by omega
  rw [geq hg]
  cases hc:(G v)[i] with
  | none=>rfl
  | some k'=>
   obtain ⟨k,h1,_⟩:=l3 i k' (by rw [geq hg,hc])
   simp_all
 have hi:=(ges hk).1;have hib:=sgi hi hs;obtain ⟨k',h1,h2⟩:=l2 i k0 hk;refine ⟨k',?_,h2⟩;rw [<- hG,CV ids H (G v) i b hn hib (lt hib) (by omega)];exact h1
end
section
variable {P:Program} {nt b0:Nat} {Q:Exit->Env->AH->Prop} {en:List (Nat×AV)} {H:AH} {ops:Array Oper} {l:List Oper} {d:Tmp} {t:TypeId} {pos:String} {af:Array Edge}
theorem oW {cl:Call} {f:Operand} {g:FuncId} {nR Ni:List AV} {r:AV} {G:Nat->AH} (hc:cl.callee = .value f) (hf:rho (ak en) f = .fn (.func g) nR) (ha:cl.args.toList.map (rho<|ak en)++nR=Ni)
  (h:bP P g Ni H<|Ke r G) (k:∀ ver,TO P nt b0 ops l Q (ak ((d,r)::en))<|G ver):TO P nt b0 ops (⟨Nn d,.call cl,t,pos,af,Np⟩::l) Q (ak en) H:=by
 subst ha;exact TO.runG (.free rfl) (yE rfl hc hf h) λr' H' ⟨ver,hr,hH⟩=>by
  subst hr hH;exact k ver
end
theorem RenK.mB {K V:Type} {kn vn:Nat} {kc:K->List Value} {cv:V->List AV} {l:List (K×V)} (S:Nat->Nat->Prop) (hv:∀ v,(cv v).all (isF 9)=Nk):RenK S (mB kn vn kc cv l) (mB kn vn kc cv l) := .ofF λr hr a ha=>by
 obtain ⟨p,_,rfl⟩:=PD.1 hr;rcases List.mem_append.1 ha with ha | ha
 ·obtain ⟨x,_,rfl⟩:=PD.1 ha
  rfl
 grind
theorem RenK.bE' {S:Nat->Nat->Prop} {α:Type} {v w:Nat} {ty:TypeId} {f:α->List AV} {x:List α} (hf:∀ x,(f x).all (isF 9)=Nk):RenK S ⟨v,w,ty,x.map f⟩ ⟨v,w,ty,x.map f⟩ := .ofF λr hr a ha=>pG hf r hr a ha
section
variable {P:Program} {K:Type} [DecidableEq K] {kn:Nat} {kc:K->List Value} {keyT t e:TypeId} {l:List (K×Bool)} {ρ:Operand->AV} {H:AH} {x y z:Operand} {b:Nat}
omit [DecidableEq K] in
end
section
variable {P:Program}
theorem bP.mkS {f:FuncId} {fn:Func} {body:Code} {Ni:List AV} {H:AH} {R:AV->AH->Prop} (hf:P.funcs[f]? = Nn fn) (hb:fn.body=Nn body) (hcall:iN P f=Nk) (hn:Pk Ni.length fn.ntmps=Nk)
 (hok:codeOk fn.ntmps body=Nk) {e0:Env} (hw:zK (Hy Ni) e0) (h:T P fn.ntmps H.length body (SQ H.length<|Fin P fn R) e0 H):bP P f Ni H R:=bP.mkT hf hb hcall hn hok hw h.leaf
end
section
variable {P:Program} {ρ:Operand->AV} {H:AH}
theorem FT {o:Oper} {t:TypeId} {x:Operand} {cs:List AV} {b:Nat} (ho:o.op = .box t x) (hc:(ρ x).cells=Nn cs) (h0:0<cs.length) (hb:H[b]? = Nn Np):MX P o ρ H (.hp b 0 cs.length 0 0) (H.set b<|Nn ⟨0,cs.length,t,[cs]⟩):=by
 intro c a K Q hH hr hx hK;have hx1:=hx x (by rw [ho];simp [Op.operands]);have hz':=vS hx1 hc;have hsz:=hz'.size;subst hH;have hrel:HRel (c.newAt b ⟨0,cs.length,t,[cs]⟩ (a.eval x).cells):=by
  refine Cx.newAt_rel hr hb h0 (by simp_all) (λi row h=>?_) λi row j a h1 h2=>?_
  ·grind
  match i,h1 with
  | 0,h1=>
   simp only [Po,sie] at h1;subst h1;simpa using hz'.get h2
  | i+1,h1=>grind
 have hrun:(execOp a.eval o).run P c.w = .ok (.value<|.pointer<|Nn ⟨c.w.heap.size,0,Np⟩) (c.newAt b ⟨0,cs.length,t,[cs]⟩ (a.eval x).cells).w:=by
  rw [execOp,ho];refine (?_:Sem.run P _ c.w=_);have : (Instr.box t<|a.eval x).run P c.w = .ok (.pointer<|Nn ⟨c.w.heap.size,0,Np⟩) (c.w.alloc<|.cells (a.eval x).cells t):=by
   simp [Instr.box,newVar,newRow]
  simp only [Sem.run_bind,this,Result.andThen_ok,Sem.run_pure]
  rfl
 unfold Oper.wp;rw [hrun];have hl2:=Cx.newAt_self (c:=c) (k:=⟨0,cs.length,t,[cs]⟩) (cs:=(a.eval x).cells) hb;have hφ2:(c.newAt b ⟨0,cs.length,t,[cs]⟩ (a.eval x).cells).φ b=(c.w.heap.size,0):=if_pos rfl;refine hK _ (c.newAt b ⟨0,cs.length,t,[cs]⟩ (a.eval x).cells) rfl hrel (Cx.newAt_ext hr hb)<|.hp ?_ λq hq=>?_
 ·unfold Cx.born;rw [show (c.newAt b ⟨0,cs.length,t,[cs]⟩ (a.eval x).cells).H[b]? = Nn (Nn _) from hl2];omega
 have := Cx.hd_of hl2 (o:=.cells (a.eval x).cells t) (by rw [hφ2];exact heap_alloc_new _ _);rw [hφ2] at this;have he:=hq.symm.trans this;simp only [hdo,sie] at he
 simp_all
theorem EvA.bxA {t:TypeId} {x:Operand} {cs:List AV} (b:Nat) (hx:(ρ x).cells=Nn cs) (hn:(Nat.blt 0 cs.length)=Nk) (hb:H[b]? = Nn Np):EvA P ρ (.box t x) H (.hp b 0 cs.length 0 0) (H.set b<|Nn ⟨0,cs.length,t,[cs]⟩):=
 λ_ ho=>FT ho hx (nlb hn) hb
end
section
variable {P:Program} {nt b0:Nat} {Q:Exit->Env->AH->Prop} {e:Env} {H:AH}
theorem T.ifH {α:Type} {q:Bool} {x:Operand} {t f:Code} {X Y:Option α} {r:α} (hc:rho e x = .v (.bool q)) (h:(bif q then X else Y)=Nn r) (h1:q=Nk->X=Nn r->T P nt b0 t Q e H) (h2:q=Nl->Y=Nn r->T P nt b0 f Q e H):T P nt b0 (.cond x t f) Q e H:=
 T.cond hc (λhq=>h1 hq<|CJ hq h) λhq=>h2 hq (CK hq h)
end
theorem M4 {α:Type} {a b:α} (h:Nn a=Nn b):a=b:=osl h
def LN (e:Env):List (Nat×AV)->List (Nat×AV)
 | []=>[]
 | p::l=>(p.1,e p.1)::LN e l
theorem wk {e:Env}:∀ {en:List (Nat×AV)},LN e en=en->zK e (ak en)
 | [],_=>wkN
 | (t,a)::l,h=>by
  injection h with h1 h2;injection h1 with _ h1;exact MZ h1<|wk h2
theorem kw {b0:Nat} {e:Env} {H H0:AH} {en:List (Nat×AV)} (hH:H0=H) (h:LN e en=en):dW b0 e H (ak en) H0:=zO hH<|wk h
def Kh:Nat->List AV->List (Nat×AV)
 | _,[]=>[]
 | i,a::l=>(i,a)::Kh (i+1) l
theorem FU:∀ (l:List AV) (i t:Nat),ak (Kh i l) t=if t<i then .top else l.getD (t-i) .top
 | [],i,t=>by
  show AV.top=_
  simp_all
 | a::l,i,t=>by
  show (bif Nat.beq t i then a else ak (Kh (i+1) l) t)=_
  cases hb:Nat.beq t i with
  | true=>
   simp_all
  | false=>
   have hne:t≠i:=λh=>by rw [h,show Nat.beq i i=Nk from Nat.beq_refl i] at hb;cases hb
   rw [cond_false,FU l (i+1) t]
   grind
theorem DK (l:List AV):zK (Hy l) (ak<|Kh 0 l):=λt => .inr (by rw [FU,if_neg (by omega)];rfl)
section
variable {P:Program} {f:FuncId} {fn:Func} {body:Code} {Ni:List AV} {r:AV} {H H':AH}
def okF (P:Program) (f:FuncId) (fn:Func) (body:Code):Bool:=iN P f&&codeOk fn.ntmps body
theorem DL (h:okF P f fn body=Nk):iN P f=Nk/\codeOk fn.ntmps body=Nk:=by
 unfold okF at h
 simp_all
theorem pM (hf:P.funcs[f]? = Nn fn) (hb:fn.body=Nn body) (hk:okF P f fn body=Nk) (hn:Pk Ni.length fn.ntmps=Nk) (h:T P fn.ntmps 0 body (Fin P fn λr0 G=>Fz 0 G r0 r) (ak<|Kh 0 Ni) []):aD P f Ni r:=
 aD.mkT hf hb (DL hk).1 hn (DL hk).2 (DK Ni) h
theorem aM (hf:P.funcs[f]? = Nn fn) (hb:fn.body=Nn body) (hk:okF P f fn body=Nk) (hn:Pk Ni.length fn.ntmps=Nk) (h:T P fn.ntmps H.length body (SQ H.length<|Fin P fn λr0 G=>r0=r/\G=H') (ak<|Kh 0 Ni) H):f8 P f Ni H r H':=
 f8.mkT hf hb (DL hk).1 hn (DL hk).2 (DK Ni) h
end
section
variable {α β:Type} {G:Prop} {r:β} {x:Option β}
theorem jW {k:IntKind} {n:Int} (h:gd (M3 k n) x=Nn r) (K:k.wrap n=n->x=Nn r->G):G:=K (gdW h).1 (gdW h).2
theorem jD {A:Prop} [Decidable A] (h:gd (decide A) x=Nn r) (K:A->x=Nn r->G):G:=K (gdD h).1 (gdD h).2
theorem jL {b:Bool} (h:gd b x=Nn r) (K:b=Nk->x=Nn r->G):G:=K (gdL h).1 (gdL h).2
theorem jB {o:Option α} {k:α->Option β} (h:o.bind k=Nn r) (K:∀ v,o=Nn v->k v=Nn r->G):G:=(BM h).elim λv h=>K v h.1 h.2
end
section
variable {P:Program} {nt b0:Nat} {Q:Exit->Env->AH->Prop} {e e0:Env} {H H' H0:AH} {ops:Array Oper} {l:List Oper} {W:Type} {w:W}
theorem T.sr {i:Nat} {y:Code} (h:TO P nt b0 ops ops.toList (DF (T P nt b0 y Q) Q) e H):T P nt b0 (.seq (.region i ops Nl) y) Q e H := .seq<|.region h
theorem T.jU {S:Type} {A:Option S} {K:S->Option W} {x y:Code} (h:A.bind K=Nn w) (slots:S->List (Nat×AV)) (heap:S->AH)
  (J:∀ s,K s=Nn w->T P nt b0 y Q (ak<|slots s) (heap s)) (k:∀ s,A=Nn s->T P nt b0 x (DF (Ly b0 (λ_:Unit=>True) (λ_=>slots s) λ_=>heap s) Q) e H):T P nt b0 (.seq x y) Q e H:=
 jB h λs h1 h2=>T.joinF (λ_:Unit=>True) (λ_=>slots s) (λ_=>heap s) (λ_ _=>J s h2) (k s h1)
theorem T.jF {S G:Type} {A:Option S} {K:S->Option W} {x y:Code} (h:A.bind K=Nn w) (inv:S->G->Prop) (slots:S->G->List (Nat×AV)) (heap:S->G->AH)
  (J:∀ s g,K s=Nn w->inv s g->T P nt b0 y Q (ak<|slots s g) (heap s g)) (k:∀ s,A=Nn s->T P nt b0 x (DF (Ly b0 (inv s) (slots s)<|heap s) Q) e H):T P nt b0 (.seq x y) Q e H:=
 jB h λs h1 h2=>T.joinF (inv s) (slots s) (heap s) (λg hg=>J s g h2 hg) (k s h1)
theorem T.lU {S E:Type} {body:Code} {x:E} {step:S->Option (S ⊕ E)} {s0:S} (h:aV step s0=Nn x) (slots:S->List (Nat×AV)) (heap:S->AH) (hs:dW b0 e H (ak<|slots s0)<|heap s0)
  (round:∀ s z,step s=Nn z->T P nt b0 body (DF (CI b0 (λ_ (_:Unit)=>True) (λs _=>slots s) (λs _=>heap s) z)<|Leave Q x z) (ak<|slots s) (heap s)):T P nt b0 (.loop body) Q e H:=
 T.loop step (λ_ (_:Unit)=>True) (λs _=>slots s) (λs _=>heap s) () h trivial hs λs _ z hz _=>round s z hz
theorem lE {S E:Type} {slots:S->List (Nat×AV)} {heap:S->AH} {a:S} {z:S ⊕ E} (h:Nn (Sum.inl a)=Nn z) (c:dW b0 e H (ak<|slots a)<|heap a):CI b0 (λ_ (_:Unit)=>True) (λs _=>slots s) (λs _=>heap s) z e H:=
 ⟨a,(),(osl h).symm,trivial,c⟩
theorem lX {S E:Type} {x y:E} {z:S ⊕ E} {ex:Exit} (h:Nn (Sum.inr y)=Nn z) (K:Nn y=Nn x->Q ex e H):Leave Q x z ex e H:=⟨y,(osl h).symm,λh=>K<|congrArg Nn h⟩
theorem TO.jB {S:Type} {q:Bool} {A B:Option S} {K:S->Option W} (h:(bif q then A else B).bind K=Nn w) (n:Nat) (slots:S->List (Nat×AV)) (heap:S->AH)
  (h1:∀ s,q=Nk->A=Nn s->(∀ e H,dW b0 e H (ak<|slots s) (heap s)->TO P nt b0 ops (l.drop n) Q e H)->TO P nt b0 ops l Q e H)
  (h2:∀ s,q=Nl->B=Nn s->(∀ e H,dW b0 e H (ak<|slots s) (heap s)->TO P nt b0 ops (l.drop n) Q e H)->TO P nt b0 ops l Q e H)
  (J:∀ s,K s=Nn w->TO P nt b0 ops (l.drop n) Q (ak<|slots s) (heap s)):TO P nt b0 ops l Q e H:=by
 obtain ⟨s,ha,hk⟩:=BM h;have key:∀ e H,dW b0 e H (ak<|slots s) (heap s)->TO P nt b0 ops (l.drop n) Q e H:=λe H c=>(J s hk).cut c
 grind
end
section
variable {P:Program} {ρ:Operand->AV} {H H':AH} {x y:Operand} {a:AV} {t:TypeId} {ag:Bool} {n:Nat}
theorem mv:M0 P ρ (.move x) (ρ x):=M0.mv _ rfl
theorem as':M0 P ρ (.assign x) (ρ x):=M0.asg _ rfl
def MG:AV->Bool
 | .fp _ _=>Nk
 | .hp _ _ _ _ _=>Nk
 | _=>Nl
theorem nl (h:MG (ρ x)=Nk):M0 P ρ (.nilCheck x) (ρ x):=by
 cases e:ρ x with
 | fp row j=>exact M0.nilfp e
 | hp b v s i j=>exact M0.nilhp e
 | _=>rw [e] at h;cases h
def ldE (ag:Bool) (n:Nat):AV->Option AV
 | .fp row j=>uW ag n row j
 | _=>Np
theorem lf (a:AV) (ty:TyF P t ag n) (h:ldE ag n (ρ x)=Nn a):M0 P ρ (.load t x) a:=by
 cases e:ρ x with
 | fp row j=>rw [e] at h;exact M0.loadfp a ty e h
 | _=>rw [e] at h;cases h
def faE (pl:List<|Nat×Nat) (i:Nat) (v:AV):Option AV:=match pl[i]? with
 | some (o,k+1)=>(match v with
  | .fp row j=>Nn (.fp row<|j+o)
  | .hp b u s q j=>Nn (.hp b u s q<|j+o)
  | _=>Np)
 | _=>Np
theorem DN {α β:Type} {f:α->Option β}:∀ {l:List α} {k:List β},l.mapM f=Nn k->∀ {i:Nat} {b:β},k[i]? = Nn b->∃ a,l[i]? = Nn a/\f a=Nn b
 | [],k,h,i,b,hb=>by
  simp_all
 | c::l,k,h,i,b,hb=>by
  simp only [List.mapM_cons] at h;obtain ⟨d,hd,h⟩:=PQ.1 h;obtain ⟨k',hk',h⟩:=PQ.1 h;obtain rfl:=osl h
  cases i with
  | zero=>
   simp_all
  | succ i=>exact DN hk' (by simp_all)
theorem fa {pl:List (Nat×Nat)} {i:Nat} (q:TyS P t pl) (h:faE pl i (ρ x)=Nn a):M0 P ρ (.fieldAddr t x i) a:=by
 have hs:=q.s
 split at hs
 ·rename_i fs hu;unfold faE at h
  split at h
  ·rename_i o k hk;obtain ⟨fl,h1,h2⟩:=DN hs hk;rw [Ps] at h1;obtain ⟨inf,h3,h4⟩:=P6.1 h2;injection h4 with h4 h5;have hc:(P.cellsOf fl.type != 0)=Nk:=by
    unfold Program.cellsOf;rw [h3];simp [h5]
   subst h4
   cases e:ρ x with
   | fp row j=>rw [e] at h;obtain rfl:=osl h;exact M0.fafp hu h1 hc e
   | hp b u s w j=>rw [e] at h;obtain rfl:=osl h;exact M0.fahp hu h1 hc e
   | _=>rw [e] at h;cases h
  cases h
 simp_all
theorem lh (a:AV) (ty:TyF P t ag n) {b ver s j:Nat} {ty':TypeId} {row:List AV} (h:ρ x = .hp b ver s 0 j) (hk:H[b]? = Nn (Nn ⟨ver,s,ty',[row]⟩)) (hp:uW ag n row j=Nn a):EvA P ρ (.load t x) H a H:=EvA.loadhp a ty h hk rfl rfl rfl hp
def srE (n s j:Nat) (row cs:List AV):Option (List AV):=bif Nat.beq cs.length n&&Pk (j+n) s then Nn (splice row j cs) else Np
theorem sr (row':List AV) (ty:TyF P t ag n) {b ver s j:Nat} {ty':TypeId} {row cs:List AV} (hx:ρ x = .hp b ver s 0 j) (hy:(ρ y).cells=Nn cs) (hk:H[b]? = Nn (Nn ⟨ver,s,ty',[row]⟩)) (hr:srE n s j row cs=Nn row'):EvA P ρ (.store t x y) H .top (H.set b<|Nn ⟨ver,s,ty',[row']⟩):=by
 unfold srE at hr
 cases hb:(Nat.beq cs.length n&&Pk (j+n) s) with
 | false=>simp_all
 | true=>
  rw [hb] at hr;obtain rfl:=osl hr;rw [bae] at hb;exact EvA.st (k:=⟨ver,s,ty',[row]⟩) _ ty hx hy hk rfl rfl rfl (Nat.eq_of_beq_eq_true hb.1) hb.2 rfl
end
section
variable {P:Program} {nt b0:Nat} {Q:Exit->Env->AH->Prop} {H H':AH} {ops:Array Oper} {l:List Oper} {d:Tmp} {ty:TypeId} {pos:String} {af:Array Edge} {en:List (Nat×AV)} {fp:Nat->Fp} {i:Nat} {K:Env->AH->Prop} {S W:Type} {r:W} {A:Option S} {k:S->Option W} {v:S->AV} {cl:Call} {f:Operand} {g:FuncId} {nR Ni:List AV}
theorem oC (h:A.bind k=Nn r) (hp:∀ s,A=Nn s->aD P g Ni (v s)) (hc:cl.callee = .value f) (hf:rho (ak en) f = .fn (.func g) nR) (ha:cl.args.toList.map (rho<|ak en)++nR=Ni) (hF:Ni.all (isF 9)=Nk)
  (J:∀ s,A=Nn s->k s=Nn r->TO P nt b0 ops l Q (ak ((d,v s)::en)) H):TO P nt b0 ops (⟨Nn d,.call cl,ty,pos,af,Np⟩::l) Q (ak en) H:=
 jB h λs h1 h2=>oN (M0.call hc hf ha (hp s h1) hF) (J s h1 h2)
theorem fC (h:A.bind k=Nn r) (hp:∀ s,A=Nn s->aD P g Ni (v s)) (hc:cl.callee = .value f) (hf:rho (ak en) f = .fn (.func g) nR) (ha:cl.args.toList.map (rho<|ak en)++nR=Ni) (hF:Ni.all (isF 9)=Nk) (h0:fp i=([],Nl))
  (J:∀ s,A=Nn s->k s=Nn r->TF P fp (i+1) l K (ak ((d,v s)::en)) H):TF P fp i (⟨Nn d,.call cl,ty,pos,af,Np⟩::l) K (ak en) H:=
 jB h λs h1 h2=>fN h0 (M0.call hc hf ha (hp s h1) hF) (J s h1 h2)
end
section
variable {P:Program} {fn:Func} {e:Env} {G:AH} {a:AV} {t:Tmp} {m:Nat}
theorem HQ (h:fn.results.toList=[.tmp t]) (h1:e t=a) (h2:isF 9 a=Nk):Fin P fn (λr0 G=>Fz m G r0 a) .ret e G:=Fin.ret (vs:=[a]) (by rw [h];exact .cons (.tmp h1) .nil)<|.of_isF 9 _ h2
end
section
variable {P:Program} {H:AH} {s:Nat} {o:Oper} {ρ:Operand->AV}
theorem FV {e:TypeId} {i:TypeInfo} {z:Value} (w:World) (hi:P.info? e=Nn i) (hz:i.zero=Nn z):(zeroValue e).run P w = .ok z w:=by simp [zeroValue,typeInfo,hi,hz]
theorem FW {cl:Call} {x:Operand} {t e:TypeId} {b ver off len:Nat} {k:ABlk} {z:Value} {zr:List AV} (ho:o.op = .call cl) (h1:cl.callee = .builtin .clear) (h2:cl.args.toList=[x]) (h3:cl.argTypes.toList=[t])
  (ht:P.underlying t=Nn (.slice e)) (hz:(P.info? e).bind (·.zero)=Nn z) (hz1:lG z.cells=Nk) (hzs:z.cells.size=s) (hzr:zr.length=s) (hzc:∀ (c:Cx) (j:Nat) (a:AV),zr[j]? = Nn a->∃ u,z.cells[j]? = Nn u/\c.rel a u)
  (hx:ρ x = .hs b ver s off len) (hb:H[b]? = Nn (Nn k)) (hv:k.ver=ver) (hs:k.s=s) (hoff:off+len<=k.rows.length) :
  MX P o ρ H .top (H.set b<|Nn { k with rows:=k.rows.take off++(Pj len zr).take len++k.rows.drop (off+len) }):=by
 intro c a K Q hH hr hxs hK;obtain ⟨callee,args,ts⟩:=cl;simp only at h1 h2 h3;obtain rfl:args = #[x]:=by cases args;simp_all
 obtain rfl:ts = #[t]:=by cases ts;simp_all
 subst h1;have hx1:=hx ▸ hxs x (by rw [ho];simp [Op.operands,Call.operands]);generalize hn:len=n at hK ⊢;generalize hnews:Pj n zr=news at hK ⊢;have hrl:∀ (i:Nat) (row:List AV),news[i]? = Nn row->row.length=s:=λi row h=>by
  rw [<- hnews] at h;have := PG h;rw [Pv] at this;rw [this.2,hzr]
 have hnl0:news.length=n:=by rw [<- hnews,P8]
 have hone:∀ v∈z.cells,v.oneCell'=Nk:=by
  rw [vM,Array.all_eq_true_iff_forall_mem] at hz1;exact hz1
 generalize hvs:(Builtin.zeroCells z.cells n).toList=vs;have hvl:vs.length=n*s:=by rw [<- hvs,PH,lI,hzs]
 have hvget:∀ i j,i<n->j<s->vs[i*s+j]? = z.cells[j]? := λi j hi hj=>by
  have hfit:i*s+j<n*s:=by
   have : (i+1)*s<=n*s:=Pm _ (by omega);rw [Pi] at this;omega
  rw [<- hvs,Ps];unfold Builtin.zeroCells;rw [hzs];have := yA z.cells (n*s) (i*s+j) hfit (by omega);rw [hzs] at this;rw [this,Pq i s,Nat.mul_add_mod,Nat.mod_eq_of_lt hj]
 have hv1:∀ v∈vs,v.oneCell'=Nk:=λv hm=>by
  obtain ⟨q,hq⟩:=List.getElem?_of_mem hm;have hq':=(ges hq).1;rw [hvl] at hq';have hs0:0<s:=Nat.pos_of_ne_zero λh=>by rw [h,Nat.mul_zero] at hq';omega
  have e1:q=q / s*s+q % s:=by rw [Pq];exact (Nat.div_add_mod q s).symm
  rw [e1,hvget (q / s) (q % s) (Nat.div_lt_of_lt_mul<|by rw [Pq];exact hq') (Nat.mod_lt _ hs0)] at hq;exact hone v<|PK hq
 have hvr:∀ (i:Nat) (row:List AV) (j:Nat) (a:AV),(news.take n)[i]? = Nn row->row[j]? = Nn a->∃ u,vs[i*s+j]? = Nn u/\u.oneCell'=Nk/\c.rel a u:=λi row j a hi hj=>by
  have hin:i<n:=by
   have := (ges hi).1;rw [Pp] at this;omega
  rw [Pn,if_pos hin,<- hnews] at hi;have := PG hi;rw [Pv] at this;rw [this.2] at hj;have hjs:j<s:=by rw [<- hzr];exact (ges hj).1
  obtain ⟨u,g1,g2⟩:=hzc c j a hj;exact ⟨u,by rw [hvget i j hin hjs];exact g1,hone u<|PK g1,g2⟩
 have hl:c.live b k:=by unfold Cx.live;rw [hH];exact hb
 generalize hux:a.eval x=ux at hx1
 cases hx1 with
 | fr h=>cases h
 | @hs _ _ _ _ _ cap A hbn hcl hcm h0 hh=>
  obtain ⟨cur,fr,hB⟩:=hr.blk b k hl;obtain ⟨fr,rfl,hat,hd⟩:=hB.cells hl λx hx=>(hh x<|hv ▸ hx).1.trans hs.symm;rw [hv] at hd;obtain ⟨_,_,hA,hcf⟩:=hh _ hd;simp only at hA hcf;have hexec:∀ w',(n=0/\w'=c.w)\/(∃ ad,A=Nn ad/\0<n/\(storeCells ad vs).run P c.w = .ok () w')->(execOp a.eval o).run P c.w = .ok (.value<|.tuple #[]) w':=λw' hw=>by
   have e1:(Builtin.clear_ #[t] o.type #[.slice A len cap]).run P c.w = .ok (.tuple #[]) w':=by
    obtain ⟨inf,h5,h6⟩:=PQ.1 hz;rcases hw with ⟨h0',rfl⟩ | ⟨ad,rfl,hp,hst⟩
    ·rw [hn,h0']
     cases A <;> simp [Builtin.clear_,Sem.run_bind,av ht]
    obtain ⟨q,rfl⟩:∃ q,n=q+1:=⟨n-1,by omega⟩;rw [hn];simp [Builtin.clear_,Sem.run_bind,av ht,FV c.w h5 h6,hvs,hst]
   simp [execOp,ho,resolve,invoke,builtin,hux,e1]
  unfold Oper.wp;rcases Nat.eq_zero_or_pos n with h00 | hpos
  ·-- nothing is copied
   have hv0:vs=[]:=List.eq_nil_of_length_eq_zero (by rw [hvl,h00,Nat.zero_mul]);have hk0:({ k with rows:=k.rows.take off++news.take n++k.rows.drop (off+n) }:ABlk)=k:=by
    rw [h00];simp
   rw [hexec c.w (.inl ⟨h00,rfl⟩)];refine hK _ c ?_ hr (Ext.refl c) .top;rw [hk0,AX H b _ hb,hH]
  have h0':0<cap:=by omega
  obtain rfl:=hA h0';have hfit:=hB.fits;have hsp:=hB.pos;have hle:(c.φ b).2+off*s+vs.length<=cur.toList.length:=by
   have h5:(off+len)*s<=k.rows.length*s:=Pm _ hoff;have h6:n*s<=len*s:=Pm _ (by omega);rw [Pi] at h5;have hct:cur.toList.length=cur.size:=PH;rw [hs] at hfit;rw [hvl,hct];omega
  have hst:=jl (P:=P) (c.φ b).1 ((c.φ b).2+off*s) k.ty fr vs 0 cur c.w hat (hB.fre fr rfl) (by simpa using hle) hv1;rw [Nat.add_zero] at hst;have hg2:=λq=>AP cur.toList _ _ hle q;have hs2:=AQ cur.toList _ _ hle;generalize hcs2:(cur.toList.take ((c.φ b).2+off*s)++vs++cur.toList.drop ((c.φ b).2+off*s+vs.length))=ls at *;have hsz2:ls.toArray.size=cur.size:=by simpa using hs2
  have hget:∀ q,ls.toArray[q]? = if (c.φ b).2+off*s<=q/\q<(c.φ b).2+off*s+vs.length then vs[q-((c.φ b).2+off*s)]? else cur[q]? := λq=>by
   rw [List.getElem?_toArray,hg2,Ps (xs:=cur)]
  have hrl2:(k.rows.take off++news.take n++k.rows.drop (off+n)).length=k.rows.length:=by
   simp only [lla,Pp,PO];omega
  have hrow:∀ (i:Nat) (row:List AV),(k.rows.take off++news.take n++k.rows.drop (off+n))[i]? = Nn row->(off<=i/\i<off+n/\news[i-off]? = Nn row)\/((i<off\/off+n<=i)/\k.rows[i]? = Nn row):=λi row h=>by
   have hnl:(news.take n).length=n:=by simp;omega
   have e:=AP k.rows off (news.take n) (by rw [hnl];omega) i;rw [hnl] at e;rw [e] at h
   split at h
   ·rename_i h2;refine .inl ⟨h2.1,h2.2,?_⟩;rw [Pn,if_pos (by omega)] at h;exact h
   rename_i h2;exact .inr ⟨by omega,h⟩
  have hlen2:∀ (i:Nat) (row:List AV),(k.rows.take off++news.take n++k.rows.drop (off+n))[i]? = Nn row->row.length=k.s:=λi row h=>by
   rcases hrow i row h with ⟨_,_,h2⟩ | ⟨_,h2⟩
   ·rw [hrl _ row h2,hs]
   exact hB.len i row h2
  have hext:=Cx.upd_ext (k:={ k with rows:=k.rows.take off++news.take n++k.rows.drop (off+n) }) (o:=(c.φ b).2) (cs:=ls.toArray) hr hl hB hsz2 (.inl ⟨rfl,rfl,hrl2,rfl⟩);have hrel:=Cx.upd_rel (k:={ k with rows:=k.rows.take off++news.take n++k.rows.drop (off+n) }) (o:=(c.φ b).2) (cs:=ls.toArray) hr hl hB hsz2 rfl hext hsp (by simp only;rw [hrl2,hsz2];exact hfit) hlen2 (λi row j a' h h'=>by
   have hj:j<s:=by
    have := (ges h').1;rw [hlen2 i row h,hs] at this;exact this
   simp only;rw [hget,hs,hvl];rcases hrow i row h with ⟨g1,g2,g3⟩ | ⟨g1,g3⟩
   ·have hf:=uq (s:=s) (show i-off<n by omega) (j:=j+1) hj;have e:i*s=(i-off)*s+off*s:=by
     rw [<- Pi]
     congr 1
     omega
    rw [if_pos (by omega)];obtain ⟨u',q1,q2,q3⟩:=hvr (i-off) row j a' (by rw [Pn,if_pos (by omega)];exact g3) h';refine ⟨u',?_,q2,q3⟩;rw [<- q1]
    congr 1
    omega
   have hi':=(ges g3).1;rw [if_neg (λhq=>?_)]
   ·have := hB.rel i row j a' g3 h';rw [hs] at this;exact this
   rcases g1 with g1 | g1
   ·have hf:=uq (s:=s) g1 (j:=j+1) hj;omega
   have hf:(off+n)*s<=i*s:=Pm _ g1;rw [Pi] at hf;omega)
  rw [hexec _ (.inr ⟨_,rfl,hpos,hst⟩)];exact hK _ _ (by rw [<- hH];rfl) hrel hext .top
variable {α:Type} {c:α->List AV} {l:List α} {x y:Operand} {t e:TypeId} {ag:Bool} {w m b ver off len:Nat} {zs:List AV}
def ZrR (zs zr:List AV):Prop:=zr.length=zs.length/\∀ (cx:Cx) (j:Nat) (a a':AV) (v:Value),zs[j]? = Nn a->zr[j]? = Nn a'->cx.rel a v->cx.rel a' v
theorem zrE {zs:List AV}:ZrR zs zs:=⟨rfl,λcx j a a' v h h' hr=>by rw [h] at h';obtain rfl:=osl h';exact hr⟩
theorem Ah {β:Type} [Inhabited β] {f:β->List AV} {cx:Cx} {v:Value} (h:cx.rel .nil v):cx.rel (eL f ([]:List β)) v:=by
 obtain rfl:=f7 h;exact .fr<|.sl (s:=1) (g:=0) (o:=0) (λ_ _ => .bool Nl) (Pt _) (by decide) (λh=>absurd h<|by simp) (λi h=>absurd h<|by simp) (λi j a h=>absurd h<|by simp) (λi j a h=>absurd h<|by simp) λi j a h=>absurd h (by simp)
theorem EvA.clearO [Inhabited α] (q:SlT P t e ag w zs m) (hz:ZrR zs<|c Nj) (hx:ρ x = .hs b ver w off len) (hk:H[b]? = Nn (bE Nl ver w e<|l.map c)) (ho:off+len<=l.length) :
  EvA P ρ (.call ⟨.builtin .clear,#[x],#[t]⟩) H .top (H.set b<|bE Nl ver w e<|(cpy l off (Pj len Nj) len).map c):=λo ho'=>by
 obtain ⟨z,hz0,hzz⟩:=P6.1 q.z.z;have hone:lG z.cells=Nk:=by
  have := q.z.one;rw [hz0] at this;exact osl this
 have hsz:z.cells.size=w:=by
  have := congrArg List.length hzz;rw [<- q.zl,<- this];simp [dD]
 have h:=FW (o:=o) (P:=P) (ρ:=ρ) (H:=H) (s:=w) (k:=⟨ver,w,e,l.map c⟩) (zr:=c Nj) ho' rfl rfl rfl q.u hz0 hone hsz (hz.1.trans q.zl) (λcx j a ha=>by
  have hjl:j<zs.length:=by rw [<- hz.1];exact (ges ha).1
  have hzs:zs[j]? = Nn zs[j]:=geq hjl;have hju:j<z.cells.size:=by rw [hsz,<- q.zl];exact hjl
  refine ⟨z.cells[j],P9 hju,hz.2 cx j _ a _ hzs ha ?_⟩;have hc:=qY cx hone;obtain ⟨u,g1,g2⟩:=hc.get (j:=j) (a:=zs[j]) (by rw [hzz];exact hzs);rw [P9 hju] at g1;obtain rfl:=osl g1
  first | exact g2 | exact g2.2) hx hk rfl rfl (by simpa using ho)
 unfold cpy;rw [if_pos ho];simpa [bE,PN,List.map_drop] using h
end
section
variable {P:Program} {H:AH}
theorem bP.wown {f:FuncId} {as0 Ni:List AV} {b:Nat} {g:Bool} {ver w w':Nat} {ty ty':TypeId} {wM rows:List (List AV)} {mk:AV->AV} {n:Nat} (h:bP P f as0 [bE g ver w ty wM]<|CP w' ty' mk n rows 0 []) (hb:H[b]? = Nn (bE g ver w ty wM))
  (has:RenL (λc i=>[b][i]? = Nn c) Ni as0) (hk0:∀ r∈wM,∀ a∈r,isF 9 a=Nk) (hk:∀ r∈rows,∀ a∈r,isF 9 a=Nk) (hmk:∀ (S:Nat->Nat->Prop) (a b:AV),Ren S a b->Ren S (mk a) (mk b)) :
  bP P f Ni H (λr G=>∃ g' o8,(g'=Nk->n=0)/\r=mk (hS g' b o8 w' n)/\G=H.set b (bE g' o8 w' ty' rows)):=by
 have hlt:b<H.length:=(ges hb).1;refine h.frameN [b] (by simp) rfl (λi c hi=>?_) has.spec.1 has.spec.2 λr0 G0 ⟨g',o8,hg,hr0,hG0⟩ => ?_
 ·match i with
  | 0=>
   obtain rfl:b=c:=by simpa using hi
   cases g with
   | true=>exact .inl ⟨hb,rfl⟩
   | false=>exact .inr ⟨_,_,hb,rfl,.ofF hk0⟩
  | i+1=>simp at hi
 subst hr0 hG0;have key:∀ i c,sg [b] H.length i c->i<1->c=b:=λi c hs hi=>by
  rcases hs with hs | ⟨hs,_⟩
  ·obtain rfl:i=0:=by omega
   simpa using hs.symm
  simp at hs;omega
 refine ⟨_,_,⟨by simp,by simp,λi c hi hs hn=>?_,λi c k0 hs hk0=>?_,λc hc hne=>PL λe=>hne<|by simp [e]⟩,hmk _ _ _ ?_,⟨g',o8,hg,rfl,rfl⟩⟩
 ·simp only [PR,List.length_singleton] at hi;obtain rfl:=key i c hs hi;obtain rfl:i=0:=by omega
  simp only [PR,Po,sie] at hn;rw [PP hlt,hn]
 ·have hi:i<1:=by
   have := (ges hk0).1;simpa using this
  obtain rfl:=key i c hs hi;obtain rfl:i=0:=by omega
  simp only [PR,Po,sie] at hk0;refine ⟨k0,by rw [PP hlt,hk0],.ofF λr hr a ha=>?_⟩
  cases g' with
  | true=>cases hk0
  | false=>
   obtain rfl:=osl hk0;exact hk r hr a ha
 cases g' with
 | true=>exact .nil
 | false=>exact .hs (.inl rfl)
theorem HY {S:Nat->Nat->Prop} {g:Bool} {i j v w n n':Nat} (h:S i j) (hn:n=n'):Ren S (hS g i v w n) (hS g j v w n'):=hn ▸ kI h
variable {nt b0:Nat} {Q:Exit->Env->AH->Prop} {en:List (Nat×AV)} {ops:Array Oper} {l:List Oper} {d:Tmp} {t:TypeId} {pos:String} {af:Array Edge}
theorem oGW {cl:Call} {f:Operand} {g:FuncId} {nR as0:List AV} {H:AH} {b w0 ver w:Nat} {g0:Bool} {ty0 ty:TypeId} {wM rows:List (List AV)} {mk:AV->AV} {n:Nat} (hc:cl.callee = .value f) (hf:rho (ak en) f = .fn (.func g) nR)
  (h:bP P g as0 [bE g0 ver w0 ty0 wM]<|CP w ty mk n rows 0 []) (hb:H[b]? = Nn (bE g0 ver w0 ty0 wM)) (has:RenL (λc i=>[b][i]? = Nn c) (cl.args.toList.map (rho<|ak en)++nR) as0) (hk0:∀ r∈wM,∀ a∈r,isF 9 a=Nk) (hk:∀ r∈rows,∀ a∈r,isF 9 a=Nk)
  (hmk:∀ (S:Nat->Nat->Prop) (a b:AV),Ren S a b->Ren S (mk a) (mk b)) (k:∀ g' o8,(g'=Nk->n=0)->TO P nt b0 ops l Q (ak ((d,mk<|hS g' b o8 w n)::en)) (H.set b<|bE g' o8 w ty rows)):TO P nt b0 ops (⟨Nn d,.call cl,t,pos,af,Np⟩::l) Q (ak en) H:=by
 exact TO.runG (.free rfl) (yE rfl hc hf<|h.wown hb has hk0 hk hmk) λr' H' ⟨g',o8,hg,hr,hH⟩=>by
  subst hr hH;exact k g' o8 hg
end
section
variable {P:Program} {ρ:Operand->AV} {H:AH} {x y z:Operand} {t e keyT:TypeId} {ag:Bool} {w j b kn:Nat}
variable {K:Type} [DecidableEq K] {kc:K->List Value} {l:List (K×Bool)}
omit [DecidableEq K] in
end
section
variable {P:Program} {o:Oper} {ρ ρ':Operand->AV} {H:AH} {K K':AV->AH->Prop}
theorem OpG.congr {R:AV->AH->Prop} (h:OpG P o ρ H R) (he:∀ x∈o.op.operands,ρ x=ρ' x):OpG P o ρ' H R:=
 λc a K Q hH hr hxs hK=>h c a K Q hH hr (λx hx=>by rw [he x hx];exact hxs x hx) hK
theorem OpG.mono {R R':AV->AH->Prop} (h:OpG P o ρ H R) (hR:∀ r G,R r G->R' r G):OpG P o ρ H R':=
 λc a K Q hH hr hxs hK=>h c a K Q hH hr hxs λv c' r hr1 hr2 hr3 hr4=>hK v c' r (hR _ _ hr1) hr2 hr3 hr4
abbrev Xc:=Bool×List Nat
def agr (F:List Nat) (G H:AH):Prop:=∀ b∈F,G[b]? = H[b]?
theorem agr.a1 {b c:Nat} {F:List Nat} {G H:AH} (h:agr (c::b::F) G H) {x:Option ABlk} (hx:H[b]? = Nn x):G[b]? = Nn x:=(h b<|by simp).trans hx
theorem agr.a2 {a b c:Nat} {F:List Nat} {G H:AH} (h:agr (a::c::b::F) G H) {x:Option ABlk} (hx:H[b]? = Nn x):G[b]? = Nn x:=(h b<|by simp).trans hx
def FX (W:List Nat) (H H':AH):Prop:=∀ b,b<H.length->b∉W->H'[b]? = H[b]?
def CX (P:Program) (o:Oper) (ρ:Operand->AV) (H:AH) (b:Xc) (K:AV->AH->Prop):Prop:=match b.1 with
 | false=>∃ r,(∀ c∈b.2,c<H.length)/\(∀ G,agr b.2 G H->MX P o ρ G r G)/\K r H
 | true=>OpG P o ρ H λr H'=>FX b.2 H H'/\K r H'
theorem CX.mono {b:Xc} (h:CX P o ρ H b K) (hK:∀ r G,K r G->K' r G):CX P o ρ H b K':=by
 obtain ⟨b,F⟩:=b
 cases b with
 | false=>
  obtain ⟨r,h0,h1,h2⟩:=h;exact ⟨r,h0,h1,hK _ _ h2⟩
 | true=>
  show OpG P o ρ H λr H'=>FX F H H'/\K' r H';exact OpG.mono (R:=λr H'=>FX F H H'/\K r H') h λr G hr=>⟨hr.1,hK _ _ hr.2⟩
theorem CX.congr {b:Xc} (h:CX P o ρ H b K) (he:∀ x∈o.op.operands,ρ x=ρ' x):CX P o ρ' H b K:=by
 obtain ⟨b,F⟩:=b
 cases b with
 | false=>
  obtain ⟨r,h0,h1,h2⟩:=h;exact ⟨r,h0,λG hG=>(h1 G hG).congr he,h2⟩
 | true=>
  show OpG P o ρ' H λr H'=>FX F H H'/\K r H';exact OpG.congr (R:=λr H'=>FX F H H'/\K r H') h he
def TX (P:Program) (ops:Array Oper) (cls:Nat->Xc):List Nat->(Env->AH->Prop)->Env->AH->Prop
 | [],K,e,H=>K e H
 | i::l,K,e,H=>∃ o,ops[i]? = Nn o/\CX P o (rho e) H (cls i) λr H'=>TX P ops cls l K (uU e o.dst r) H'
end
theorem EvA.mkZR {P:Program} {ρ:Operand->AV} {H:AH} {x y:Operand} {t e:TypeId} {ag:Bool} {w m:Nat} {zs:List AV} {a b:Int} {α:Type} (bl:Nat) (v:α) (q:SlT P t e ag w zs m) (hx:ρ x = .v (.int .i64 a)) (hy:ρ y = .v (.int .i64 b)) (hq:0<=a/\a<=b/\b*(m:Int)<=140737488355328/\b<=140737488355328) (hab:a=b) (hF:zs.all (isF 9)=Nk) (hb:H[bl]? = Nn Np) :
  EvA P ρ (.makeSlice t x y) H (hS Nl bl 0 w (Pj a.toNat v).length) (H.set bl<|bE Nl 0 w e<|Pj a.toNat zs):=λo ho=>by
 subst hab;rw [P8];have h:=Jw (H:=H) q ho hx hy hq;refine h.at_ hb (λr hr z hz=>?_)<|.inl ⟨_,rfl,rfl⟩;rw [Pv] at hr;rw [hr.2] at hz;exact Px.1 hF z hz
theorem M0.mkF0 {P:Program} {ρ:Operand->AV} {t e:TypeId} {α:Type} [Inhabited α] {f:α->List AV} {ag:Bool} {w m:Nat} {zs:List AV} {parts:Array (Nat×Operand)} (q:SlT P t e ag w zs m) (hr:kG (parts.toList.map λp=>(ρ p.2).cells)=Nn [[.nil]]) (hn:(Nat.blt 0 w&&Pk (1*w) 16777216&&(parts.toList.map (·.1)==Pz 1))=Nk) (hw:w=1) :
  M0 P ρ (.buildSlice t 1 parts) (eL (cL f) [([]:List α)]):=by
 simp only [bae,beq_iff_eq] at hn;have hz:=Ju q.z (q.zl.trans q.ty.cells.symm);refine .newF ⟨0,P.cellsOf e,e,[[.nil]]⟩ (λb => .hs b 0 (P.cellsOf e) 0 1) (λo ho G=>pu ho q.u hr (by rw [q.ty.cells];exact nlb hn.1.1) (by rw [q.ty.cells];exact nlb hn.1.2) hn.2 hz q.z.one (λrow hrow=>by
  obtain rfl:=List.mem_singleton.1 hrow;rw [q.ty.cells,hw]
  rfl)) λm G hG=>?_
 show Fz _ _ _ (.sl 1 _);refine .hs (k:=⟨0,P.cellsOf e,e,[[.nil]]⟩) (Pt _) (by rw [<- hG];simp) rfl rfl (by simp) (λi r hi hr=>?_) (λi r j c d hi hr hc hd=>?_)
 ·obtain rfl:i=0:=by omega
  obtain rfl:=osl hr
  rfl
 obtain rfl:i=0:=by omega
 obtain rfl:=osl hr
 match j with
 | 0=>
  obtain rfl:=osl hc;obtain rfl:=osl hd;exact .nil0
 | j+1=>simp at hc
section
variable {P:Program} {nt b0:Nat} {Q:Exit->Env->AH->Prop} {e:Env} {H H':AH} {r:AV}
variable {d:Tmp} {op:Op} {ty:TypeId} {pos:String} {af:Array Edge} {en:List (Nat×AV)} {cls:Nat->Xc} {ops:Array Oper} {i:Nat} {K:Env->AH->Prop} {l:List Nat}
theorem TX.nil (h:K e H):TX P ops cls [] K e H:=h
theorem xN (h0:ops[i]? = Nn ⟨Nn d,op,ty,pos,af,Np⟩) (hc:cls i=(Nl,[])) (hv:M0 P (rho<|ak en) op r) (h:TX P ops cls l K (ak ((d,r)::en)) H):TX P ops cls (i::l) K (ak en) H:=
 ⟨_,h0,by rw [hc];exact ⟨r,λ_ h=>(by cases h),λG _=>hv _ rfl G,h⟩⟩
end
def EqS (a b:AV):Prop:=∀ (w:World) (fz:Nat->Prop) (v:Value),FRel w fz a v->FRel w fz b v
def Bs:List AV->List AV->Prop
 | [],[]=>True
 | a::r,b::q=>EqS a b/\Bs r q
 | _,_=>False
theorem EqS.refl (a:AV):EqS a a:=λ_ _ _ h=>h
theorem Bs.refl:∀ r:List AV,Bs r r
 | []=>trivial
 | a::r=>⟨EqS.refl a,Bs.refl r⟩
theorem Bs.len:∀ {r q:List AV},Bs r q->r.length=q.length
 | [],[],_=>rfl
 | a::r,b::q,h=>by rw [llc,llc,Bs.len h.2]
 | [],_::_,h=>h.elim
 | _::_,[],h=>h.elim
theorem Bs.get:∀ {r q:List AV},Bs r q->∀ {j:Nat} {b:AV},q[j]? = Nn b->∃ a,r[j]? = Nn a/\EqS a b
 | [],[],_,j,b,h=>by simp at h
 | a::r,b::q,h,0,c,hc=>by
  simp only [Po,sie] at hc;subst hc;exact ⟨a,rfl,h.1⟩
 | a::r,b::q,h,j+1,c,hc=>by
  simp only [PI] at hc ⊢;exact h.2.get hc
 | [],_::_,h,_,_,_=>h.elim
 | _::_,[],h,_,_,_=>h.elim
theorem EqS.sl {n:Nat} {row row':Nat->List AV} (he:∀ i,i<n->Bs (row i) (row' i)):EqS (.sl n row) (.sl n row'):=λw fz v h=>by
 cases h with
 | @sl _ cap s g o _ a us hc hm ha hs hu h1 h3=>
  refine .sl (s:=s) (g:=g) (o:=o) us hc hm ha (λi hi=>?_) (λi j b hi hj=>?_) (λi j b hi hj=>?_) λi j b hi hj=>?_
  ·rw [<- (he i hi).len];exact hs i hi
  ·obtain ⟨a',ha',_⟩:=(he i hi).get hj;exact hu i j a' hi ha'
  ·obtain ⟨a',ha',_⟩:=(he i hi).get hj;exact h1 i j a' hi ha'
  obtain ⟨a',ha',e⟩:=(he i hi).get hj;exact e _ _ _<|h3 i j a' hi ha'
theorem EqS.fp {row row':List AV} (he:Bs row row') {j:Nat}:EqS (.fp row j) (.fp row' j):=λw fz v h=>by
 cases h with
 | fp us hg hlt hu h1 h3=>
  refine .fp us hg hlt (λj b hj=>?_) (λj b hj=>?_) λj b hj=>?_
  ·obtain ⟨a',ha',_⟩:=he.get hj;exact hu j a' ha'
  ·obtain ⟨a',ha',_⟩:=he.get hj;exact h1 j a' ha'
  obtain ⟨a',ha',e⟩:=he.get hj;exact e _ _ _<|h3 j a' ha'
theorem Jy {c:Cx} {n:Nat} {row:Nat->List AV} {b:AV} {v:Value} (he:EqS (.sl n row) b) (h:c.rel (.sl n row) v):c.rel b v := .fr<|he _ _ _<|sF h
theorem wX {c:Cx} {row row':List AV} {v:Value} {j:Nat} (he:Bs row row') (h:c.rel (.fp row j) v):c.rel (.fp row' j) v := .fr<|EqS.fp he _ _ _<|sG h
theorem EqS.eL {α β:Type} [Inhabited α] [Inhabited β] {f:α->List AV} {g:β->List AV} {i:α->β} (h:∀ x,Bs (f x)<|g<|i x) (l:List α):EqS (eL f l) (eL g<|l.map i):=by
 unfold Go.Proofs.YtabfkkjdfhbngaaGreatDoor.eL;rw [llm];refine .sl λk hk=>?_;have e1:l.getD k Nj=l[k]:=by rw [gdq,geq hk];rfl
 have e2:(l.map i).getD k Nj=i l[k]:=by rw [gdq,List.getElem?_map,geq hk];rfl
 rw [e1,e2];exact h _
theorem CY {α β:Type} [Inhabited α] [Inhabited β] {f:α->List AV} {g:β->List AV} {i:α->β} {c:Cx} {v:Value} (h:∀ x,Bs (f x)<|g<|i x) {l:List α} (hv:c.rel (eL f l) v):c.rel (eL g<|l.map i) v:=Jy (EqS.eL h l) hv
theorem row_in {α:Type} [Inhabited α] {f:α->List AV} {r:List α->Nat->List AV} (h0:∀ x l,r (x::l) 0=f x) (h1:∀ x l i,r (x::l) (i+1)=r l i):∀ (l:List α) (i:Nat),i<l.length->r l i=f (l.getD i Nj)
 | [],i,h=>by simp at h
 | x::l,0,_=>h0 x l
 | x::l,i+1,h=>by
  rw [h1,row_in h0 h1 l i (by simpa using h)]
  rfl
theorem EqS.slr {α:Type} [Inhabited α] {f:α->List AV} {r:List α->Nat->List AV} (h0:∀ x l,r (x::l) 0=f x) (h1:∀ x l i,r (x::l) (i+1)=r l i) (l:List α):EqS (.sl l.length<|r l) (Go.Proofs.YtabfkkjdfhbngaaGreatDoor.eL f l):=
 .sl λi hi=>by rw [row_in h0 h1 l i hi];exact Bs.refl _
theorem EqS.slr' {α:Type} [Inhabited α] {f:α->List AV} {r:List α->Nat->List AV} (h0:∀ x l,r (x::l) 0=f x) (h1:∀ x l i,r (x::l) (i+1)=r l i) (l:List α):EqS (Go.Proofs.YtabfkkjdfhbngaaGreatDoor.eL f l) (.sl l.length<|r l):=
 .sl λi hi=>by rw [row_in h0 h1 l i hi];exact Bs.refl _
theorem zrC {a a':AV} {zs zr:List AV} (h:∀ (cx:Cx) (v:Value),cx.rel a v->cx.rel a' v) (t:ZrR zs zr):ZrR (a::zs) (a'::zr):=⟨by rw [llc,llc,t.1],λcx j b b' v hb hb' hr=>by
 match j with
 | 0=>
  obtain rfl:=osl hb;obtain rfl:=osl hb';exact h cx v hr
 | j+1=>exact t.2 cx j b b' v (by simpa using hb) (by simpa using hb') hr⟩
section
variable {P:Program} {ρ:Operand->AV} {x:Operand} {t e:TypeId} {ag:Bool}
theorem M0.slG {α:Type} [Inhabited α] {c:α->List AV} (l:List α) {n w:Nat} {row:List AV} (hu:P.underlying t=Nn (.array n e)) (ty:TyF P e ag w) (hx:ρ x = .fp row 0) (hl:l.length=n) (hn:(Pk n 16777216)=Nk) (hr:row.length=n*w/\∀ i,i<n->(row.drop<|i*w).take w=c (l.getD i Nj)) :
  M0 P ρ (.slice t x Np Np Np) (eL c l):=by
 have hn':=nlb hn;have key:M0 P ρ (.slice t x Np Np Np) (.sl n λi=>(row.drop<|0+i*w).take w) := .mk λK hK=>by
  show vI P ρ (.slice t x Np Np Np) K;simp only [vI,uL,hu,hx,Option.map_none];show (0<=(0:Int)/\(0:Int)<=(n:Int)/\(n:Int)<=(n:Int)/\0+n*P.cellsOf e<=row.length/\(P.info? e).isSome=Nk/\n<=9223372036854775807)/\_;rw [ty.cells];exact ⟨⟨by omega,by omega,by omega,by omega,ty.info,by omega⟩,hK⟩
 refine key.res λC v hv=>?_;unfold Go.Proofs.YtabfkkjdfhbngaaGreatDoor.eL;rw [hl];exact BO (λi hi=>by rw [PE];exact hr.2 i hi) hv
theorem M0.ldG {α:Type} [Inhabited α] {c:α->List AV} {l:List α} (a:AV) {row:List AV} {q:Nat} (tt:TyF P t ag 1) (hx:ρ x = .fp row (0+q*1)) (hr:∀ q,q<l.length->[row.getD q .top]=c (l.getD q Nj)/\q<row.length) (hq:q<l.length) (ha:c (l.getD q Nj)=[a]) (hag:ag=Nl):M0 P ρ (.load t x) a:=by
 subst hag;refine M0.loadfp a tt hx ?_;obtain ⟨h1,h2⟩:=hr q hq;show row[0+q*1]? = Nn a;rw [PE,Nat.mul_one,geq h2];rw [ha,gdq,geq h2] at h1;injection h1 with h1;exact congrArg Nn h1
end
section
variable {P:Program} {ρ:Operand->AV} {H:AH}
theorem M0.extB {cl:Call} {f x y:Operand} {g:FuncId} {fn:Func} {e:Array Value->Sem Value} {s:BA} {c n:Int} (hc:cl.callee = .value f) (hf:ρ f = .fn (.func g) []) (ha:cl.args = #[x,y]) (hx:ρ x=St s) (hy:ρ y=Y c)
  (h1 : P.funcs[g]? = some fn) (h2 : (fn.name == "runtime.NumGoroutine") = false) (h3 : fn.body.isNone = true) (h4 : Extern.findNext fn = none) (h5 : Extern.find fn = some e)
  (hr:∀ w:World,(e #[.string s,.int .u8 c]).run P w = .ok (.int .i64 n) w):M0 P ρ (.call cl) (I n):=λo ho G=>by
 intro C a K Q hH hrel hxs hK;have hf1:=hf ▸ hxs f (by rw [ho];simp [Op.operands,Call.operands,hc]);obtain ⟨vs,he,hl,_⟩:=xJ hf1;obtain rfl:vs = #[]:=by
  cases vs with
  | mk l=>cases l with
   | nil=>rfl
   | cons a l=>simp at hl
 have hx1:=hx ▸ hxs x (by rw [ho];simp [Op.operands,Call.operands,ha]);have hy1:=hy ▸ hxs y (by rw [ho];simp [Op.operands,Call.operands,ha]);obtain ⟨ex,_⟩:=eO hx1;obtain ⟨ey,_⟩:=eO hy1;have hrun:(execOp a.eval o).run P C.w = .ok (.value<|.int .i64 n) C.w:=by
  rw [execOp,ho];simp only [resolve,hc,he,Deferred.ofValue,Sem.run_bind,Sem.run_pure,Result.andThen_ok,invoke];have := run_callFunc_extern h1 h2 h3 h4 h5 (cl.args.map a.eval ++ #[]) C.w;have e2:cl.args.map a.eval ++ #[] = #[.string s,.int .u8 c]:=by rw [ha];simp [ex,ey]
  rw [e2] at this;rw [show #[]++Array.map a.eval cl.args ++ #[] = #[.string s,.int .u8 c] by rw [ha];simp [ex,ey],this,hr]
  rfl
 unfold Oper.wp;rw [hrun,Oper.upon_value];exact hK _ C hH hrel (Ext.refl C)<|.fr<|.v rfl
def LO (s:BA) (c:Int):Int:=((Lib.countByte s.data.toList c.toNat.toUInt8:Nat):Int)
def LP (s:BA) (c:Int):Int:=Lib.indexByte s.data.toList c.toNat.toUInt8
theorem M0.extCount {cl:Call} {f x y:Operand} {g:FuncId} {fn:Func} {s:BA} {c:Int} (hc:cl.callee = .value f) (hf:ρ f = .fn (.func g) []) (ha:cl.args = #[x,y]) (hx:ρ x=St s) (hy:ρ y=Y c)
  (h1 : P.funcs[g]? = some fn) (h2 : (fn.name == "runtime.NumGoroutine") = false) (h3 : fn.body.isNone = true) (h4 : Extern.findNext fn = none) (h5 : Extern.find fn = some Extern.BytealgCount.count) : M0 P ρ (.call cl) (I (LO s c)) :=
 M0.extB hc hf ha hx hy h1 h2 h3 h4 h5 λw=>Lib.run_countString s c w
theorem M0.extIndex {cl:Call} {f x y:Operand} {g:FuncId} {fn:Func} {s:BA} {c:Int} (hc:cl.callee = .value f) (hf:ρ f = .fn (.func g) []) (ha:cl.args = #[x,y]) (hx:ρ x=St s) (hy:ρ y=Y c)
  (h1 : P.funcs[g]? = some fn) (h2 : (fn.name == "runtime.NumGoroutine") = false) (h3 : fn.body.isNone = true) (h4 : Extern.findNext fn = none) (h5 : Extern.find fn = some Extern.BytealgIndexByte.indexByte) : M0 P ρ (.call cl) (I (LP s c)) :=
 M0.extB hc hf ha hx hy h1 h2 h3 h4 h5 λw=>Lib.run_indexByteString s c w
end
def zR:List BA:=[(⟨#[]⟩:BA),(⟨#[97,99,121,99,108,105,99]⟩:BA),(⟨#[105,114,114,101,102]⟩:BA),(⟨#[101,109,112,116,121]⟩:BA)]
def LB:List AV:=[St (⟨#[]⟩:BA),St (⟨#[97,99,121,99,108,105,99]⟩:BA),St (⟨#[105,114,114,101,102]⟩:BA),St (⟨#[101,109,112,116,121]⟩:BA)]
theorem Jz:∀ q,q<zR.length->[LB.getD q .top]=cS (zR.getD q Nj)/\q<LB.length
 | 0,_=>⟨rfl,by decide⟩
 | 1,_=>⟨rfl,by decide⟩
 | 2,_=>⟨rfl,by decide⟩
 | 3,_=>⟨rfl,by decide⟩
 | q+4,h=>absurd h (Nat.not_lt.2<|PT 4 q)
theorem HZ:LB.length=4*1/\∀ i,i<4->(LB.drop (i*1)).take 1=cS (zR.getD i Nj):=⟨rfl,λi h=>by
 match i,h with
 | 0,_=>rfl
 | 1,_=>rfl
 | 2,_=>rfl
 | 3,_=>rfl
 | q+4,h=>exact absurd h (Nat.not_lt.2 (PT 4 q))⟩
def DR:List BA:=[(⟨#[112,111]⟩:BA),(⟨#[108,111,99]⟩:BA),(⟨#[101,120,116]⟩:BA),(⟨#[114,102]⟩:BA),(⟨#[99,111]⟩:BA),(⟨#[102,114]⟩:BA),(⟨#[102,101,110,99,101]⟩:BA),(⟨#[119,114]⟩:BA),(⟨#[119,119]⟩:BA),(⟨#[105,100]⟩:BA)]
def Ms:List AV:=[St (⟨#[112,111]⟩:BA),St (⟨#[108,111,99]⟩:BA),St (⟨#[101,120,116]⟩:BA),St (⟨#[114,102]⟩:BA),St (⟨#[99,111]⟩:BA),St (⟨#[102,114]⟩:BA),St (⟨#[102,101,110,99,101]⟩:BA),St (⟨#[119,114]⟩:BA),St (⟨#[119,119]⟩:BA),St (⟨#[105,100]⟩:BA)]
theorem H3:Ms.length=10*1/\∀ i,i<10->(Ms.drop (i*1)).take 1=cS (DR.getD i Nj):=⟨rfl,λi h=>by
 match i,h with
 | 0,_=>rfl
 | 1,_=>rfl
 | 2,_=>rfl
 | 3,_=>rfl
 | 4,_=>rfl
 | 5,_=>rfl
 | 6,_=>rfl
 | 7,_=>rfl
 | 8,_=>rfl
 | 9,_=>rfl
 | q+10,h=>exact absurd h (Nat.not_lt.2 (PT 10 q))⟩
structure M5 where
 Op:Int
 Loc:Int
 Reg:Int
 Val:Int
instance:Inhabited M5:=⟨⟨Nj,Nj,Nj,Nj⟩⟩
def M5.c (x:M5):List AV:=[I x.Op,I x.Loc,I x.Reg,I x.Val]
theorem M5.len (x:M5):(M5.c x).length=4:=rfl
theorem M5.isF (x:M5):(M5.c x).all (isF 9)=Nk:=rfl
structure M6 where
 From:LI
 Order:LL
instance:Inhabited M6:=⟨⟨Nj,Nj⟩⟩
def M6.c (x:M6):List AV:=[eL cI x.From,eL (cL cI) x.Order]
theorem M6.len (x:M6):(M6.c x).length=2:=rfl
theorem M6.isF (x:M6):(M6.c x).all (isF 9)=Nk:=rfl
structure ZTv where
 p:List (List M5)
 x:M6
 number:LL
instance:Inhabited ZTv:=⟨⟨Nj,Nj,Nj⟩⟩
def ZTv.c (x:ZTv):List AV:=[eL (cL M5.c) x.p,eL cI x.x.From,eL (cL cI) x.x.Order,eL (cL cI) x.number]
theorem ZTv.len (x:ZTv):(ZTv.c x).length=4:=rfl
theorem ZTv.isF (x:ZTv):(ZTv.c x).all (isF 9)=Nk:=rfl
structure M7 where
 Thread:Int
 Index:Int
 Loc:Int
 Reads:Bool
 cu:Bool
instance:Inhabited M7:=⟨⟨Nj,Nj,Nj,Nj,Nj⟩⟩
def M7.c (x:M7):List AV:=[I x.Thread,I x.Index,I x.Loc,Bo x.Reads,Bo x.cu]
theorem M7.len (x:M7):(M7.c x).length=5:=rfl
theorem M7.isF (x:M7):(M7.c x).all (isF 9)=Nk:=rfl
structure aF where
 p:List (List M5)
 x:M6
 events:List M7
 values:LI
 busy:List Bool
structure XV_impl_valuer where
 p:List (List M5)
 x:M6
 events:List M7
instance:Inhabited XV_impl_valuer:=⟨⟨Nj,Nj,Nj⟩⟩
def XV_impl_valuer.c (x:XV_impl_valuer):List AV:=[eL (cL M5.c) x.p,eL cI x.x.From,eL (cL cI) x.x.Order,eL M7.c x.events]
theorem XV_impl_valuer.len (x:XV_impl_valuer):(XV_impl_valuer.c x).length=4:=rfl
theorem XV_impl_valuer.isF (x:XV_impl_valuer):(XV_impl_valuer.c x).all (isF 9)=Nk:=rfl
inductive ZTE where
 | mk (Op:Int) (Name:BA) (Kids:List ZTE)
structure ae where
 Op:Int
 Name:BA
 Kids:List ZTE
instance:Inhabited ZTE:=⟨.mk Nj Nj []⟩
instance:Inhabited ae:=⟨⟨Nj,Nj,[]⟩⟩
def ZTE.out:ZTE->ae
 | .mk a0 a1 a2=>⟨a0,a1,a2⟩
def ae.inn (x:ae):ZTE := .mk x.Op x.Name x.Kids
mutual
def ZTE.c:ZTE->List AV
 | .mk a0 a1 a2=>[I a0,St a1,.sl a2.length (ZTE.r a2)]
def ZTE.r:List ZTE->Nat->List AV
 | []=>λ_=>[.nil,.nil,.nil]
 | x::l=>λi=>match i with
  | 0=>ZTE.c x
  | i+1=>ZTE.r l i
end
theorem ZTE.len (x:ZTE):(ZTE.c x).length=3:=by
 cases x;simp only [ZTE.c];rfl
theorem ZTE.isF (x:ZTE):(ZTE.c x).all (isF 9)=Nk:=by
 cases x;simp only [ZTE.c];rfl
theorem ZTE.r0 (x:ZTE) (l:List ZTE):ZTE.r (x::l) 0=ZTE.c x:=by simp only [ZTE.r]
theorem ZTE.r1 (x:ZTE) (l:List ZTE) (i:Nat):ZTE.r (x::l) (i+1)=ZTE.r l i:=by simp only [ZTE.r]
def ae.c (x:ae):List AV:=[I x.Op,St x.Name,eL ZTE.c x.Kids]
theorem ae.len (x:ae):(ae.c x).length=3:=rfl
theorem ae.isF (x:ae):(ae.c x).all (isF 9)=Nk:=rfl
theorem ZTE.out_c (x:ZTE):Bs (ZTE.c x) (ae.c x.out):=by
 cases x;simp only [ZTE.c];exact ⟨EqS.refl _,⟨EqS.refl _,⟨EqS.slr ZTE.r0 ZTE.r1 _,trivial⟩⟩⟩
theorem ae.inn_c (x:ae):Bs (ae.c x) (ZTE.c x.inn):=by
 cases x;simp only [ae.inn,ZTE.c];exact ⟨EqS.refl _,⟨EqS.refl _,⟨EqS.slr' ZTE.r0 ZTE.r1 _,trivial⟩⟩⟩
structure ai where
 Kind:Int
 Expr:ae
instance:Inhabited ai:=⟨⟨Nj,Nj⟩⟩
def ai.c (x:ai):List AV:=[I x.Kind,I x.Expr.Op,St x.Expr.Name,eL ZTE.c x.Expr.Kids]
theorem ai.len (x:ai):(ai.c x).length=4:=rfl
theorem ai.isF (x:ai):(ai.c x).all (isF 9)=Nk:=rfl
structure Z3i where
 x0:Int
 x1:Int
 x2:Int
instance:Inhabited Z3i:=⟨⟨Nj,Nj,Nj⟩⟩
def Z3i.c (x:Z3i):List AV:=[I x.x0,I x.x1,I x.x2]
theorem Z3i.len (x:Z3i):(Z3i.c x).length=3:=rfl
theorem Z3i.isF (x:Z3i):(Z3i.c x).all (isF 9)=Nk:=rfl
def Z3i.get (a:Z3i) (q:Int):Int:=if q=0 then a.x0 else if q=1 then a.x1 else a.x2
def Z3i.set (a:Z3i) (q:Int) (v:Int):Z3i:=if q=0 then ⟨v,a.x1,a.x2⟩ else if q=1 then ⟨a.x0,v,a.x2⟩ else ⟨a.x0,a.x1,v⟩
structure ah where
 b:LI
 p:Int
instance:Inhabited ah:=⟨⟨Nj,Nj⟩⟩
def ah.c (x:ah):List AV:=[eL cY x.b,I x.p]
theorem ah.len (x:ah):(ah.c x).length=2:=rfl
theorem ah.isF (x:ah):(ah.c x).all (isF 9)=Nk:=rfl
structure aa where
 rest:BA
 failed:Bool
instance:Inhabited aa:=⟨⟨Nj,Nj⟩⟩
def aa.c (x:aa):List AV:=[St x.rest,Bo x.failed]
theorem aa.len (x:aa):(aa.c x).length=2:=rfl
theorem aa.isF (x:aa):(aa.c x).all (isF 9)=Nk:=rfl
structure Z3b where
 x0:Int
 x1:Int
 x2:Int
instance:Inhabited Z3b:=⟨⟨Nj,Nj,Nj⟩⟩
def Z3b.c (x:Z3b):List AV:=[Y x.x0,Y x.x1,Y x.x2]
theorem Z3b.len (x:Z3b):(Z3b.c x).length=3:=rfl
theorem Z3b.isF (x:Z3b):(Z3b.c x).all (isF 9)=Nk:=rfl
def Z3b.get (a:Z3b) (q:Int):Int:=if q=0 then a.x0 else if q=1 then a.x1 else a.x2
def Z3b.set (a:Z3b) (q:Int) (v:Int):Z3b:=if q=0 then ⟨v,a.x1,a.x2⟩ else if q=1 then ⟨a.x0,v,a.x2⟩ else ⟨a.x0,a.x1,v⟩
structure Z33 where
 x0:Z3b
 x1:Z3b
 x2:Z3b
instance:Inhabited Z33:=⟨⟨Nj,Nj,Nj⟩⟩
def Z33.c (x:Z33):List AV:=[Y x.x0.x0,Y x.x0.x1,Y x.x0.x2,Y x.x1.x0,Y x.x1.x1,Y x.x1.x2,Y x.x2.x0,Y x.x2.x1,Y x.x2.x2]
theorem Z33.len (x:Z33):(Z33.c x).length=9:=rfl
theorem Z33.isF (x:Z33):(Z33.c x).all (isF 9)=Nk:=rfl
def Z33.get (a:Z33) (q:Int):Z3b:=if q=0 then a.x0 else if q=1 then a.x1 else a.x2
def Z33.set (a:Z33) (q:Int) (v:Z3b):Z33:=if q=0 then ⟨v,a.x1,a.x2⟩ else if q=1 then ⟨a.x0,v,a.x2⟩ else ⟨a.x0,a.x1,v⟩
structure ZVa where
 p:List (List M5)
 pc:Z3b
 reg:Z33
 mem:Z3b
instance:Inhabited ZVa:=⟨⟨Nj,Nj,Nj,Nj⟩⟩
def ZVa.c (x:ZVa):List AV:=[eL (cL M5.c) x.p,Y x.pc.x0,Y x.pc.x1,Y x.pc.x2,Y x.reg.x0.x0,Y x.reg.x0.x1,Y x.reg.x0.x2,Y x.reg.x1.x0,Y x.reg.x1.x1,Y x.reg.x1.x2,Y x.reg.x2.x0,Y x.reg.x2.x1,Y x.reg.x2.x2,Y x.mem.x0,Y x.mem.x1,Y x.mem.x2]
theorem ZVa.len (x:ZVa):(ZVa.c x).length=16:=rfl
theorem ZVa.isF (x:ZVa):(ZVa.c x).all (isF 9)=Nk:=rfl
structure ZSq where
 values:ZVa
instance:Inhabited ZSq:=⟨⟨Nj⟩⟩
def ZSq.c (x:ZSq):List AV:=[eL (cL M5.c) x.values.p,Y x.values.pc.x0,Y x.values.pc.x1,Y x.values.pc.x2,Y x.values.reg.x0.x0,Y x.values.reg.x0.x1,Y x.values.reg.x0.x2,Y x.values.reg.x1.x0,Y x.values.reg.x1.x1,Y x.values.reg.x1.x2,Y x.values.reg.x2.x0,Y x.values.reg.x2.x1,Y x.values.reg.x2.x2,Y x.values.mem.x0,Y x.values.mem.x1,Y x.values.mem.x2]
theorem ZSq.len (x:ZSq):(ZSq.c x).length=16:=rfl
theorem ZSq.isF (x:ZSq):(ZSq.c x).all (isF 9)=Nk:=rfl
structure Xutf8_acceptRange where
 lo:Int
 hi:Int
instance:Inhabited Xutf8_acceptRange:=⟨⟨Nj,Nj⟩⟩
def Xutf8_acceptRange.c (x:Xutf8_acceptRange):List AV:=[Y x.lo,Y x.hi]
theorem Xutf8_acceptRange.len (x:Xutf8_acceptRange):(Xutf8_acceptRange.c x).length=2:=rfl
theorem Xutf8_acceptRange.isF (x:Xutf8_acceptRange):(Xutf8_acceptRange.c x).all (isF 9)=Nk:=rfl
def H4 (l:List BA) (sep:BA):BA:=⟨(Lib.join (l.map (·.data.toList)) sep.data.toList).toArray⟩
def m7 (l:List BA) (sep:BA):Option BA:=
 gd (Nq<|l.length<=140737488355328/\(H4 l sep).size<=140737488355328)<|Nn (H4 l sep)
def Blk (w:World) (g:Nat) (t:TypeId) (cs:Array Value):Prop:=w.heap[g]? = Nn (.cells cs t (0,0))
section
variable {w w':World} {g:Nat} {t:TypeId} {cs:Array Value}
theorem Blk.lt (h:Blk w g t cs):g<w.heap.size:=by
 rcases Pw g w.heap.size with hlt | hge
 ·exact hlt
 unfold Blk at h;rw [PU hge] at h;cases h
theorem Blk.cell (h:Blk w g t cs) (i:Nat):w.cell? ⟨g,i,Np⟩=cs[i]? := cell_of_row w g i cs t (0,0) h
theorem Blk.frozen (h:Blk w g t cs) (i:Nat):w.frozen? ⟨g,i,Np⟩=Nl:=by
 unfold Blk at h;simp [World.frozen?,h]
theorem Blk.new (w:World) (t:TypeId) (cs:Array Value):Blk (w.alloc<|.cells cs t) w.heap.size t cs:=heap_alloc_new w _
theorem Blk.at_ {n:Nat} (h:w.heap.size=n):Blk (w.alloc<|.cells cs t) n t cs:=h ▸ Blk.new _ _ _
theorem Blk.alloc (h:Blk w g t cs) (o:Obj):Blk (w.alloc o) g t cs:=(Below.heap_alloc w o g h.lt).trans h
theorem Blk.set_ (h:Blk w g t cs) (i:Nat) (u:Value):Blk (w.setCell ⟨g,i,Np⟩ u) g t (cs.setIfInBounds i u):=by
 unfold Blk at h ⊢;simp [World.setCell,Array.getElem?_modify,h]
theorem Blk.below {B:Nat} (h:Blk w g t cs) (hb:Below B w w') (hg:g<B):Blk w' g t cs:=(hb.block g hg).trans h
theorem Blk.inj {t':TypeId} {cs':Array Value} (h:Blk w g t cs) (h':Blk w g t' cs'):t=t'/\cs=cs':=by
 unfold Blk at h h';rw [h] at h';injection h' with h';injection h' with h1 h2;exact ⟨h2,h1⟩
end
structure Fr (lo hi:Nat) (w w':World):Prop where
 os:w'.os=w.os
 tape:w'.tape=w.tape
 output:w'.output=w.output
 size:w.heap.size<=w'.heap.size
 block:∀ k,k<w.heap.size->(k<lo\/hi<=k)->w'.heap[k]? = w.heap[k]?
section
variable {a w w':World} {lo hi l h B:Nat}
theorem Fr.refl (lo hi:Nat) (w:World):Fr lo hi w w:=⟨rfl,rfl,rfl,Pt _,λ_ _ _=>rfl⟩
theorem Fr.trans {b c:World} (h:Fr lo hi a b) (k:Fr lo hi b c):Fr lo hi a c:=
 ⟨k.os.trans h.os,k.tape.trans h.tape,k.output.trans h.output,Nat.le_trans h.size k.size,λi hi hn=>(k.block i (Nat.lt_of_lt_of_le hi h.size) hn).trans<|h.block i hi hn⟩
theorem Fr.mono (f:Fr lo hi w w') (h1:l<=lo) (h2:hi<=h):Fr l h w w':=
 ⟨f.os,f.tape,f.output,f.size,λk hk hn=>f.block k hk<|by omega⟩
theorem Fr.alloc (f:Fr lo hi a w) (o:Obj):Fr lo hi a (w.alloc o):=
 f.trans ⟨rfl,rfl,rfl,by simp,λk hk _=>Below.heap_alloc _ _ _ hk⟩
theorem Blk.fr {g:Nat} {t:TypeId} {cs:Array Value} (b:Blk w g t cs) (f:Fr lo hi w w') (hg:g<lo\/hi<=g):Blk w' g t cs:=(f.block g b.lt hg).trans b
theorem Fr.cell (f:Fr lo hi w w') {p:Addr} (hp:p.block<w.heap.size) (hn:p.block<lo\/hi<=p.block):w'.cell? p=w.cell? p:=World.cell?_of_block (w:=w)<|f.block p.block hp hn
end
section
variable {α:Type} (f:α->List Value) (s:Nat)
def Sl (w:World) (lo hi:Nat) (v:Value) (xs:List α):Prop:=
 ∃ A c,v = .slice A xs.length c/\xs.length<=c/\c<=9223372036854775807/\(0<xs.length->∃ b o,A=Nn ⟨b,o,Np⟩/\lo<=b/\b<hi/\b<w.heap.size /\
  ∀ (k:Nat) (h:k<xs.length) (j:Nat) (u:Value),(f xs[k])[j]? = Nn u->w.cell? ⟨b,o+k*s+j,Np⟩=Nn u)
def Ow (t:TypeId) (w:World) (lo hi:Nat) (v:Value) (xs:List α):Prop:=
 ∃ A c,v = .slice A xs.length c/\xs.length<=c/\c<=9223372036854775807/\(0<xs.length->∃ g cur,A=Nn ⟨g,0,Np⟩/\lo<=g/\g<hi/\Blk w g t cur/\cur.size=c*s /\
  ∀ (k:Nat) (h:k<xs.length) (j:Nat) (u:Value),(f xs[k])[j]? = Nn u->cur[k*s+j]? = Nn u)
end
section
variable {α:Type} {f:α->List Value} {s:Nat} {t:TypeId} {w w':World} {lo hi l h B:Nat} {v:Value} {xs:List α}
theorem Sl.nil_ (c:Nat) (A:Option Addr) (hc:c<=9223372036854775807):Sl f s w lo hi (.slice A 0 c) []:=⟨A,c,rfl,by simp,hc,λh=>absurd h<|by simp⟩
theorem Ow.nil_ (c:Nat) (A:Option Addr) (hc:c<=9223372036854775807):Ow f s t w lo hi (.slice A 0 c) []:=⟨A,c,rfl,by simp,hc,λh=>absurd h<|by simp⟩
theorem Sl.mono (x:Sl f s w lo hi v xs) (h1:l<=lo) (h2:hi<=h):Sl f s w l h v xs:=by
 obtain ⟨A,c,e,hc,hm,r⟩:=x;refine ⟨A,c,e,hc,hm,λhn=>?_⟩;obtain ⟨b,o,e2,hb1,hb2,hb3,hx⟩:=r hn;exact ⟨b,o,e2,by omega,by omega,hb3,hx⟩
theorem Ow.mono (x:Ow f s t w lo hi v xs) (h1:l<=lo) (h2:hi<=h):Ow f s t w l h v xs:=by
 obtain ⟨A,c,e,hc,hm,r⟩:=x;refine ⟨A,c,e,hc,hm,λhn=>?_⟩;obtain ⟨b,o,e2,hb1,hb2,hx⟩:=r hn;exact ⟨b,o,e2,by omega,by omega,hx⟩
theorem Sl.keep (x:Sl f s w lo hi v xs) (hs:w.heap.size<=w'.heap.size) (hk:∀ k,k<w.heap.size->lo<=k->k<hi->w'.heap[k]? = w.heap[k]?):Sl f s w' lo hi v xs:=by
 obtain ⟨A,c,e,hc,hm,r⟩:=x;refine ⟨A,c,e,hc,hm,λhn=>?_⟩;obtain ⟨b,o,e2,hb1,hb2,hb3,hx⟩:=r hn;refine ⟨b,o,e2,hb1,hb2,by omega,λk hk' j u hu=>?_⟩;rw [World.cell?_of_block (hk b hb3 hb1 hb2)];exact hx k hk' j u hu
theorem Ow.keep (x:Ow f s t w lo hi v xs) (hk:∀ k,k<w.heap.size->lo<=k->k<hi->w'.heap[k]? = w.heap[k]?):Ow f s t w' lo hi v xs:=by
 obtain ⟨A,c,e,hc,hm,r⟩:=x;refine ⟨A,c,e,hc,hm,λhn=>?_⟩;obtain ⟨g,cur,e2,hb1,hb2,hb3,hx⟩:=r hn;exact ⟨g,cur,e2,hb1,hb2,(hk g hb3.lt hb1 hb2).trans hb3,hx⟩
theorem Sl.fr (x:Sl f s w lo hi v xs) (b:Fr l h w w') (hB:hi<=l\/h<=lo):Sl f s w' lo hi v xs:=x.keep b.size λk hk h1 h2=>b.block k hk (by omega)
theorem Ow.fr (x:Ow f s t w lo hi v xs) (b:Fr l h w w') (hB:hi<=l\/h<=lo):Ow f s t w' lo hi v xs:=x.keep λk hk h1 h2=>b.block k hk (by omega)
theorem Ow.sl (x:Ow f s t w lo hi v xs):Sl f s w lo hi v xs:=by
 obtain ⟨A,c,e,hc,hm,r⟩:=x;refine ⟨A,c,e,hc,hm,λhn=>?_⟩;obtain ⟨g,cur,e2,hb1,hb2,hb3,_,hx⟩:=r hn;refine ⟨g,0,e2,hb1,hb2,hb3.lt,λk hk j u hu=>?_⟩;rw [PE,hb3.cell];exact hx k hk j u hu
end
def KD (v:Value):List Value:=[v]
def EG (n:Int):List Value:=[.int .u8 n]
section
variable {α:Type} {g:α->Value} {f:α->List Value} {s:Nat} {w:World} {lo hi:Nat} {v:Value}
theorem Sl.one_ {xs:List α} (hf:∀ x,f x=[g x]) (x:Sl f 1 w lo hi v xs):∃ A c,v = .slice A xs.length c/\xs.length<=c/\c<=9223372036854775807/\(0<xs.length->∃ b o,A=Nn ⟨b,o,Np⟩/\lo<=b/\b<hi/\b<w.heap.size /\
  ∀ (k:Nat) (h:k<xs.length),w.cell? ⟨b,o+k,Np⟩=Nn (g xs[k])):=by
 obtain ⟨A,c,e,hc,hm,r⟩:=x;refine ⟨A,c,e,hc,hm,λhn=>?_⟩;obtain ⟨b,o,e2,hb1,hb2,hb3,hx⟩:=r hn;refine ⟨b,o,e2,hb1,hb2,hb3,λk hk=>?_⟩;have := hx k hk 0 (g xs[k]) (by rw [hf];rfl);simpa using this
theorem Sl.vals {xs:List Value} (x:Sl KD 1 w lo hi v xs):∃ A c,v = .slice A xs.length c/\xs.length<=c/\c<=9223372036854775807/\(0<xs.length->∃ b o,A=Nn ⟨b,o,Np⟩/\lo<=b/\b<hi/\b<w.heap.size /\
 ∀ (k:Nat) (h:k<xs.length),w.cell? ⟨b,o+k,Np⟩=Nn xs[k]):=Sl.one_ (g:=λv=>v) (λ_=>rfl) x
end
structure Ins where
 op:Int
 loc:Int
 reg:Int
 val:Int
 deriving DecidableEq,Inhabited
def Ins.v (x:Ins):Value := .agg #[.int .i64 x.op,.int .i64 x.loc,.int .i64 x.reg,.int .i64 x.val]
def Ins.cells (x:Ins):List Value:=[.int .i64 x.op,.int .i64 x.loc,.int .i64 x.reg,.int .i64 x.val]
def FY (w:World) (b o:Nat) (x:Ins):Prop:=
 w.cell? ⟨b,o,Np⟩=Nn (.int .i64 x.op)/\w.cell? ⟨b,o+1,Np⟩=Nn (.int .i64 x.loc)/\w.cell? ⟨b,o+2,Np⟩=Nn (.int .i64 x.reg)/\w.cell? ⟨b,o+3,Np⟩=Nn (.int .i64 x.val)
def BS (cs:Array Value) (o:Nat) (x:Ins):Prop:=cs[o]? = Nn (.int .i64 x.op)/\cs[o+1]? = Nn (.int .i64 x.loc)/\cs[o+2]? = Nn (.int .i64 x.reg)/\cs[o+3]? = Nn (.int .i64 x.val)
def IX (cs:Array Value) (o:Nat) (x:Ins):Array Value:=(((cs.setIfInBounds o<|.int .i64 x.op).setIfInBounds (o+1)<|.int .i64 x.loc).setIfInBounds (o+2)<|.int .i64 x.reg).setIfInBounds (o+3)<|.int .i64 x.val
section
variable {w w':World} {b o p:Nat} {x y:Ins} {cs:Array Value} {t:TypeId} {g B lo hi:Nat} {v:Value} {xs:List Ins}
theorem FY.below (h:FY w b o x) (hb:Below B w w') (hlt:b<B):FY w' b o x:=by
 unfold FY at *;rw [hb.cell (by exact hlt),hb.cell (by exact hlt),hb.cell (by exact hlt),hb.cell (by exact hlt)];exact h
theorem BS.same (h:o+4<=cs.size):BS (IX cs o x) o x:=by
 unfold BS IX;refine ⟨?_,?_,?_,?_⟩ <;> simp [Array.getElem?_setIfInBounds] <;> omega
theorem BS.cells {k:Nat} (h:BS cs k x):∀ (j:Nat) (u:Value),x.cells[j]? = Nn u->cs[k+j]? = Nn u:=by
 intro j u hu
 match j,hu with
 | 0,hu=>simp [Ins.cells] at hu;subst hu;exact h.1
 | 1,hu=>simp [Ins.cells] at hu;subst hu;exact h.2.1
 | 2,hu=>simp [Ins.cells] at hu;subst hu;exact h.2.2.1
 | 3,hu=>simp [Ins.cells] at hu;subst hu;exact h.2.2.2
 | n+4,hu=>simp [Ins.cells] at hu
theorem Sl.inss (x:Sl Ins.cells 4 w lo hi v xs):∃ A c,v = .slice A xs.length c/\xs.length<=c/\c<=9223372036854775807/\(0<xs.length->∃ b o,A=Nn ⟨b,o,Np⟩/\lo<=b/\b<hi/\b<w.heap.size /\
  ∀ (k:Nat) (h:k<xs.length),FY w b (o+k*4) xs[k]):=by
 obtain ⟨A,c,e,hc,hm,r⟩:=x;refine ⟨A,c,e,hc,hm,λhn=>?_⟩;obtain ⟨b,o,e2,hb1,hb2,hb3,hx⟩:=r hn;exact ⟨b,o,e2,hb1,hb2,hb3,λk hk=>⟨hx k hk 0 _ rfl,hx k hk 1 _ rfl,hx k hk 2 _ rfl,hx k hk 3 _ rfl⟩⟩
end
section
variable {α:Type} (f:α->List Value) (s:Nat)
def xS (w:World) (lo hi:Nat) (v:Value) (p:List<|List α):Prop:=
 ∃ vs:List Value,Sl KD 1 w lo hi v vs/\vs.length=p.length/\∀ (k:Nat) (h:k<vs.length) (h':k<p.length),Sl f s w lo hi vs[k] p[k]
def EH (to ti:TypeId) (w:World) (lo hi:Nat) (v:Value) (p:List<|List α):Prop:=
 ∃ vs:List Value,Ow KD 1 to w lo hi v vs/\vs.length=p.length/\(∀ (k:Nat) (h:k<vs.length) (h':k<p.length),Ow f s ti w lo hi vs[k] p[k]) /\
  ∀ (i j:Nat) (hi:i<vs.length) (hj:j<vs.length) (hi':i<p.length) (hj':j<p.length),i≠j->0<p[i].length->0<p[j].length->vs[i].ownBlock≠vs[j].ownBlock
end
section
variable {α:Type} {f:α->List Value} {s:Nat} {to ti:TypeId} {w w':World} {lo hi l h B:Nat} {v:Value} {p:List (List α)}
theorem xS.keep (x:xS f s w lo hi v p) (hs:w.heap.size<=w'.heap.size) (hk:∀ k,k<w.heap.size->lo<=k->k<hi->w'.heap[k]? = w.heap[k]?):xS f s w' lo hi v p:=by
 obtain ⟨vs,h1,h2,h3⟩:=x;exact ⟨vs,h1.keep hs hk,h2,λk a b=>(h3 k a b).keep hs hk⟩
theorem EH.keep (x:EH f s to ti w lo hi v p) (hk:∀ k,k<w.heap.size->lo<=k->k<hi->w'.heap[k]? = w.heap[k]?):EH f s to ti w' lo hi v p:=by
 obtain ⟨vs,h1,h2,h3,h4⟩:=x;exact ⟨vs,h1.keep hk,h2,λk a b=>(h3 k a b).keep hk,h4⟩
theorem xS.mono (x:xS f s w lo hi v p) (h1:l<=lo) (h2:hi<=h):xS f s w l h v p:=by
 obtain ⟨vs,g1,g2,g3⟩:=x;exact ⟨vs,g1.mono h1 h2,g2,λk a b=>(g3 k a b).mono h1 h2⟩
theorem EH.mono (x:EH f s to ti w lo hi v p) (h1:l<=lo) (h2:hi<=h):EH f s to ti w l h v p:=by
 obtain ⟨vs,g1,g2,g3,g4⟩:=x;exact ⟨vs,g1.mono h1 h2,g2,λk a b=>(g3 k a b).mono h1 h2,g4⟩
theorem xS.below (x:xS f s w lo hi v p) (b:Below B w w') (hB:hi<=B):xS f s w' lo hi v p:=x.keep b.size λk _ _ h2=>b.block k (by omega)
theorem xS.fr (x:xS f s w lo hi v p) (b:Fr l h w w') (hB:hi<=l\/h<=lo):xS f s w' lo hi v p:=x.keep b.size λk hk h1 h2=>b.block k hk (by omega)
theorem EH.fr (x:EH f s to ti w lo hi v p) (b:Fr l h w w') (hB:hi<=l\/h<=lo):EH f s to ti w' lo hi v p:=x.keep λk hk h1 h2=>b.block k hk (by omega)
theorem EH.sl (x:EH f s to ti w lo hi v p):xS f s w lo hi v p:=by
 obtain ⟨vs,h1,h2,h3,_⟩:=x;exact ⟨vs,h1.sl,h2,λk a b=>(h3 k a b).sl⟩
end
theorem rP {α:Type} (xs:List α) (k:Nat) (h:k<xs.length):xs.take (k+1)=xs.take k++[xs[k]]:=by
 rw [List.take_succ_eq_append_getElem h]
theorem aW {a b:Bool} (h:a=b):Ending.returned (.bool a)=Ending.returned (.bool b):=by rw [h]
theorem zb {k:IntKind} {a b:Int} (h:a=b):Ending.returned (.int k a) = .returned (.int k b):=by rw [h]
open Go.ChangeShapes Go.WideShapes Go.ChangeAt Go.RowKit

def total {α:Type} (p:List<|List α):Nat:=(p.map List.length).sum
theorem ze {α:Type} (p:List<|List α) (k:Nat) (h:k<p.length):total (p.take<|k+1)=total (p.take k)+p[k].length:=by
 unfold total;rw [rP _ _ h,List.map_append,List.sum_append];simp
theorem A7 {α:Type} (p:List<|List α) (k:Nat):total (p.take k)<=total p:=by
 unfold total
 conv=>rhs;rw [<- List.take_append_drop k p,List.map_append,List.sum_append]
 omega
section
variable {α:Type} {f:α->List Value} {s:Nat} {t:TypeId} {w w':World} {lo hi:Nat} {v:Value} {xs:List α} {row:Option Nat}
theorem Ow.block (x:Ow f s t w lo hi v xs) (hn:0<xs.length):∃ g cur,v.ownBlock=Nn g/\lo<=g/\g<hi/\Blk w g t cur:=by
 obtain ⟨A,c,rfl,hc,hm,r⟩:=x;obtain ⟨g,cur,rfl,hb1,hb2,hb3,hx⟩:=r hn;exact ⟨g,cur,rfl,hb1,hb2,hb3⟩
end
theorem wY (b o j:Nat):(⟨b,o,Np⟩:Addr).add j=⟨b,o+j,Np⟩:=by
 unfold Addr.add
 by_cases h:j=0 <;> simp [h]
section
variable {α:Type} {f:α->List Value} {s:Nat} {t:TypeId} {w w':World} {lo hi:Nat} {v:Value} {xs:List α}
theorem flat_get (hf:∀ x,(f x).length=s) (xs:List α) (k:Nat) (h:k<xs.length) (j:Nat) (hj:j<s):(xs.flatMap f)[k*s+j]? = (f xs[k])[j]? := by
 induction xs generalizing k with
 | nil=>simp at h
 | cons x r ih=>
  rw [List.flatMap_cons]
  match k,h with
  | 0,_=>
   rw [gal (by rw [hf];omega)];simp
  | k+1,h=>
   have h2:k<r.length:=by simpa using h
   rw [gar (by rw [hf,Pi];omega)];have := ih k h2;rw [hf,show (k+1)*s+j-s=k*s+j from by rw [Pi];omega];simpa using this
theorem DT (hf:∀ x,(f x).length=s) (xs:List α):(xs.flatMap f).length=xs.length*s:=by
 induction xs with
 | nil=>simp
 | cons x r ih=>rw [List.flatMap_cons,lla,hf,ih,llc,Pi];omega
theorem EI (hs:0<s) {n q:Nat} (h:q<n*s):q / s<n/\q % s<s/\q=q / s*s+q % s:=
 ⟨(Nat.div_lt_iff_lt_mul hs).2 h,Nat.mod_lt _ hs,by rw [Pq];exact (Nat.div_add_mod q s).symm⟩
theorem Ow.row (hf:∀ x,(f x).length=s) (hs:0<s) (h:Ow f s t w lo hi v xs) (hn:0<xs.length):w.ownsRow lo t s v xs.length (xs.flatMap f):=by
 obtain ⟨A,c,rfl,hc,hm,r⟩:=h;obtain ⟨g,cur,rfl,hg1,hg2,hB,hsz,hx⟩:=r hn;refine ⟨DT hf xs,.inr ⟨g,c,cur,rfl,hg1,hB,hc,by simp only [maxLen];omega,hsz,?_⟩⟩;have hle:xs.length*s<=c*s:=Pm s hc;apply Py;intro q
 by_cases hq:q<xs.length*s
 ·obtain ⟨h1,h2,h3⟩:=EI hs hq;rw [Pn,if_pos hq];have hlt:q % s<(f xs[q / s]).length:=by rw [hf];exact h2
  have := hx _ h1 _ _<|geq hlt;rw [<- h3] at this;rw [Ps,this,<- geq hlt,<- flat_get hf xs _ h1 _ h2,<- h3]
 rw [gen (Nat.le_trans (List.length_take_le _ _)<|by omega),gen (by rw [DT hf];omega)]
end
theorem eZ (x lo hi:Int) (b:Bool) (hb:(Nq (lo<=x)&&Nq (x<=hi))=b) (w:World) :
  Calls Nr 77 #[.int .i64 x,.int .i64 lo,.int .i64 hi] w λe w'=>e = .returned (.bool b)/\w=w':=by
 subst hb
 by_cases h1:lo<=x
 ·by_cases h2:x<=hi
  ·go_enter func77,Tryz.ntmps77
   go_wp2
   all_goals (go_ret;exact ⟨aW (by simp [h1,h2]),rfl⟩)
  go_enter func77,Tryz.ntmps77
  go_wp2
  all_goals (go_ret;exact ⟨aW (by simp;omega),rfl⟩)
 go_enter func77,Tryz.ntmps77
 go_wp2
 all_goals (go_ret;exact ⟨aW (by simp;omega),rfl⟩)
theorem EH.nil_ {α:Type} {f:α->List Value} {s:Nat} {to ti:TypeId} {w:World} {lo hi:Nat} (A:Option Addr) (c:Nat) (hc:c<=9223372036854775807):EH f s to ti w lo hi (.slice A 0 c) []:=
 ⟨[],⟨A,c,rfl,by simp,hc,λh=>absurd h<|by simp⟩,rfl,λk h=>absurd h (by simp),λi j h=>absurd h<|by simp⟩
def pI (x:M5):Ins:=⟨x.Op,x.Loc,x.Reg,x.Val⟩
theorem BU {α β:Type} (e:α->β) (p:List<|List α):total (p.map λr=>r.map e)=total p:=by
 unfold total;rw [List.map_map]
 congr 1
 exact P5 λr _=>llm _
end
end Go.Proofs.YtabfkkjdfhbngaaGreatDoor
