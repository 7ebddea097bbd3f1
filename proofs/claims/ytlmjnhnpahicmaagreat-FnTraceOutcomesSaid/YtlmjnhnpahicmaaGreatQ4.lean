/- Texts joined. No conditions. -/
import Derived.Below
import Derived.Laws.OwnMore
import Derived.Deep.Draws
import Derived.Laws.Rows
import Derived.Laws.MakeOwn
import Derived.Laws.Entries
import Derived.Lib.Hide
import Derived.Test.YtlmjnhnpahicmaaGreatRows
import Derived.WalkKit
import Derived.ProofKit
import Derived.Deep.RegionHeld3
import Derived.Deep.DrawnRows
import Derived.Maps.AppendAt
import Derived.Deep.AppendLies
import Derived.RegionTactic
import Derived.OwnWalk
import Derived.Outline
import Derived.Deep.RegionLaw
import Derived.Test.YtlmjnhnpahicmaaGreatQ3
namespace Go.Proofs.YtlmjnhnpahicmaaGreat
noncomputable section
open Go.RowKit
set_option maxRecDepth 100000
section
variable {P:Program} {o:Oper} {ρ:Operand->AV} {H:AH} {x y:Operand} {t e:TypeId}
theorem wK {lo co:Operand} {l k:Int} {z:Value} (ho:o.op = .makeSlice t lo co) (ht:P.underlying t=some (.slice e)) (hlo:ρ lo = .v (.int .i64 l)) (hco:ρ co = .v (.int .i64 k)) (hz:(P.info? e).bind (·.zero)=some z)
  (h0:0<=l) (h1:l<=k) (hb:k*(P.bytesOf e:Int)<=140737488355328) (hk:k<=140737488355328) (hs:0<P.cellsOf e) (hzs:(cm z).length=P.cellsOf e) (hz1:jE z.cells=true) :
  DX P o ρ H ⟨0,P.cellsOf e,e,List.replicate k.toNat (cm z)⟩ (.hs H.length 0 (P.cellsOf e) 0 l.toNat):=by
 cases hi:P.info? e with
 | none=>rw [hi] at hz;cases hz
 | some i=>
  simp only [hi,Option.bind_some] at hz;have hby:P.bytesOf e=i.bytes:=by simp [Program.bytesOf,hi]
  have hce:P.cellsOf e=i.size:=by simp [Program.cellsOf,hi]
  have hzsz:z.cells.size=P.cellsOf e:=by simpa [cm] using hzs
  refine fun c a hH hr hx=>?_;have hl1:=(dR (hlo ▸ hx lo (by rw [ho];simp [Op.operands]))).1;have hk1:=(dR (hco ▸ hx co (by rw [ho];simp [Op.operands]))).1;have hzc:=mh c hz1;have hsize:(sizeOf e).run P c.w = .ok (P.cellsOf e) c.w:=run_sizeOf c.w hi;have hzero:(zeroValue e).run P c.w = .ok z c.w:=by simp [zeroValue,typeInfo,hi,hz]
  refine ⟨(Array.range (k.toNat*P.cellsOf e)).map (z.cells[· % z.cells.size]!),.slice (some ⟨c.w.heap.size,0,none⟩) l.toNat k.toNat,?_,Cx.new_rel hr _ _ hs (by simp) (fun q row h=>?_) (fun q row j a' h1' h2=>?_),?_⟩
  ·rw [execOp,ho];refine (?_:Sem.run P _ c.w=_);have hneg : ¬ ((((decide (k<0)||decide (i.bytes*k>2 ^ 48))||decide (l<0))||decide (l>k))=true):=by
    simp only [Bool.or_eq_true,decide_eq_true_eq,not_or];rw [hby,Int.mul_comm] at hb;omega
   have : (Instr.makeSlice t (a.eval lo) (a.eval co)).run P c.w = .ok (.slice (some ⟨c.w.heap.size,0,none⟩) l.toNat k.toNat) (c.w.alloc (.cells ((Array.range (k.toNat*P.cellsOf e)).map (z.cells[· % z.cells.size]!)) e)):=by
    rw [hl1,hk1];simp only [Instr.makeSlice,Sem.run_bind,ai ht,Result.andThen_ok,asInt,asIntOf,Sem.run_pure,run_typeInfo c.w hi,yg (n:=l) h0 (by omega),yg (n:=k) (by omega) (by omega)];rw [if_neg hneg];simp only [Sem.run_bind,run_askRoom,Result.andThen_ok,hsize]
    by_cases h00:k.toNat*P.cellsOf e=0
    ·rw [if_pos h00,h00];have h00':∀ f:Nat->Value,Array.map f (Array.range 0) = #[]:=fun f=>Array.eq_empty_of_size_eq_zero (by simp);simp [newRow,h00']
    ·rw [if_neg h00];simp [hzero,newRow]
   simp only [Sem.run_bind,this,Result.andThen_ok,Sem.run_pure]
   rfl
  ·have := List.mem_of_getElem? h;rw [List.mem_replicate] at this;rw [this.2];exact hzs
  ·have hq:q<k.toNat:=by
    have := (ges h1').1;simpa using this
   have := List.mem_of_getElem? h1';rw [List.mem_replicate] at this;rw [this.2] at h2;have hj:j<P.cellsOf e:=by
    have := (ges h2).1;omega
   have hfit:q*P.cellsOf e+j<k.toNat*P.cellsOf e:=by
    have : (q+1)*P.cellsOf e<=k.toNat*P.cellsOf e:=Nat.mul_le_mul_right _ (by omega);rw [Nat.add_mul] at this;omega
   simp only;rw [uz _ _ _ hfit (by omega),hzsz,Nat.mul_comm,Nat.mul_add_mod,Nat.mod_eq_of_lt hj];exact hzc.get h2
  ·subst hH;have := Cx.new_hs c ⟨0,P.cellsOf e,e,List.replicate k.toNat (cm z)⟩ ((Array.range (k.toNat*P.cellsOf e)).map (z.cells[· % z.cells.size]!)) (n:=l.toNat) (cap:=k.toNat) (by simp;omega) (by omega) (by omega) (by simp);exact this
theorem ID {ag:Bool} {w m:Nat} {zs:List AV} {a b:Int} (q:SlT P t e ag w zs m) (ho:o.op = .makeSlice t x y) (hx:ρ x = .v (.int .i64 a)) (hy:ρ y = .v (.int .i64 b)) (hq:0<=a/\a<=b/\b*(m:Int)<=140737488355328/\b<=140737488355328) :
  DX P o ρ H ⟨0,w,e,List.replicate b.toNat zs⟩ (.hs H.length 0 w 0 a.toNat):=by
 have hz:=q.z.z;have h1:=q.z.one
 cases hb:(P.info? e).bind (·.zero) with
 | none=>rw [hb] at hz;cases hz
 | some z=>
  rw [hb] at hz h1;simp only [Option.map_some,Option.some.injEq] at hz h1;have h:=wK (P:=P) (o:=o) (ρ:=ρ) (H:=H) ho q.u hx hy hb hq.1 hq.2.1 (by rw [q.by_];exact hq.2.2.1) hq.2.2.2 (by rw [q.ty.cells];exact nlb q.pos) (by rw [hz,q.ty.cells];exact q.zl) h1;rw [hz,q.ty.cells] at h;exact h
end
section
variable {P:Program}
inductive Lies (G:AH):List Nat->AH->Prop
 | nil:Lies G [] []
 | cons {b:Nat} {k:ABlk} {bs:List Nat} {K:AH} (h:G[b]? = some (some k)) (hk:pQ k) (t:Lies G bs K):Lies G (b::bs) (some k::K)
theorem Lies.spec {G:AH} {bs:List Nat} {K:AH} (h:Lies G bs K):bs.length=K.length/\∀ (j b:Nat),bs[j]? = some b->∃ k,pQ k/\G[b]? = some (some k)/\K[j]? = some (some k):=by
 induction h with
 | nil=>exact ⟨rfl,fun j b h=>by simp at h⟩
 | @cons b k bs K h hk t ih=>
  refine ⟨by simp [ih.1],fun j c hc=>?_⟩
  match j with
  | 0=>
   obtain rfl:=osl hc;exact ⟨k,hk,h,rfl⟩
  | j+1=>exact ih.2 j c hc
inductive RowsF:AH->Prop
 | nil:RowsF []
 | cons {k:ABlk} {K:AH} (hk:pQ k) (t:RowsF K):RowsF (some k::K)
theorem RowsF.spec {K:AH} (h:RowsF K):∀ (j:Nat) (k:ABlk),K[j]? = some (some k)->pQ k:=by
 induction h with
 | nil=>intro j k h;simp at h
 | cons hk t ih=>
  intro j k h
  match j with
  | 0=>
   obtain rfl:=osl (osl h);exact hk
  | j+1=>exact ih j k h
end
def HQ (ops:Array Oper):Nat->Nat->Nat->Bool
 | 0,_,_=>false
 | n+1,j,i=>match ops[j]? with
  | some oj=>oj.after.any fun ed=>Region.binds .any ed&&(ed.on==i||HQ ops n ed.on i)
  | none=>false
def ClL (ops:Array Oper) (listed:Array Bool):Prop:=∀ (j:Nat) (oj:Oper),ops[j]? = some oj->listed.getD j false=true->∀ ed∈oj.after,Region.binds .any ed=true->listed.getD ed.on false=true
theorem Ew {listed:Array Bool} {i j:Nat} (h:listed.getD i false=true):(listed.setIfInBounds j true).getD i false=true:=by
 by_cases e:j=i
 ·subst e;rcases Nat.lt_or_ge j listed.size with h' | h'
  ·simp [h']
  ·simp [Array.getElem?_eq_none h'] at h
 ·simpa [Array.getElem?_setIfInBounds_ne e] using h
theorem ClL.up {ops:Array Oper} {listed:Array Bool} {j:Nat} (h:ClL ops listed) (hj:j∈Region.ready .any ops listed):ClL ops (listed.setIfInBounds j true):=by
 intro i oi hoi hl ed he hb
 by_cases e:j=i
 ·subst e;obtain ⟨_,oj,hoj,hall⟩:=mem_ready.1 hj;rw [hoi] at hoj;injection hoj with hoj;subst hoj;exact Ew (hall ed he hb)
 ·refine Ew (h i oi hoi ?_ ed he hb);simpa [Array.getElem?_setIfInBounds_ne e] using hl
theorem xj {ops:Array Oper} {listed:Array Bool} {i:Nat} (h:ClL ops listed) (hi:listed.getD i true=false):∀ (n j:Nat),(∀ oj,ops[j]? = some oj->∀ ed∈oj.after,Region.binds .any ed=true->listed.getD ed.on false=true)->HQ ops n j i=false
 | 0,_,_=>rfl
 | n+1,j,hj=>by
  unfold HQ
  split
  ·rename_i oj hoj;rw [Bool.eq_false_iff];intro hany;rw [Array.any_eq_true'] at hany;obtain ⟨ed,h1,h2⟩:=hany;simp only [bae,Bool.or_eq_true,beq_iff_eq] at h2;have hl:=hj oj hoj ed h1 h2.1;rcases h2.2 with h3 | h3
   ·rw [h3] at hl;rcases Nat.lt_or_ge i listed.size with h' | h'
    ·simp [h'] at hl hi;rw [hi] at hl;cases hl
    ·simp [Array.getElem?_eq_none h'] at hl
   ·rw [xj h hi n ed.on fun oj' hoj'=>h ed.on oj' hoj' hl] at h3
    cases h3
  ·rfl
section
variable {P:Program}
theorem AQ {ops:Array Oper} {fp:Nat->Fp} {Q:Env->AH->Prop} {i n:Nat} {oi:Oper} {r:AV} (hi:ops[i]? = some oi) :
  ∀ (fuel:Nat) (listed:Array Bool) (e:Env) (H Hi:AH),ClL ops listed ->
   (∀ (j:Nat) (oj:Oper),ops[j]? = some oj->j≠i->listed.getD j true=false->HQ ops (n+1) j i=false->oi.apart ops oj=true/\kv (fp i) (fp j)=true) ->
   i∈Region.ready .any ops listed->lw P oi (rho e) H r Hi (fp i).1->((fp i).2=false->Hi=H)->Gb P ops fp Q fuel (listed.setIfInBounds i true) (jH e oi.dst r) Hi->Gb P ops fp Q (fuel+1) listed e H:=by
 intro fuel
 induction fuel with
 | zero=>
  intro listed e H Hi _ _ hr hy hro hA;refine ⟨fun h=>(by rw [h] at hr;cases hr),fun j hj=>?_⟩
  by_cases hji:j=i
  ·subst hji;exact ⟨oi,r,Hi,hi,hy,hro,hA⟩
  ·have := ready_mono hj hji;rw [hA.1] at this
   cases this
 | succ fuel ih=>
  intro listed e H Hi hcl hfree hr hy hro hA;refine ⟨fun h=>(by rw [h] at hr;cases hr),fun j hj=>?_⟩
  by_cases hji:j=i
  ·subst hji;exact ⟨oi,r,Hi,hi,hy,hro,hA⟩
  ·obtain ⟨oj,q,Hj,hoj,hsj,hroj,hAj⟩:=hA.2 j (ready_mono hj hji);obtain ⟨hjun,oj',hoj',hall⟩:=mem_ready.1 hj;rw [hoj] at hoj';injection hoj' with hoj';subst hoj';have hnot:HQ ops (n+1) j i=false:=xj hcl (mem_ready.1 hr).1 (n+1) j fun oj' hoj'=>by
    rw [hoj] at hoj';injection hoj' with hoj';subst hoj';exact hall
   obtain ⟨hap,hcm⟩:=hfree j oj hoj hji hjun hnot;obtain ⟨h1,h2,h3⟩:=Oper.apart_spec hap;have ej:=j4 (e:=e) (r:=r) h1;have ei:=j4 (e:=e) (oi:=oj) (r:=q) h3;have hsj':=hsj.congr ej;have hfree':∀ (k:Nat) (ok:Oper),ops[k]? = some ok->k≠i->(listed.setIfInBounds j true).getD k true=false->HQ ops (n+1) k i=false->oi.apart ops ok=true/\kv (fp i) (fp k)=true:=fun k ok hk hki hun hno=>by
    refine hfree k ok hk hki ?_ hno
    by_cases hjk:j=k
    ·subst hjk;exact hjun
    ·rw [getD_set_ne true hjk] at hun;exact hun
   have fin:∀ Hj',lw P oj (rho e) H q Hj' (fp j).1->((fp j).2=false->Hj'=H)->lw P oi (rho e) Hj' r Hj (fp i).1->((fp i).2=false->Hj=Hj')->∃ o r' H',ops[j]? = some o/\lw P o (rho e) H r' H' (fp j).1/\((fp j).2=false->H'=H)/\Gb P ops fp Q (fuel+1) (listed.setIfInBounds j true) (jH e o.dst r') H':=fun Hj' s1 s1' s2 s2'=>by
    refine ⟨oj,q,Hj',hoj,s1,s1',ih (listed.setIfInBounds j true) (jH e oj.dst q) Hj' Hj (hcl.up hj) hfree' (ready_mono hr (Ne.symm hji)) (s2.congr fun x hx=>(ei x hx).symm) s2' ?_⟩;rw [Array.setIfInBounds_comm _ _ hji,oq (fun d hd=>fun hd'=>h2 d (by simpa using hd') (by simpa using hd))];exact hAj
   simp only [kv,Bool.or_eq_true,bae,Bool.not_eq_true',List.all_eq_true,List.contains_eq_mem,decide_eq_false_iff_not] at hcm;rcases hcm with hdis | ⟨w1,w2⟩
   ·have hag:agree (fp j).1 H Hi:=⟨hy.1.symm,fun b hb=>(hy.2.1 b (fun hbi=>hdis b hbi hb)).symm⟩;obtain ⟨Hj',a1,a2,a3,a4⟩:=hsj'.at_ hag;have hag2:agree (fp i).1 Hj' H:=⟨a1,fun b hb=>a3 b (hdis b hb)⟩;obtain ⟨K,b1,b2,b3,b4⟩:=hy.at_ hag2;have hKH:K=Hj:=by
     apply List.ext_getElem?;intro b
     by_cases hbi:b∈(fp i).1
     ·rw [b2 b hbi,hsj'.2.1 b (hdis b hbi)]
     ·rw [b3 b hbi]
      by_cases hbj:b∈(fp j).1
      ·exact a2 b hbj
      ·rw [a3 b hbj,hsj'.2.1 b hbj,hy.2.1 b hbi]
    subst hKH;refine fin Hj' a4 (fun hw=>?_) b4 (fun hw=>?_)
    ·apply List.ext_getElem?;intro b
     by_cases hbj:b∈(fp j).1
     ·rw [a2 b hbj,hroj hw,hy.2.1 b (fun hbi=>hdis b hbi hbj)]
     ·exact a3 b hbj
    ·apply List.ext_getElem?;intro b
     by_cases hbi:b∈(fp i).1
     ·rw [b2 b hbi,hro hw,a3 b (hdis b hbi)]
     ·exact b3 b hbi
   ·obtain rfl:=hro w1;obtain rfl:=hroj w2;exact fin _ hsj' (fun _=>rfl) hy (fun _=>rfl)
def Kv (ops:Array Oper) (fp:Nat->Fp):Bool:=
 Region.lexB .any ops&&ops.all (fun o=>o.guard.isNone) &&
 (List.range ops.size).all fun i=>(List.range ops.size).all fun j=>decide (j<=i)||kv (fp i) (fp j)||HQ ops 6 j i
theorem BP {ops:Array Oper} {fp:Nat->Fp} {Q:Env->AH->Prop} (hc:Kv ops fp=true):∀ (l:List Oper) (k:Nat) (listed:Array Bool) (e:Env) (H:AH),ClL ops listed->(∀ j,l[j]? = ops[k+j]?)->listed.size=ops.size->(∀ j,j<k->listed.getD j true=true) ->
  Region.lexFrom .any ops l.length k listed=true->TF P fp k l Q e H->Gb P ops fp Q l.length listed e H
 | [],k,listed,e,H,_,_,_,_,hB,h=>⟨by simpa [Region.lexFrom] using hB,h⟩
 | o::l,k,listed,e,H,hcl,hl,hsz,hbef,hB,h=>by
  have h0:ops[k]? = some o:=by simpa using (hl 0).symm
  have hk:k<ops.size:=(Array.getElem?_eq_some_iff.1 h0).1;simp only [List.length_cons,Region.lexFrom,bae] at hB;obtain ⟨⟨hr,hf⟩,hB'⟩:=hB;obtain ⟨r,H',hs,hro,hK⟩:=h;have hrk:k∈Region.ready .any ops listed:=by simpa using hr
  refine AQ (n:=5) h0 l.length listed e H H' hcl (fun j oj hj hne hun hno=>?_) hrk hs hro
   (BP hc l (k+1) _ _ _ (hcl.up hrk) (fun j=>by have := hl (j+1);simpa [Nat.add_assoc,Nat.add_comm 1 j] using this) (by simpa using hsz) (fun j hj=>?_) hB' hK)
  ·have hno1:∀ ed∈oj.after,Region.binds .any ed=true->ed.on≠k:=fun ed he hb heq=>by
    unfold HQ at hno;simp only [hj] at hno;rw [Bool.eq_false_iff] at hno;refine hno ?_;rw [Array.any_eq_true'];exact ⟨ed,he,by simp [hb,heq]⟩
   refine ⟨Region.free_spec h0 hf j oj hj hne hun hno1,?_⟩;have hjs:j<ops.size:=(Array.getElem?_eq_some_iff.1 hj).1;have hkj : ¬ j<=k:=fun hle=>by
    have := hbef j (by omega);rw [this] at hun
    cases hun
   simp only [Kv,bae,List.all_eq_true,List.mem_range] at hc;have := hc.2 k hk j hjs;simp only [Bool.or_eq_true,decide_eq_true_eq,hkj,false_or] at this;rcases this with h1 | h1
   ·exact h1
   ·rw [hno] at h1
    cases h1
  ·by_cases e:j=k
   ·subst e;simp [hsz,hk]
   ·rw [getD_set_ne true (Ne.symm e)];exact hbef j (by omega)
variable {nt b0:Nat} {Q:Exit->Env->AH->Prop} {e:Env} {H:AH}
theorem T.drawH {i:Nat} {ops:Array Oper} (fp:Nat->Fp) (hm:P.follows .mixedOrders=true) (hc:Kv ops fp=true) (h:TF P fp 0 ops.toList (Q .normal) e H):T P nt b0 (.region i ops true) Q e H:=by
 intro hok c c0 a hH hb hx hs;simp only [codeOk] at hok;have hc':=hc;simp only [Kv,bae,Region.lexB] at hc';refine wp_region_any hm ?_;have hlex:=BP hc ops.toList 0 (Array.replicate ops.size false) e H (fun j oj hj hl=>by
  rcases Nat.lt_or_ge j ops.size with h' | h'
  ·simp [h'] at hl
  ·simp [Array.getElem?_eq_none h'] at hj) (fun j=>by simp) (by simp) (fun j hj=>absurd hj (by omega)) (by simpa using hc'.1.1.2) h
 have := sD hok hc'.1.2 ops.toList.length _ e H hlex c.drew c0 a hH (hx.trans c.drew_ext) ⟨hs.size,hs.defers,fun t=>(hs.rel t).ext hs.heap c.drew_ext,Cx.drew_rel hs.heap⟩;rw [Array.length_toList] at this;exact this
end
section
variable {P:Program} {ρ:Operand->AV} {H H':AH}
structure MethT (P:Program) (t:TypeId) (name:String) (g:FuncId) (off:Nat):Prop where
 ex:∃ i m e,P.info? t=some i/\i.methods.find? (·.name==name)=some m/\m.func=some (g,true)/\P.underlying t=some (.pointer e) /\
  ((m.path.toList=[]/\off=0)\/∃ s k fs fl u,m.path.toList=[⟨s,k,true⟩]/\P.underlying s=some (.struct fs)/\fs[k]? = some fl/\P.cellsOf fl.type≠0/\(P.info? fl.type).isSome=true/\fl.offset=off/\P.underlying fl.type=some u/\(∀ e,u ≠ .pointer e))
def JO (P:Program) (t:TypeId) (name:String) (g:FuncId) (off:Nat):Bool:=
 match P.info? t,P.underlying t with
 | some i,some (.pointer _)=>(match i.methods.find? (·.name==name) with
  | some m=>m.func==some (g,true)&&(match m.path.toList with
   | []=>off==0
   | [⟨s,k,true⟩]=>(match P.underlying s with
    | some (.struct fs)=>(match fs[k]? with
     | some fl=>P.cellsOf fl.type != 0&&(P.info? fl.type).isSome&&fl.offset==off&&(match P.underlying fl.type with
      | some (.pointer _) | none=>false
      | some _=>true)
     | none=>false)
    | _=>false)
   | _=>false)
  | none=>false)
 | _,_=>false
theorem MethT.of {t:TypeId} {name:String} {g off:Nat} (h:JO P t name g off=true):MethT P t name g off:=by
 unfold JO at h
 split at h
 ·rename_i i e hi hu
  split at h
  ·rename_i m hm;simp only [bae,beq_iff_eq] at h;obtain ⟨hf,h⟩:=h;refine ⟨i,m,e,hi,hm,hf,hu,?_⟩
   split at h
   ·rename_i hp;exact .inl ⟨hp,by simpa using h⟩
   ·rename_i s k hp
    split at h
    ·rename_i fs hs
     split at h
     ·rename_i fl hfl;simp only [bae,beq_iff_eq,bne_iff_ne,ne_eq] at h;obtain ⟨⟨⟨h1,h2⟩,h3⟩,h4⟩:=h
      cases hfu:P.underlying fl.type with
      | none=>rw [hfu] at h4;cases h4
      | some u=>exact .inr ⟨s,k,fs,fl,u,hp,hs,hfl,h1,h2,h3,hfu,fun e' he=>by subst he;rw [hfu] at h4;cases h4⟩
     ·cases h
    ·cases h
   ·cases h
  ·cases h
 ·cases h
def Lu (off:Nat):AV->AV
 | .fp row j => .fp row (j+off)
 | .hp b v s i j => .hp b v s i (j+off)
 | a=>a
theorem Da {t:TypeId} {name:String} {g off:Nat} (hm:MethT P t name g off) (w:World) (n:Nat) {g0:Nat} {o0:Nat} (v:Value) (hv:v = .pointer (some ⟨g0,o0,none⟩)):(method (n+1) t v name).run P w = .ok (g,.pointer (some ⟨g0,o0+off,none⟩)) w:=by
 obtain ⟨i,m,e,hi,hf,hg,hu,hp⟩:=hm.ex;have e1:(typeInfo t).run P w = .ok i w:=run_typeInfo w hi;rcases hp with ⟨hp,rfl⟩ | ⟨s,k,fs,fl,u,hp,hs,hk,hc,_,rfl,hfu,hne⟩
 ·simp only [method,Sem.run_bind,e1,Result.andThen_ok,hf,hp,follow,Sem.run_pure,hg,receiverAt,ai hu,Place.get,hv,Nat.add_zero]
 ·obtain ⟨i2,hi2⟩:=qL hc
  have e2 : (receiverAt fl.type (.var ⟨g0,o0 + fl.offset,none⟩) true (if m.path.isEmpty then some ((name.splitOn ".").getLastD name) else none)).run P w = .ok (.pointer (some ⟨g0,o0 + fl.offset,none⟩)) w := by
   unfold receiverAt;simp only [Sem.run_bind,ai hfu,Result.andThen_ok]
   cases u <;> first | rfl | exact absurd rfl (hne _)
  simp only [method,Sem.run_bind,e1,Result.andThen_ok,hf,hp,follow,Sem.run_pure,hg,ai hs,hk,Place.get,hv,asAddr,fieldPlace,run_sizeOf w hi2,hc,if_false,if_true,add0,e2]
theorem wL {t:TypeId} {name:String} {g off:Nat} (hm:MethT P t name g off) (hcl:eH P g=true) (w:World) {g0 o0:Nat} (args:Array Value) :
  (callMethod (.iface t (.pointer (some ⟨g0,o0,none⟩))) name args).run P w = .ok (.enter g (#[.pointer (some ⟨g0,o0+off,none⟩)]++args)) w:=by
 have h0:0<Made.depth:=by decide
 obtain ⟨n,hn⟩:∃ n,P.types.size+Made.depth=n+1:=⟨P.types.size+Made.depth-1,by omega⟩;have h1:=Da hm w n (g0:=g0) (o0:=o0) _ rfl;have h2:=om hcl (#[.pointer (some ⟨g0,o0+off,none⟩)]++args) w;have hp:(program:Sem Program).run P w = .ok P w:=rfl;simp only [callMethod,Sem.run_bind,hp,Result.andThen_ok,hn,h1];exact h2
theorem xk {o:Oper} {cl:Call} {x:Operand} {name:String} {t:TypeId} {row:List AV} {j:Nat} {g:FuncId} {off:Nat} {r:AV} (ho:o.op = .call cl) (hc:cl.callee = .invoke x name) (hx:ρ x = .ifc t (.fp row j)) (hm:MethT P t name g off)
  (h:eM P g (.fp row (j+off)::cl.args.toList.map ρ) H r H'):Lv P o ρ H r H':=by
 intro c a K Q hH hr hxs hK;have hf1:=hx ▸ hxs x (by rw [ho];simp [Op.operands,Call.operands,hc]);obtain ⟨y,he,hrel⟩:=rU hf1;have hfp:=og hrel;have key:∃ g0 o0,y = .pointer (some ⟨g0,o0,none⟩)/\c.rel (.fp row (j+off)) (.pointer (some ⟨g0,o0+off,none⟩)):=by
  cases hfp with
  | fp us hg hlt hu h1 h=>
   refine ⟨_,_,rfl,?_⟩;rw [Nat.add_assoc];exact .fr (.fp us hg hlt hu h1 h)
 obtain ⟨g0,o0,hy,hrec⟩:=key;have hargs:zi c (.fp row (j+off)::cl.args.toList.map ρ) (#[.pointer (some ⟨g0,o0+off,none⟩)]++cl.args.map a.eval):=by
  refine ⟨by simp;omega,fun i q v hq hv=>?_⟩
  match i with
  | 0=>
   simp only [List.getElem?_cons_zero,Option.some.injEq] at hq;have : (#[Value.pointer (some ⟨g0,o0+off,none⟩)]++cl.args.map a.eval)[0]? = some (Value.pointer (some ⟨g0,o0+off,none⟩)):=by
    rw [Array.getElem?_append_left (show 0<1 by decide)]
    rfl
   rw [this] at hv;injection hv with hv;subst hq hv;exact hrec
  | i+1=>
   simp only [List.getElem?_cons_succ,List.getElem?_map,Array.getElem?_toList] at hq;have e:(#[Value.pointer (some ⟨g0,o0+off,none⟩)]++cl.args.map a.eval)[i+1]? = (cl.args.map a.eval)[i]? := by
    rw [Array.getElem?_append_right (by simp)];simp
   rw [e,Array.getElem?_map] at hv
   cases ha:cl.args[i]? with
   | none=>rw [ha] at hq;cases hq
   | some z=>
    rw [ha] at hq hv;injection hq with hq;injection hv with hv;subst hq hv;refine hxs z ?_;rw [ho];have hz:=Array.mem_of_getElem? ha;simp [Op.operands,Call.operands,hz]
 have hrun:(execOp a.eval o).run P c.w = .ok (.enter g (#[.pointer (some ⟨g0,o0+off,none⟩)]++cl.args.map a.eval)) c.w:=by
  have h3:=wL hm h.1 c.w (g0:=g0) (o0:=o0) (cl.args.map a.eval);rw [execOp,ho];simp only [resolve,hc,he,hy,Sem.run_bind,Sem.run_pure,Result.andThen_ok,invoke];have e1:((#[Value.iface t (.pointer (some ⟨g0,o0,none⟩))]++cl.args.map a.eval)[0]? : Option Value)=some (Value.iface t (.pointer (some ⟨g0,o0,none⟩))):=by
   rw [Array.getElem?_append_left (show 0<1 by decide)]
   rfl
  have e2:(#[Value.iface t (.pointer (some ⟨g0,o0,none⟩))]++cl.args.map a.eval).extract 1 (#[Value.iface t (.pointer (some ⟨g0,o0,none⟩))]++cl.args.map a.eval).size=cl.args.map a.eval:=by
   apply Array.ext';simp;exact List.take_of_length_le (by simp)
  rw [e1,e2];exact h3
 unfold Oper.wp;rw [hrun,Oper.upon_enter];refine (h.2 c _ hH hr hargs).mono fun e w' ⟨v,c',he,hw,hH',hr',hx,hv⟩ => ?_;subst he hw;exact hK v c' hH' hr' hx hv
theorem LA.inv {cl:Call} {x:Operand} {name:String} {t:TypeId} {row:List AV} {j:Nat} {g:FuncId} {off:Nat} {ars:List AV} {r:AV} (hc:cl.callee = .invoke x name) (hx:ρ x = .ifc t (.fp row j)) (hm:MethT P t name g off) (ha:cl.args.toList.map ρ=ars)
  (h:aA P g (.fp row (j+off)::ars) r) (hF:ars.all (isF 9)=true):LA P ρ (.call cl) r:=fun o ho G=>by
 subst ha;refine xk ho hc hx hm (h.acall ?_ G);simp only [List.all_cons,hF,Bool.and_true]
 rfl
end
structure A3 (α:Type) where
 x0:α
 x1:α
 x2:α
section
variable {α:Type}
instance [Inhabited α]:Inhabited (A3 α):=⟨⟨default,default,default⟩⟩
def A3.set (a:A3 α) (q:Int) (v:α):A3 α:=if q=0 then ⟨v,a.x1,a.x2⟩ else if q=1 then ⟨a.x0,v,a.x2⟩ else ⟨a.x0,a.x1,v⟩
theorem Gc {P:Int->Prop} {q:Int} (g:0<=q/\q<3) (h0:P 0) (h1:P 1) (h2:P 2):P q:=by
 have h:q=0\/q=1\/q=2:=by omega
 rcases h with rfl | rfl | rfl
 ·exact h0
 ·exact h1
 ·exact h2
def ifO (t:TypeId) (c:α->List AV):Option α->AV
 | some x => .ifc t (.fp (c x) 0)
 | none => .v .nilIface
theorem BQ [Inhabited α] {t:TypeId} {c:α->List AV} {o:Option α} (h:o.isSome=true):ifO t c o = .ifc t (.fp (c (o.getD default)) 0):=by
 cases o with
 | none=>cases h
 | some x=>rfl
end
section
variable {P:Program} {ρ:Operand->AV} {H H':AH} {x y:Operand} {t e:TypeId}
theorem LA.ixafp {ag:Bool} {n w:Nat} {row:List AV} {j:Nat} {k:IntKind} {q:Int} (hu:P.underlying t=some (.array n e)) (ty:TyF P e ag w) (hx:ρ x = .fp row j) (hy:ρ y = .v (.int k q)) (hq:0<=q/\q<n):LA P ρ (.indexAddr t x y) (.fp row (j+q.toNat*w)) := .mk fun K hK=>by
 show dQ P t (ρ x) (ρ y) K;simp only [dQ,hu,hx,hy,ty.cells];exact ⟨hq,Ck.intro ty.info hK⟩
theorem LA.ixahp {ag:Bool} {n w:Nat} {b ver s i j:Nat} {k:IntKind} {q:Int} (hu:P.underlying t=some (.array n e)) (ty:TyF P e ag w) (hx:ρ x = .hp b ver s i j) (hy:ρ y = .v (.int k q)) (hq:0<=q/\q<n):LA P ρ (.indexAddr t x y) (.hp b ver s i (j+q.toNat*w)) := .mk fun K hK=>by
 show dQ P t (ρ x) (ρ y) K;simp only [dQ,hu,hx,hy,ty.cells];exact ⟨hq,Ck.intro ty.info hK⟩
theorem LA.ixag {ag:Bool} {n w:Nat} {cs:List AV} {k:IntKind} {q:Int} (a:AV) (hu:P.underlying t=some (.array n e)) (ty:TyF P e ag w) (hx:ρ x = .agg cs) (hy:ρ y = .v (.int k q)) (hq:0<=q/\q<n) (hp:ku ag w cs (q.toNat*w)=some a):LA P ρ (.index t x y) a := .mk fun K hK=>by
 show uK P t (ρ x) (ρ y) K;simp only [uK,hu,hx,hy,ty.cells];exact ⟨hq,Ck.intro ty.info (uB ty hp hK)⟩
theorem LA.mkifc {u:TypeDesc} (a:AV) (hu:P.underlying t=some u) (hn:∀ m,u ≠ .interface m) (hx:ρ x=a):LA P ρ (.makeInterface t x) (.ifc t a) := .mk fun K hK=>by
 show rR P ρ (.makeInterface t x) K;simp only [rR,hu,hx]
 cases u <;> first | exact absurd rfl (hn _) | (rw [AV.force_iff];exact hK)
end
def up (m:Nat) (gh:NG):NG:=fun i=>((gh i).1,(gh i).2.1+m,(gh i).2.2)
section
variable {α:Type}
def nrs (m:Nat) (gh:NG) (w:Nat) (l:List (List α)):List (List AV):=bH (up m gh) w l
theorem vo {m:Nat} {gh:NG} {w:Nat} {l:List (List α)} {i:Nat} (h:i<l.length):(nrs m gh w l)[i]? = some [hS (gh i).1 ((gh i).2.1+m) (gh i).2.2 w (l.getD i []).length]:=bJ h
theorem JP (m:Nat) (gh:NG) (i:Nat) (g:Bool) (k v:Nat):(up m gh).put i (g,k+m,v)=up m (gh.put i (g,k,v)):=by
 funext j
 show (bif Nat.beq j i then (g,k+m,v) else ((gh j).1,(gh j).2.1+m,(gh j).2.2))=((bif Nat.beq j i then (g,k,v) else gh j).1,(bif Nat.beq j i then (g,k,v) else gh j).2.1+m,(bif Nat.beq j i then (g,k,v) else gh j).2.2)
 cases Nat.beq j i <;> rfl
theorem IE {m:Nat} {gh:NG} {w:Nat} {l:List (List α)} {i:Nat} {g:Bool} {k v:Nat} {r:List α} (h:i<l.length):(nrs m gh w l).set i [hS g (k+m) v w r.length]=nrs m (gh.put i (g,k,v)) w (l.set i r):=by
 unfold nrs;rw [mq h,JP]
theorem IG (m w n:Nat):List.replicate n [AV.nil]=nrs m (fun i=>(true,i,0)) w (List.replicate n ([]:List α)):=by
 apply List.ext_getElem
 ·simp [nrs,bH]
 ·intro i h1 h2;simp [nrs,bH,yV,hS,up]
theorem pG {m:Nat} {gh:NG} {w:Nat} {l:List (List α)}:(nrs m gh w l).length=l.length:=bV _ _ _
structure NN (K:AH) (gh:NG) (w:Nat) (ty:TypeId) (f:α->List AV) (l:List (List α)):Prop where
 nk:NK 0 K gh w ty f l
 kf:KF K
variable {K:AH} {gh:NG} {w:Nat} {ty:TypeId} {f:α->List AV} {l:List (List α)}
theorem NN.at_ (h:NN K gh w ty f l) {i:Nat} (hi:i<l.length):K[(gh i).2.1]? = some (bE (gh i).1 (gh i).2.2 w ty ((l.getD i []).map f)):=(h.nk.at_ i hi).2
theorem NN.lt (h:NN K gh w ty f l) {i:Nat} (hi:i<l.length):(gh i).2.1<K.length:=(ges (h.at_ hi)).1
theorem NN.nil_ (h:NN K gh w ty f l) {i:Nat} (hi:i<l.length):(gh i).1=true->l.getD i []=[]:=h.nk.nil_ i hi
theorem KF.set {k:Nat} {x:Option ABlk} (h:KF K) (hx:∀ b,x=some b->pQ b):KF (K.set k x):=fun i b hb=>by
 by_cases e:k=i
 ·subst e;have hl:=(ges hb).1;rw [List.getElem?_set_self (by simpa using hl)] at hb;exact hx b (osl hb)
 ·rw [List.getElem?_set_ne e] at hb;exact h i b hb
theorem KF.cons {x:Option ABlk} (h:KF K) (hx:∀ b,x=some b->pQ b):KF (x::K):=fun i b hb=>by
 match i,hb with
 | 0,hb=>exact hx b (osl hb)
 | i+1,hb=>exact h i b hb
theorem BR {g:Bool} {v:Nat} {l:List α} (hf:∀ x,(f x).all (isF 9)=true):∀ b,bE g v w ty (l.map f)=some b->pQ b:=fun b hb=>by
 cases g with
 | true=>cases hb
 | false=>
  obtain rfl:=osl hb;exact fun r hr a ha=>kx hf r hr a ha
theorem NN.set (h:NN K gh w ty f l) {i:Nat} (hi:i<l.length) {g:Bool} {ver:Nat} {r:List α} (hg:g=true->r=[]) (hf:∀ x,(f x).all (isF 9)=true):NN (K.set (gh i).2.1 (bE g ver w ty (r.map f))) (gh.put i (g,(gh i).2.1,ver)) w ty f (l.set i r):=
 ⟨h.nk.set hi hg,h.kf.set (BR hf)⟩
theorem NN.push (h:NN K gh w ty f l) {x:Option ABlk} (hx:∀ b,x=some b->pQ b):NN (x::K) (up 1 gh) w ty f l:=
 ⟨⟨fun i hi=>⟨Nat.zero_le _,h.at_ hi⟩,fun i hi=>h.nil_ hi,fun i j hi hj hne he=>h.nk.sep i j hi hj hne (by simpa [up] using he)⟩,h.kf.cons hx⟩
theorem NN.nil:NN ([]:AH) gh w ty f []:=⟨⟨fun i hi=>by simp at hi,fun i hi=>by simp at hi,fun i j hi=>by simp at hi⟩,fun i k hk=>by simp at hk⟩
theorem NN.rep (n:Nat):NN (List.replicate n none) (fun i=>(true,i,0)) w ty f (List.replicate n []):=by
 refine ⟨⟨fun i hi=>⟨Nat.zero_le _,?_⟩,fun i hi _=>?_,fun i j _ _ hne=>hne⟩,fun i k hk=>?_⟩
 ·simp only [List.length_replicate] at hi;simp [hi,bE]
 ·simp only [List.length_replicate] at hi;simp [hi]
 ·have := List.mem_of_getElem? hk;rw [List.mem_replicate] at this
  cases this.2
theorem NN.fz [Inhabited α] (h:NN K gh w ty f l) (S:AH) {b ver n:Nat} {to:TypeId} (hb:(S++K)[b]? = some (bE false ver 1 to (nrs S.length gh w l))) (hn:n=l.length) (hf:∀ x,(f x).all (isF 9)=true):Fz 0 (S++K) (hS false b ver 1 n) (eL (cL f) l):=by
 have hk:NK 0 (S++K) (up S.length gh) w ty f l:=⟨fun i hi=>⟨Nat.zero_le _,by
  show (S++K)[(gh i).2.1+S.length]? = _;rw [gar (by omega),Nat.add_sub_cancel];exact h.at_ hi⟩,fun i hi=>h.nil_ hi,fun i j hi hj hne he=>h.nk.sep i j hi hj hne (by simpa [up] using he)⟩
 exact hk.fz hb hn hf
end
def Rot (m N:Nat) (i j:Nat):Prop:=(i<m/\j=i)\/(m<=i/\i<N+m/\j=i+1)\/(i=N+m/\j=m)
theorem Rot.low {m N i:Nat} (h:Nat.blt i m=true):Rot m N i i := .inl ⟨nlb h,rfl⟩
theorem Rot.up {m N k:Nat} (h:k<N):Rot m N (k+m) (k+(m+1)) := .inr (.inl ⟨by omega,by omega,rfl⟩)
theorem Rot.new {m N:Nat}:Rot m N (N+m) m := .inr (.inr ⟨rfl,rfl⟩)
inductive RenHL (S:Nat->Nat->Prop):AH->AH->Prop
 | nil:RenHL S [] []
 | none {l l':AH} (t:RenHL S l l'):RenHL S (none::l) (none::l')
 | some {k k':ABlk} {l l':AH} (h:RenK S k k') (t:RenHL S l l'):RenHL S (some k::l) (some k'::l')
theorem RenHL.bE {S:Nat->Nat->Prop} {α:Type} {g:Bool} {v w:Nat} {ty:TypeId} {f:α->List AV} {x:List α} {l l':AH} (hf:∀ x,(f x).all (isF 9)=true) (t:RenHL S l l'):RenHL S (bE g v w ty (x.map f)::l) (Go.Proofs.YtlmjnhnpahicmaaGreat.bE g v w ty (x.map f)::l'):=by
 cases g with
 | true=>exact .none t
 | false=>exact .some (.ofF fun r hr a ha=>kx hf r hr a ha) t
theorem RenHL.spec {S:Nat->Nat->Prop} {l l':AH} (h:RenHL S l l'):l.length=l'.length/\(∀ (i:Nat) (k:ABlk),l[i]? = Option.some (Option.some k)->∃ k',l'[i]? = Option.some (Option.some k')/\RenK S k k')/\∀ (i:Nat) (k':ABlk),l'[i]? = Option.some (Option.some k')->∃ k,l[i]? = Option.some (Option.some k)/\RenK S k k':=by
 induction h with
 | nil=>exact ⟨rfl,fun i k hk=>by simp at hk,fun i k hk=>by simp at hk⟩
 | none t ih=>
  refine ⟨by simp [ih.1],fun i k hk=>?_,fun i k hk=>?_⟩
  ·match i,hk with
   | i+1,hk=>exact ih.2.1 i k hk
  ·match i,hk with
   | i+1,hk=>exact ih.2.2 i k hk
 | some h t ih=>
  refine ⟨by simp [ih.1],fun i k hk=>?_,fun i k hk=>?_⟩
  ·match i,hk with
   | 0,hk=>
    obtain rfl:=osl (osl hk);exact ⟨_,rfl,h⟩
   | i+1,hk=>exact ih.2.1 i k hk
  ·match i,hk with
   | 0,hk=>
    obtain rfl:=osl (osl hk);exact ⟨_,rfl,h⟩
   | i+1,hk=>exact ih.2.2 i k hk
theorem Reid.rot {b0 m N:Nat} {S S' K:AH} {x x':Option ABlk} (hm:S.length=m) (hN:K.length=N) (hb:Nat.ble b0 m=true) (hS:RenHL (Rot m N) S S') (hK:KF K) (hx:RenHL (Rot m N) [x] [x']):Reid b0 (Rot m N) (S++K++[x]) (S'++x'::K):=by
 have hb:=nlb hb;obtain ⟨h1,h2,h3⟩:=hS.spec;obtain ⟨_,h5,h6⟩:=hx.spec;have hm':S'.length=m:=h1.symm.trans hm;have a1:∀ i,i<m->(S++K++[x])[i]? = S[i]? := fun i hi=>by rw [List.append_assoc,gal (by omega)]
 have a2:∀ k,k<N->(S++K++[x])[k+m]? = K[k]? := fun k hk=>by
  rw [List.append_assoc,gar (by omega),gal (by omega)]
  congr 1
  omega
 have a3:(S++K++[x])[N+m]? = some x:=by
  rw [List.append_assoc,gar (by omega),gar (by omega)];have : N+m-S.length-K.length=0:=by omega
  rw [this]
  rfl
 have c1:∀ i,i<m->(S'++x'::K)[i]? = S'[i]? := fun i hi=>gal (by omega);have c2:(S'++x'::K)[m]? = some x':=by
  rw [gar (by omega)];have : m-S'.length=0:=by omega
  rw [this]
  rfl
 have c3:∀ k,(S'++x'::K)[k+m+1]? = K[k]? := fun k=>by
  rw [gar (by omega)];have : k+m+1-S'.length=k+1:=by omega
  rw [this]
  rfl
 refine ⟨fun i j j' e1 e2=>?_,fun i i' j e1 e2=>?_,fun i hi => .inl ⟨by omega,rfl⟩,by simp;omega,fun j k0 hk=>?_,fun i j k hS hk=>?_⟩
 ·rcases e1 with ⟨_,rfl⟩ | ⟨_,_,rfl⟩ | ⟨_,rfl⟩ <;> rcases e2 with ⟨_,rfl⟩ | ⟨_,_,rfl⟩ | ⟨_,rfl⟩ <;> omega
 ·rcases e1 with ⟨_,e1⟩ | ⟨_,_,e1⟩ | ⟨_,e1⟩ <;> rcases e2 with ⟨_,e2⟩ | ⟨_,_,e2⟩ | ⟨_,e2⟩ <;> omega
 ·rcases Nat.lt_trichotomy j m with hj | hj | hj
  ·rw [c1 j hj] at hk;obtain ⟨k,g1,g2⟩:=h3 j k0 hk;exact ⟨j,k,.inl ⟨hj,rfl⟩,by rw [a1 j hj];exact g1,g2⟩
  ·subst hj;rw [c2] at hk;obtain rfl:=osl hk;obtain ⟨k,g1,g2⟩:=h6 0 k0 rfl;obtain rfl:=osl g1;exact ⟨_,k,.new,a3,g2⟩
  ·obtain ⟨q,rfl⟩:∃ q,j=q+m+1:=⟨j-m-1,by omega⟩;rw [c3 q] at hk;have hq:q<N:=by rw [<- hN];exact (ges hk).1
   exact ⟨q+m,k0,.inr (.inl ⟨by omega,by omega,rfl⟩),by rw [a2 q hq];exact hk,.ofF (hK q k0 hk)⟩
 ·rcases hS with ⟨e1,rfl⟩ | ⟨e1,e2,rfl⟩ | ⟨rfl,rfl⟩
  ·rw [a1 _ e1] at hk;obtain ⟨k',g1,_⟩:=h2 _ k hk;exact ⟨k',by rw [c1 _ e1];exact g1⟩
  ·obtain ⟨q,rfl⟩:∃ q,i=q+m:=⟨i-m,by omega⟩;rw [a2 q (by omega)] at hk;exact ⟨k,by rw [c3 q];exact hk⟩
  ·rw [a3] at hk;obtain rfl:=osl hk;obtain ⟨k',g1,_⟩:=h5 0 k rfl;obtain rfl:=osl g1;exact ⟨k',c2⟩
theorem dU {S:Nat->Nat->Prop} {g:Bool} {i j v w n:Nat} (h:S i j):Ren S (hS g i v w n) (hS g j v w n):=by
 cases g with
 | true=>exact .nil
 | false=>exact .hs h
theorem NN.renK {α:Type} {K:AH} {gh:NG} {w ver m N:Nat} {ty to:TypeId} {f:α->List AV} {l:List (List α)} (h:NN K gh w ty f l) (hN:K.length=N):RenK (Rot m N) ⟨ver,1,to,nrs m gh w l⟩ ⟨ver,1,to,nrs (m+1) gh w l⟩:=by
 refine ⟨rfl,rfl,rfl,by simp [pG],fun i r r' hr hr' => ?_⟩;have hi:i<l.length:=by
  have := (ges hr).1
  rwa [pG] at this
 rw [vo hi] at hr hr';obtain rfl:=osl hr;obtain rfl:=osl hr';refine ⟨rfl,fun j a a' ha ha' => ?_⟩
 match j with
 | 0=>
  obtain rfl:=osl ha;obtain rfl:=osl ha';exact dU (.up (by rw [<- hN];exact h.lt hi))
 | j+1=>simp at ha
theorem yt {S:Nat->Nat->Prop} {e:Env}:∀ t,Ren S (e t) (ah [] t):=fun _ => .top
theorem iT {S:Nat->Nat->Prop} {e:Env} {t:Nat} {a a0:AV} {l:List (Nat×AV)} (he:e t=a0) (h:Ren S a0 a) (w:∀ q,Ren S (e q) (ah l q)):∀ q,Ren S (e q) (ah ((t,a)::l) q):=by
 intro q;rcases rW t a l q with ⟨rfl,h1⟩ | h1
 ·rw [h1,he];exact h
 ·rw [h1];exact w q
theorem dV {S:Nat->Nat->Prop} {e:Env} {t:Nat} {a:AV} {l:List (Nat×AV)} (he:e t=a) (h:isF 9 a=true) (w:∀ q,Ren S (e q) (ah l q)):∀ q,Ren S (e q) (ah ((t,a)::l) q):=iT he (aO 9 a h) w
theorem xm {c:Cx} {row row2:List AV} {j n:Nat} {v:Value} (hs:(row.drop j).take n=row2) (h:c.rel (.fp row j) v):c.rel (.fp row2 0) v:=by
 have h:=og h
 cases h with
 | @fp _ _ g o us hg hlt hu h1 hr=>
  subst hs;have key:∀ (q:Nat) (a:AV),((row.drop j).take n)[q]? = some a->row[j+q]? = some a:=fun q a hq=>by
   rw [List.getElem?_take] at hq
   split at hq
   ·rwa [List.getElem?_drop] at hq
   ·cases hq
  exact .fr (.fp (g:=g) (o:=o+j) (j:=0) (fun q=>us (j+q)) hg hlt (fun q a hq=>by rw [Nat.add_assoc];exact hu _ _ (key q a hq)) (fun q a hq=>h1 _ _ (key q a hq)) (fun q a hq=>hr _ _ (key q a hq)))
section
variable {P:Program} {ρ:Operand->AV} {H H':AH} {x y:Operand} {t e:TypeId}
theorem LA.fafpS (n:Nat) {fs:Array Field} {f:Nat} {fl:Field} {row row2:List AV} {j:Nat} (hu:P.underlying t=some (.struct fs)) (hf:fs[f]? = some fl) (hc:(P.cellsOf fl.type != 0)=true) (hx:ρ x = .fp row j) (hs:(row.drop (j+fl.offset)).take n=row2):LA P ρ (.fieldAddr t x f) (.fp row2 0):=
 (LA.fafp hu hf hc hx).res fun _ _ h=>xm hs h
theorem eM.argw {g:FuncId} {as' as2:List AV} {r:AV} (h:eM P g as2 H r H') (hl:as2.length=as'.length) (hw:∀ c:Cx,∀ (i:Nat) (a b:AV) (v:Value),as'[i]? = some a->as2[i]? = some b->c.rel a v->c.rel b v):eM P g as' H r H':=
 ⟨h.1,fun c vs hH hr hall=>h.2 c vs hH hr ⟨by rw [hall.1,hl],fun i q v hq hv=>by
  obtain ⟨a,ha⟩:=aV hl hq;exact hw c i a q v ha hq (hall.2 i a v ha hv)⟩⟩
theorem LA.invS (n:Nat) {cl:Call} {name:String} {t:TypeId} {row row2:List AV} {j:Nat} {g:FuncId} {off:Nat} {ars:List AV} {r:AV} (hc:cl.callee = .invoke x name) (hx:ρ x = .ifc t (.fp row j)) (hm:MethT P t name g off) (ha:cl.args.toList.map ρ=ars)
  (hs:(row.drop (j+off)).take n=row2) (h:aA P g (.fp row2 0::ars) r) (hF:ars.all (isF 9)=true):LA P ρ (.call cl) r:=fun o ho G=>by
 subst ha;refine xk ho hc hx hm ((h.acall ?_ G).argw rfl fun c i a b v h1 h2 hr=>?_)
 ·simp only [List.all_cons,hF,Bool.and_true]
  rfl
 ·match i with
  | 0=>
   obtain rfl:=osl h1;obtain rfl:=osl h2;exact xm hs hr
  | i+1=>
   simp only [List.getElem?_cons_succ] at h1 h2;rw [h1] at h2;obtain rfl:=osl h2;exact hr
variable {nt b0:Nat} {Q:Exit->Env->AH->Prop} {en:Env} {ops:Array Oper}
theorem TO.reserve {l:List Oper} (h:TO P nt b0 ops l Q en (H++[none])):TO P nt b0 ops l Q en H:=by
 intro hd k hl hn c c0 a hH hb hx hr;subst hH;exact h hd k hl hn c.res c0 a rfl hb (hx.trans c.res_ext) ⟨hr.size,hr.defers,fun t=>(hr.rel t).ext hr.heap c.res_ext,Cx.res_heap hr.heap⟩
theorem TO.reserveN {l:List Oper}:∀ (n:Nat) {H:AH},TO P nt b0 ops l Q en (H++List.replicate n none)->TO P nt b0 ops l Q en H
 | 0,H,h=>by simpa using h
 | n+1,H,h=>by
  refine TO.reserve (TO.reserveN n ?_);rw [List.append_assoc];exact h
end
inductive RenRows (S:Nat->Nat->Prop):List (List AV)->List (List AV)->Prop
 | nil:RenRows S [] []
 | cons {a b:List AV} {l k:List (List AV)} (h:RenL S a b) (t:RenRows S l k):RenRows S (a::l) (b::k)
theorem RenRows.spec {S:Nat->Nat->Prop} {l k:List (List AV)} (h:RenRows S l k):l.length=k.length/\∀ (i:Nat) (c d:List AV),l[i]? = some c->k[i]? = some d->RenL S c d:=by
 induction h with
 | nil=>exact ⟨rfl,fun i c d hc=>by simp at hc⟩
 | cons h t ih=>
  refine ⟨by simp [ih.1],fun i c d hc hd=>?_⟩
  match i,hc,hd with
  | 0,hc,hd=>
   obtain rfl:=osl hc;obtain rfl:=osl hd;exact h
  | i+1,hc,hd=>exact ih.2 i c d hc hd
theorem RenK.rowsL {S:Nat->Nat->Prop} {v s:Nat} {ty:TypeId} {r r':List (List AV)} (h:RenRows S r r'):RenK S ⟨v,s,ty,r⟩ ⟨v,s,ty,r'⟩:=
 ⟨rfl,rfl,rfl,h.spec.1,fun i a b ha hb=>(h.spec.2 i a b ha hb).spec⟩
theorem RenK.rowL {S:Nat->Nat->Prop} {v s:Nat} {ty:TypeId} {r r':List AV} (h:RenL S r r'):RenK S ⟨v,s,ty,[r]⟩ ⟨v,s,ty,[r']⟩ := .rowsL (.cons h .nil)
section
variable {α:Type} {K:AH} {gh:NG} {w:Nat} {ty:TypeId} {f:α->List AV} {l:List (List α)}
theorem RenHL.nest {S:Nat->Nat->Prop} {g:Bool} {ver s:Nat} {to:TypeId} {rows rows':List (List AV)} {H H':AH} (h:RenK S ⟨ver,s,to,rows⟩ ⟨ver,s,to,rows'⟩) (t:RenHL S H H'):RenHL S (Go.Proofs.YtlmjnhnpahicmaaGreat.bE g ver s to rows::H) (Go.Proofs.YtlmjnhnpahicmaaGreat.bE g ver s to rows'::H'):=by
 cases g with
 | true=>exact .none t
 | false=>exact .some h t
def Tk (a:Nat) (i j:Nat):Prop:=(i<=a/\j=i)\/(a+2<=i/\j+1=i)
theorem Reid.take {b0 a:Nat} {S S' K:AH} {x2 x2' x3:Option ABlk} (hm:S.length=a) (hb:Nat.ble b0 a=true) (hS:RenHL (Tk a) S S') (hK:KF K) (hx:RenHL (Tk a) [x2] [x2']):Reid b0 (Tk a) (S++x2::x3::K) (S'++x2'::K):=by
 have hb:=nlb hb;obtain ⟨h1,h2,h3⟩:=hS.spec;obtain ⟨_,h5,h6⟩:=hx.spec;have hm':S'.length=a:=h1.symm.trans hm;have a1:∀ i,i<a->(S++x2::x3::K)[i]? = S[i]? := fun i hi=>gal (by omega);have a2:(S++x2::x3::K)[a]? = some x2:=by
  rw [gar (by omega)];have : a-S.length=0:=by omega
  rw [this]
  rfl
 have a3:∀ k,(S++x2::x3::K)[k+a+2]? = K[k]? := fun k=>by
  rw [gar (by omega)];have : k+a+2-S.length=k+1+1:=by omega
  rw [this]
  rfl
 have c1:∀ i,i<a->(S'++x2'::K)[i]? = S'[i]? := fun i hi=>gal (by omega);have c2:(S'++x2'::K)[a]? = some x2':=by
  rw [gar (by omega)];have : a-S'.length=0:=by omega
  rw [this]
  rfl
 have c3:∀ k,(S'++x2'::K)[k+a+1]? = K[k]? := fun k=>by
  rw [gar (by omega)];have : k+a+1-S'.length=k+1:=by omega
  rw [this]
  rfl
 refine ⟨fun i j j' e1 e2=>?_,fun i i' j e1 e2=>?_,fun i hi => .inl ⟨by omega,rfl⟩,by simp;omega,fun j k0 hk=>?_,fun i j k hS hk=>?_⟩
 ·rcases e1 with ⟨_,rfl⟩ | ⟨_,e1⟩ <;> rcases e2 with ⟨_,rfl⟩ | ⟨_,e2⟩ <;> omega
 ·rcases e1 with ⟨_,e1⟩ | ⟨_,e1⟩ <;> rcases e2 with ⟨_,e2⟩ | ⟨_,e2⟩ <;> omega
 ·rcases Nat.lt_trichotomy j a with hj | hj | hj
  ·rw [c1 j hj] at hk;obtain ⟨k,g1,g2⟩:=h3 j k0 hk;exact ⟨j,k,.inl ⟨by omega,rfl⟩,by rw [a1 j hj];exact g1,g2⟩
  ·subst hj;rw [c2] at hk;obtain rfl:=osl hk;obtain ⟨k,g1,g2⟩:=h6 0 k0 rfl;obtain rfl:=osl g1;exact ⟨_,k,.inl ⟨by omega,rfl⟩,a2,g2⟩
  ·obtain ⟨q,rfl⟩:∃ q,j=q+a+1:=⟨j-a-1,by omega⟩;rw [c3 q] at hk;exact ⟨q+a+2,k0,.inr ⟨by omega,by omega⟩,by rw [a3 q];exact hk,.ofF (hK q k0 hk)⟩
 ·rcases hS with ⟨e1,rfl⟩ | ⟨e1,e2⟩
  ·rcases Nat.lt_or_ge j a with hj | hj
   ·rw [a1 _ hj] at hk;obtain ⟨k',g1,_⟩:=h2 _ k hk;exact ⟨k',by rw [c1 _ hj];exact g1⟩
   ·obtain rfl:j=a:=by omega
    rw [a2] at hk;obtain rfl:=osl hk;obtain ⟨k',g1,_⟩:=h5 0 k rfl;obtain rfl:=osl g1;exact ⟨k',c2⟩
  ·obtain ⟨q,rfl⟩:∃ q,i=q+a+2:=⟨i-a-2,by omega⟩;obtain rfl:j=q+a+1:=by omega
   rw [a3 q] at hk;exact ⟨k,by rw [c3 q];exact hk⟩
structure NX (K:AH) (gh:NG) (w:Nat) (ty:TypeId) (f:α->List AV) (l:List (List α)) (i:Nat):Prop where
 hi:i<l.length
 at_:∀ j,j<l.length->j≠i->K[(gh j).2.1]? = some (bE (gh j).1 (gh j).2.2 w ty ((l.getD j []).map f))
 nil_:∀ j,j<l.length->j≠i->(gh j).1=true->l.getD j []=[]
 sep:∀ j k,j<l.length->k<l.length->j≠i->k≠i->j≠k->(gh j).2.1≠(gh k).2.1
 kf:KF K
theorem NN.opened (h:NN K gh w ty f l) {i:Nat} (hi:i<l.length):NX (K.set (gh i).2.1 none) gh w ty f l i:=
 ⟨hi,fun j hj hne=>by rw [List.getElem?_set_ne (h.nk.sep i j hi hj (Ne.symm hne))];exact h.at_ hj,fun j hj _=>h.nil_ hj,fun j k hj hk _ _ hne=>h.nk.sep j k hj hk hne,h.kf.set nofun⟩
theorem NX.close {i:Nat} (h:NX K gh w ty f l i) {g:Bool} {v:Nat} {r:List α} (hg:g=true->r=[]) (hf:∀ x,(f x).all (isF 9)=true):NN (bE g v w ty (r.map f)::K) ((up 1 gh).put i (g,0,v)) w ty f (l.set i r):=by
 refine ⟨⟨fun j hj=>⟨Nat.zero_le _,?_⟩,fun j hj hn=>?_,fun j k hj hk hne he=>?_⟩,h.kf.cons (BR hf)⟩
 ·have hj':j<l.length:=by simpa using hj
  by_cases e:j=i
  ·subst e;rw [gF];simp [hj']
  ·rw [cn _ e];have : (l.set i r).getD j []=l.getD j []:=by simp [List.getElem?_set_ne (Ne.symm e)]
   rw [this];exact h.at_ j hj' e
 ·have hj':j<l.length:=by simpa using hj
  by_cases e:j=i
  ·subst e;rw [gF] at hn;simp [hj',hg hn]
  ·rw [cn _ e] at hn;have : (l.set i r).getD j []=l.getD j []:=by simp [List.getElem?_set_ne (Ne.symm e)]
   rw [this];exact h.nil_ j hj' e hn
 ·have hj':j<l.length:=by simpa using hj
  have hk':k<l.length:=by simpa using hk
  by_cases e:j=i
  ·by_cases e2:k=i
   ·exact hne (e.trans e2.symm)
   ·subst e;rw [gF,cn _ e2] at he;simp [up] at he
  ·by_cases e2:k=i
   ·subst e2;rw [gF,cn _ e] at he;simp [up] at he
   ·rw [cn _ e,cn _ e2] at he;exact h.sep j k hj' hk' e e2 hne (by simpa [up] using he)
def nxs (m:Nat) (gh:NG) (w:Nat) (l:List (List α)) (i:Nat) (g:Bool) (q v n:Nat):List (List AV):=(nrs m gh w l).set i [hS g q v w n]
theorem zA {m:Nat} {i:Nat} {g:Bool} {v:Nat} {r:List α} (hi:i<l.length):nxs m (up 1 gh) w l i g (0+m) v r.length=nrs m ((up 1 gh).put i (g,0,v)) w (l.set i r):=IE hi
theorem sF {m i q v n:Nat} {g:Bool} (hi:i<l.length):(nxs m gh w l i g q v n)[i]? = some [hS g q v w n]:=by
 unfold nxs;rw [List.getElem?_set_self (by rw [pG];exact hi)]
theorem Ex {m i q v n q' v' n':Nat} {g g':Bool}:(nxs m gh w l i g q v n).set i [hS g' q' v' w n']=nxs m gh w l i g' q' v' n':=by
 unfold nxs;rw [List.set_set]
theorem yu {m i q v n:Nat} {g:Bool}:(nxs m gh w l i g q v n).length=l.length:=by
 unfold nxs;rw [List.length_set,pG]
theorem NX.renK {ver m N i q v n:Nat} {g:Bool} {to:TypeId} (h:NX K gh w ty f l i) (hN:K.length=N) (hq:q<m):RenK (Rot m N) ⟨ver,1,to,nxs m gh w l i g q v n⟩ ⟨ver,1,to,nxs (m+1) gh w l i g q v n⟩:=by
 refine ⟨rfl,rfl,rfl,by rw [yu,yu],fun j r r' hr hr' => ?_⟩;have hj:j<l.length:=by
  have := (ges hr).1
  rwa [yu] at this
 by_cases e:j=i
 ·subst e;rw [sF hj] at hr hr';obtain rfl:=osl hr;obtain rfl:=osl hr';refine ⟨rfl,fun p a a' ha ha' => ?_⟩
  match p with
  | 0=>
   obtain rfl:=osl ha;obtain rfl:=osl ha';exact dU (.inl ⟨hq,rfl⟩)
  | p+1=>simp at ha
 ·unfold nxs at hr hr';rw [List.getElem?_set_ne (Ne.symm e),vo hj] at hr hr';obtain rfl:=osl hr;obtain rfl:=osl hr';refine ⟨rfl,fun p a a' ha ha' => ?_⟩
  match p with
  | 0=>
   obtain rfl:=osl ha;obtain rfl:=osl ha';exact dU (.up (by rw [<- hN];exact (ges (h.at_ j hj e)).1))
  | p+1=>simp at ha
def Opn (m k:Nat) (i j:Nat):Prop:=(i<m/\j=i)\/(i=k+m/\j=m)\/(m<=i/\i≠k+m/\j=i+1)
theorem Opn.low {m k i:Nat} (h:Nat.blt i m=true):Opn m k i i := .inl ⟨nlb h,rfl⟩
theorem Reid.open {b0 m:Nat} {S S' K:AH} {k:Nat} {x:Option ABlk} (hm:S.length=m) (hk:K[k]? = some x) (hb:Nat.ble b0 m=true) (hS:RenHL (Opn m k) S S') (hK:KF K):Reid b0 (Opn m k) (S++K) (S'++x::K.set k none):=by
 have hb:=nlb hb;obtain ⟨h1,h2,h3⟩:=hS.spec;have hm':S'.length=m:=h1.symm.trans hm;have hkl:=(ges hk).1;have a1:∀ i,i<m->(S++K)[i]? = S[i]? := fun i hi=>gal (by omega);have a2:∀ q,(S++K)[q+m]? = K[q]? := fun q=>by
  rw [gar (by omega)]
  congr 1
  omega
 have c1:∀ i,i<m->(S'++x::K.set k none)[i]? = S'[i]? := fun i hi=>gal (by omega);have c2:(S'++x::K.set k none)[m]? = some x:=by
  rw [gar (by omega)];have : m-S'.length=0:=by omega
  rw [this]
  rfl
 have c3:∀ q,(S'++x::K.set k none)[q+m+1]? = (K.set k none)[q]? := fun q=>by
  rw [gar (by omega)];have : q+m+1-S'.length=q+1:=by omega
  rw [this]
  rfl
 refine ⟨fun i j j' e1 e2=>?_,fun i i' j e1 e2=>?_,fun i hi => .inl ⟨by omega,rfl⟩,by simp;omega,fun j k0 hk0=>?_,fun i j k1 hS1 hk1=>?_⟩
 ·rcases e1 with ⟨_,rfl⟩ | ⟨_,rfl⟩ | ⟨_,_,rfl⟩ <;> rcases e2 with ⟨_,rfl⟩ | ⟨_,rfl⟩ | ⟨_,_,rfl⟩ <;> omega
 ·rcases e1 with ⟨_,e1⟩ | ⟨_,e1⟩ | ⟨_,_,e1⟩ <;> rcases e2 with ⟨_,e2⟩ | ⟨_,e2⟩ | ⟨_,_,e2⟩ <;> omega
 ·rcases Nat.lt_trichotomy j m with hj | hj | hj
  ·rw [c1 j hj] at hk0;obtain ⟨k1,g1,g2⟩:=h3 j k0 hk0;exact ⟨j,k1,.inl ⟨hj,rfl⟩,by rw [a1 j hj];exact g1,g2⟩
  ·subst hj;rw [c2] at hk0;obtain rfl:=osl hk0;exact ⟨k+j,k0,.inr (.inl ⟨rfl,rfl⟩),by rw [a2];exact hk,.ofF (hK k k0 hk)⟩
  ·obtain ⟨q,rfl⟩:∃ q,j=q+m+1:=⟨j-m-1,by omega⟩;rw [c3 q] at hk0;have hq:q≠k:=fun e=>by
    subst e;rw [List.getElem?_set_self hkl] at hk0
    cases hk0
   rw [List.getElem?_set_ne (Ne.symm hq)] at hk0;exact ⟨q+m,k0,.inr (.inr ⟨by omega,by omega,by omega⟩),by rw [a2];exact hk0,.ofF (hK q k0 hk0)⟩
 ·rcases hS1 with ⟨e1,rfl⟩ | ⟨rfl,rfl⟩ | ⟨e1,e2,rfl⟩
  ·rw [a1 _ e1] at hk1;obtain ⟨k',g1,_⟩:=h2 _ k1 hk1;exact ⟨k',by rw [c1 _ e1];exact g1⟩
  ·rw [a2,hk] at hk1;obtain rfl:=osl hk1;exact ⟨k1,c2⟩
  ·obtain ⟨q,rfl⟩:∃ q,i=q+m:=⟨i-m,by omega⟩;rw [a2] at hk1;exact ⟨k1,by rw [c3 q,List.getElem?_set_ne (by omega)];exact hk1⟩
theorem NN.renOpn {ver m i:Nat} {to:TypeId} (h:NN K gh w ty f l) (hi:i<l.length):RenK (Opn m (gh i).2.1) ⟨ver,1,to,nrs m gh w l⟩ ⟨ver,1,to,nxs (m+1) gh w l i (gh i).1 m (gh i).2.2 (l.getD i []).length⟩:=by
 refine ⟨rfl,rfl,rfl,by rw [pG,yu],fun j r r' hr hr' => ?_⟩;have hj:j<l.length:=by
  have := (ges hr).1
  rwa [pG] at this
 by_cases e:j=i
 ·subst e;rw [vo hj] at hr;rw [sF hj] at hr';obtain rfl:=osl hr;obtain rfl:=osl hr';refine ⟨rfl,fun p a a' ha ha' => ?_⟩
  match p with
  | 0=>
   obtain rfl:=osl ha;obtain rfl:=osl ha';exact dU (.inr (.inl ⟨rfl,rfl⟩))
  | p+1=>simp at ha
 ·unfold nxs at hr';rw [List.getElem?_set_ne (Ne.symm e),vo hj] at hr';rw [vo hj] at hr;obtain rfl:=osl hr;obtain rfl:=osl hr';refine ⟨rfl,fun p a a' ha ha' => ?_⟩
  match p with
  | 0=>
   obtain rfl:=osl ha;obtain rfl:=osl ha';exact dU (.inr (.inr ⟨by omega,fun e2=>h.nk.sep j i hj hi e (by omega),by omega⟩))
  | p+1=>simp at ha
end
section
variable {P:Program} {H:AH} {s:Nat}
def Kw (P:Program) (H:AH) (s:Nat) (a:AV) (news:List (List AV)):Prop:=∀ (c:Cx) (u:Value),c.H=H->HRel c->c.rel a u ->
 (∀ w,(Builtin.lenOf u).run P w = .ok news.length w)/\(∀ (i:Nat) (row:List AV),news[i]? = some row->row.length=s) /\
 ∀ n,n<=news.length->∃ vs:List Value,(∀ w,w.heap=c.w.heap->(Builtin.firstCells s n u).run P w = .ok vs.toArray w)/\xa c s (news.take n) vs
theorem Kw.of {a:AV} {news:List (List AV)} (len:Nat) (hl:news.length=len) (h:∀ (c:Cx) (u:Value),c.H=H->HRel c->c.rel a u->∃ A cap,u = .slice A len cap/\∀ n,n<=len->∃ vs,SrcIs P c s (.slice A n cap) (news.take n) vs):Kw P H s a news:=fun c u hH hr hu=>by
 obtain ⟨A,cap,rfl,h1⟩:=h c u hH hr hu;refine ⟨fun w=>by rw [hl];simp [Builtin.lenOf],fun i row hi=>?_,fun n hn=>?_⟩
 ·obtain ⟨vs,h2⟩:=h1 len (Nat.le_refl _);refine h2.rows i row ?_;rw [List.take_of_length_le (by omega)];exact hi
 ·obtain ⟨vs,h2⟩:=h1 n (by omega);refine ⟨vs,fun w hw=>?_,h2.is⟩;have h3:=h2.cells w hw;rw [List.length_take,Nat.min_eq_left hn] at h3;rw [<- h3]
  cases A <;> rfl
theorem Kw.own {b ver off len:Nat} {k:ABlk} (hk:H[b]? = some (some k)) (hv:k.ver=ver) (hs:k.s=s) (hn:off+len<=k.rows.length):Kw P H s (.hs b ver s off len) ((k.rows.drop off).take len):=
 .of len (by simp;omega) fun c u hH hr hu=>by
  cases hu with
  | fr h=>cases h
  | @hs _ _ _ _ _ cap A hb hc hm h0 hx=>
   refine ⟨A,cap,rfl,fun n hn' => ?_⟩;rw [List.take_take,Nat.min_eq_left hn'];exact aJ.own hk hv hs (by omega) rfl c _ hH hr (.hs hb (by omega) hm h0 fun x hx'=>⟨(hx x hx').1,by have := (hx x hx').2.1;omega,(hx x hx').2.2.1,(hx x hx').2.2.2⟩)
variable {o:Oper} {ρ:Operand->AV}
variable {α:Type} {c:α->List AV} {l k:List α} {x y:Operand} {t u e:TypeId} {ag:Bool} {w m b ver off len:Nat} {zs:List AV}
def cpy (l:List α) (off:Nat) (k:List α) (len:Nat):List α:=if off+len<=l.length then l.take off++k.take (min k.length len)++l.drop (off+min k.length len) else l
theorem xn (l:List α) (off:Nat) (k:List α) (len:Nat):(cpy l off k len).length=l.length:=by
 unfold cpy
 split
 ·simp only [lla,List.length_take,List.length_drop];omega
 ·rfl
theorem HZ {lo hi:Int} {n:Nat} (h:0<=lo/\lo<=hi/\hi<=(n:Int)) (hn:n=l.length):(0+lo.toNat)+(hi.toNat-lo.toNat)<=l.length:=by omega
end
def Ey (s:ByteArray):List Value:=[.string s]
theorem vp (k:ByteArray):∀ (es:List MapEntry) (ks:List ByteArray) (i:Nat),es.map (·.key)=ks.map (fun k=>mkv (Ey k)) ->
  Instr.findNow .string (.string k) es i=some ((ks.findIdx? (fun x=>decide (x=k))).bind fun j=>es[j]?.map fun e=>(i+j,e.val))
 | [],[],_,_=>rfl
 | [],_::_,_,h=>by simp at h
 | _::_,[],_,h=>by simp at h
 | e::es,s::ks,i,h=>by
  simp only [List.map_cons,List.cons.injEq] at h;obtain ⟨h1,h2⟩:=h;have h1:e.key = .string s:=h1;have ih:=vp k es ks (i+1) h2
  by_cases hs:s=k
  ·subst hs;have hb:(s==s)=true:=(MapKept.bytes_beq s s).2 rfl;simp [Instr.findNow,Instr.sameNow,h1,hb,List.findIdx?_cons]
  ·have hb:(k==s)=false:=by
    cases hc:k==s with
    | false=>rfl
    | true=>exact absurd ((MapKept.bytes_beq k s).1 hc).symm hs
   have hn:Instr.findNow .string (.string k) (e::es) i=Instr.findNow .string (.string k) es (i+1):=by simp [Instr.findNow,Instr.sameNow,h1,hb]
   rw [hn,ih,List.findIdx?_cons,decide_eq_false hs];simp only [Bool.false_eq_true,if_false]
   cases ks.findIdx? fun x=>decide (x=k) with
   | none=>rfl
   | some j=>
    simp only [Option.map_some,Option.bind_some,List.getElem?_cons_succ];rw [show i+1+j=i+(j+1) by omega]
theorem JQ {P:Program} {keyT:TypeId} (ht:P.underlying keyT=some .string):KeyA P keyT 1 Ey where
 len:=fun _=>rfl
 plain:=fun k x hx=>by
  obtain rfl:=List.mem_singleton.1 hx
  rfl
 check:=fun w em k=>MapKept.run_checkKey ht (show MapKept.IsKey .string (.string k) from trivial) em 9999
 find:=fun w k es ks h=>by
  refine MapKept.run_findKey ht (?_:Instr.findNow .string (.string k) es 0=_);rw [vp k es ks 0 h];simp only [Nat.zero_add]
 stays:=fun w k=>MapKept.run_keyThatStays (d:=.string) (show MapKept.IsKey .string (.string k) from trivial)
section
variable {P:Program} {K V:Type} [DecidableEq K] {kn vn:Nat} {kc:K->List Value} {cv:V->List AV} {keyT t e:TypeId} {l:List (K×V)} {ρ:Operand->AV} {H:AH} {x y z:Operand} {b:Nat}
theorem EvA.look (q:KeyA P keyT kn kc) (hv:∀ v,(cv v).length=vn) (d:V) {zv:Value} {ok:Bool} (ht:P.underlying t=some (.map keyT e)) (hz:∀ w,(zeroValue e).run P w = .ok zv w) (hzr:∀ c:Cx,c.rel (mkA (cv d)) zv) (k:K)
 (hx:ρ x = .mp b (kn+vn)) (hy:ρ y=mkA ((kc k).map AV.v)) (hb:H[b]? = some (some (mB kn vn kc cv l))) :
 EvA P ρ (.lookup t x y ok) H (bif ok then .tup [mkA (cv ((yU l k).getD d)),.v (.bool (yU l k).isSome)] else mkA (cv ((yU l k).getD d))) H:=fun _ ho=>CY q hv d ho ht hz hzr k hx hy hb
theorem EvA.mset (q:KeyA P keyT kn kc) (hv:∀ v,(cv v).length=vn) (ht:P.underlying t=some (.map keyT e)) (hs:0<kn+vn) (k:K) (v:V)
 (hx:ρ x = .mp b (kn+vn)) (hy:ρ y=mkA ((kc k).map AV.v)) (hz:(ρ z).cells=some (cv v)) (hzm:mkA (cv v)=ρ z) (hb:H[b]? = some (some (mB kn vn kc cv l))) :
 EvA P ρ (.mapUpdate t x y z) H .top (H.set b (some (mB kn vn kc cv (wI l k v)))):=fun _ ho=>qU q hv (.inl ho) ht hs k v hx hy hz hzm hb
theorem EvA.mins (q:KeyA P keyT kn kc) (hv:∀ v,(cv v).length=vn) (ht:P.underlying t=some (.map keyT e)) (hs:0<kn+vn) (k:K) (v:V)
 (hx:ρ x = .mp b (kn+vn)) (hy:ρ y=mkA ((kc k).map AV.v)) (hz:(ρ z).cells=some (cv v)) (hzm:mkA (cv v)=ρ z) (hb:H[b]? = some (some (mB kn vn kc cv l))) :
 EvA P ρ (.insert t x y z) H .top (H.set b (some (mB kn vn kc cv (wI l k v)))):=fun _ ho=>qU q hv (.inr ho) ht hs k v hx hy hz hzm hb
end
section
variable {K V:Type} {kn vn:Nat} {kc:K->List Value} {cv:V->List AV} {l:List (K×V)} {H:AH}
theorem StayB.mp {m:Nat} (hv:∀ v,(cv v).all (isF 9)=true):StayB m H (some (mB kn vn kc cv l)) (some (mB kn vn kc cv l)) := .keep fun r hr a ha=>by
 obtain ⟨p,_,rfl⟩:=List.mem_map.1 hr;rcases List.mem_append.1 ha with ha | ha
 ·obtain ⟨x,_,rfl⟩:=List.mem_map.1 ha
  rfl
 ·exact sj 9 m a (List.all_eq_true.1 (hv p.2) a ha)
end
section
variable {P:Program} {K V:Type} {kn vn:Nat} {kc:K->List Value} {cv:V->List AV} {keyT t e:TypeId} {l:List (K×V)} {ρ:Operand->AV} {H:AH} {x:Operand} {b:Nat}
theorem EvA.mlen (ht:P.underlying t=some (.map keyT e)) (hx:ρ x = .mp b (kn+vn)) (hb:H[b]? = some (some (mB kn vn kc cv l))):EvA P ρ (.call ⟨.builtin .len,#[x],#[t]⟩) H (.v (.int .i64 l.length)) H:=fun _ ho=>Gw ho ht hx hb
end
section
variable {P:Program} {kn:Nat} {t:TypeId} {ρ:Operand->AV} {H:AH}
theorem EvA.mmk {s:Nat} (hs:0<s):EvA P ρ (.makeMap t none) H (.mp H.length s) (H++[some ⟨0,s,kn,[]⟩]):=fun _ ho=>AA ho hs
end
def kI3 (k:Int×Int×Int):List Value:=[.int .i64 k.1,.int .i64 k.2.1,.int .i64 k.2.2]
section
variable {P:Program} {keyT e:TypeId} {i:TypeInfo}
theorem II (ht:P.underlying keyT=some (.array 3 e)) (he:P.underlying e=some (.int .i64)) (hp:P.plainKey e=true) (hi:P.info? e=some i) (hc:P.cellsOf e=1) (d:Nat) (a b:Int×Int×Int) (w:World) :
  (Op.equalIn (d+1+1) keyT (.agg #[.int .i64 a.1,.int .i64 a.2.1,.int .i64 a.2.2]) (.agg #[.int .i64 b.1,.int .i64 b.2.1,.int .i64 b.2.2])).run P w = .ok (decide (b=a)) w:=by
 have q1:∀ m n:Int,(Op.equalIn (d+1) e (.int .i64 m) (.int .i64 n)).run P w = .ok (m==n) w:=fun m n=>by simp [Op.equalIn,run_underlying he]
 have p1:∀ (xs:Array Value) (o:Nat) (v:Value),xs[o]? = some v->(part e xs o).run P w = .ok v w:=fun xs o v hx=>run_part_plain w hp hx;rw [run_equalIn_array w (d+1) _ _ ht hi,hc];obtain ⟨a1,a2,a3⟩:=a;obtain ⟨b1,b2,b3⟩:=b;have r0:=p1 #[.int .i64 a1,.int .i64 a2,.int .i64 a3] 0 _ rfl;have r1:=p1 #[.int .i64 a1,.int .i64 a2,.int .i64 a3] 1 _ rfl;have r2:=p1 #[.int .i64 a1,.int .i64 a2,.int .i64 a3] 2 _ rfl;have t0:=p1 #[.int .i64 b1,.int .i64 b2,.int .i64 b3] 0 _ rfl;have t1:=p1 #[.int .i64 b1,.int .i64 b2,.int .i64 b3] 1 _ rfl;have t2:=p1 #[.int .i64 b1,.int .i64 b2,.int .i64 b3] 2 _ rfl
 by_cases e1:a1=b1
 ·by_cases e2:a2=b2
  ·by_cases e3:a3=b3
   ·subst e1 e2 e3;simp [List.range_succ,Op.eqItems,Sem.run_bind,r0,r1,r2,q1]
   ·subst e1 e2;simp [List.range_succ,Op.eqItems,Sem.run_bind,r0,r1,r2,t0,t1,t2,q1,e3,Ne.symm e3]
  ·subst e1;simp [List.range_succ,Op.eqItems,Sem.run_bind,r0,r1,t0,t1,q1,e2,Ne.symm e2]
 ·simp [List.range_succ,Op.eqItems,Sem.run_bind,r0,t0,q1,e1,Ne.symm e1]
theorem GA (ht:P.underlying keyT=some (.array 3 e)) (he:P.underlying e=some (.int .i64)) (hp:P.plainKey e=true) (hi:P.info? e=some i) (hc:P.cellsOf e=1) (a b:Int×Int×Int) (w:World) :
 (Op.equal keyT (mkv (kI3 a)) (mkv (kI3 b))).run P w = .ok (decide (b=a)) w:=II ht he hp hi hc 9998 a b w
theorem IJ (ht:P.underlying keyT=some (.array 3 e)) (he:P.underlying e=some (.int .i64)) (hp:P.plainKey e=true) (hi:P.info? e=some i) (hc:P.cellsOf e=1) (d:Nat) (em:Bool) (x y z:Int) (w:World) :
  (Instr.checkKey em (d+1+1) keyT (.agg #[.int .i64 x,.int .i64 y,.int .i64 z])).run P w = .ok () w:=by
 have c1:∀ n:Int,(Instr.checkKey em (d+1) e (.int .i64 n)).run P w = .ok () w:=fun n=>by simp [Instr.checkKey,run_underlying he]
 have r0:(part e #[.int .i64 x,.int .i64 y,.int .i64 z] 0).run P w = .ok (.int .i64 x) w:=run_part_plain w hp rfl;have r1:(part e #[.int .i64 x,.int .i64 y,.int .i64 z] 1).run P w = .ok (.int .i64 y) w:=run_part_plain w hp rfl;have r2:(part e #[.int .i64 x,.int .i64 y,.int .i64 z] 2).run P w = .ok (.int .i64 z) w:=run_part_plain w hp rfl;rw [Instr.checkKey];simp only [Sem.run_bind,run_underlying ht,Result.andThen_ok];simp [Std.Legacy.Range.forIn_eq_forIn_range',Std.Legacy.Range.size,List.range'_succ,Sem.run_bind,run_sizeOf w hi,hc,r0,r1,r2,c1]
theorem JR (d:Nat) (x y z:Int):Instr.sameBits (d+1) (.agg #[.int .i64 x,.int .i64 y,.int .i64 z]) (.agg #[.int .i64 x,.int .i64 y,.int .i64 z])=true:=by
 simp [Instr.sameBits]
theorem qW (ht:P.underlying keyT=some (.array 3 e)) (he:P.underlying e=some (.int .i64)) (hp:P.plainKey e=true) (hi:P.info? e=some i) (hc:P.cellsOf e=1) (k:Int×Int×Int) (w:World):∀ (es:List MapEntry) (ks:List (Int×Int×Int)) (q:Nat),es.map (·.key)=ks.map (fun k=>mkv (kI3 k)) ->
  (Instr.findAsking keyT (mkv (kI3 k)) es q).run P w = .ok ((ks.findIdx? (fun x=>decide (x=k))).bind fun j=>es[j]?.map fun e=>(q+j,e.val)) w
 | [],[],_,_=>rfl
 | [],_::_,_,h=>by simp at h
 | _::_,[],_,h=>by simp at h
 | en::es,s::ks,q,h=>by
  simp only [List.map_cons,List.cons.injEq] at h;obtain ⟨h1,h2⟩:=h;have ih:=qW ht he hp hi hc k w es ks (q+1) h2;unfold Instr.findAsking;simp only [Sem.run_bind,h1,GA ht he hp hi hc,Result.andThen_ok]
  by_cases hs:s=k
  ·subst hs;simp [List.findIdx?_cons]
  ·rw [decide_eq_false hs];simp only [Bool.false_eq_true,if_false,ih,List.findIdx?_cons,decide_eq_false hs]
   cases ks.findIdx? fun x=>decide (x=k) with
   | none=>rfl
   | some j=>
    simp only [Option.map_some,Option.bind_some,List.getElem?_cons_succ];rw [show q+1+j=q+(j+1) by omega]
theorem KM (ht:P.underlying keyT=some (.array 3 e)) (he:P.underlying e=some (.int .i64)) (hp:P.plainKey e=true) (hi:P.info? e=some i) (hc:P.cellsOf e=1):KeyA P keyT 3 kI3 where
 len:=fun _=>rfl
 plain:=fun k x hx=>by
  simp only [kI3,List.mem_cons,List.not_mem_nil,or_false] at hx;rcases hx with rfl | rfl | rfl <;> rfl
 check:=fun w em k=>IJ ht he hp hi hc 9998 em k.1 k.2.1 k.2.2 w
 find:=fun w k es ks h=>by
  rw [run_findKey_eq w (by rw [ht]) _ es,qW ht he hp hi hc k w es ks 0 h];simp only [Nat.zero_add]
 stays:=fun w k=>by
  have : Instr.sameBits 10000 (mkv (kI3 k)) (mkv (kI3 k))=true:=JR 9999 k.1 k.2.1 k.2.2;unfold Instr.keyThatStays;rw [if_pos this]
  rfl
end
theorem Cx.trim {c:Cx} {b ver s off n:Nat} {ty:TypeId} {rows:List (List AV)} (hr:HRel c) (hb:c.H[b]? = some (some ⟨ver,s,ty,rows⟩)) (hle:off+n<=rows.length) {v:Value} (hv:c.rel (.hs b ver s off n) v) :
  ∃ c':Cx,c'.w=c.w/\c'.H=c.H.set b (some ⟨ver+1,s,ty,(rows.drop off).take n⟩)/\HRel c'/\Ext c c'/\c'.rel (.hs b (ver+1) s 0 n) v:=by
 have hlv:c.live b ⟨ver,s,ty,rows⟩:=hb;have hblt:b<c.H.length:=(ges hb).1;obtain ⟨cs,fr,hB⟩:=hr.blk b _ hlv
 cases hv with
 | fr h=>cases h
 | @hs _ _ _ _ _ cap A hbn hc hm h0 hh=>
  obtain ⟨fr,rfl,hat,hd⟩:=hB.cells hlv (fun x hx=>(hh x hx).1);obtain ⟨_,hn,hA,hcap⟩:=hh _ hd;let c':Cx:={ w:=c.w,fz:=c.fz,H:=c.H.set b (some ⟨ver+1,s,ty,(rows.drop off).take n⟩),φ:=fun j=>if j=b then ((c.φ b).1,(c.φ b).2+off*s) else c.φ j };have φb:c'.φ b=((c.φ b).1,(c.φ b).2+off*s):=if_pos rfl;have φo:∀ {j},j≠b->c'.φ j=c.φ j:=fun {j} hj=>if_neg hj;have φ1:∀ j,(c'.φ j).1=(c.φ j).1:=fun j=>by
   by_cases hj:j=b
   ·subst hj;rw [φb]
   ·rw [φo hj]
  have Hb:c'.H[b]? = some (some ⟨ver+1,s,ty,(rows.drop off).take n⟩):=by
   show (c.H.set b _)[b]? = _;rw [List.getElem?_set_self hblt]
  have Ho:∀ {j},j≠b->c'.H[j]? = c.H[j]? := fun {j} hj=>by
   show (c.H.set b _)[j]? = _;rw [List.getElem?_set_ne (Ne.symm hj)]
  have lv:∀ {j k},c'.live j k->(j=b/\k=⟨ver+1,s,ty,(rows.drop off).take n⟩)\/(j≠b/\c.live j k):=fun {j k} hl=>by
   by_cases hj:j=b
   ·subst hj;have hl':c'.H[j]? = some (some k):=hl;rw [Hb] at hl';injection hl' with hl';injection hl' with hl';exact .inl ⟨rfl,hl'.symm⟩
   ·have hl':c'.H[j]? = some (some k):=hl;rw [Ho hj] at hl';exact .inr ⟨hj,hl'⟩
  have hx:Ext c c':=by
   refine ⟨rfl,rfl,rfl,Nat.le_refl _,fun _ _ _=>rfl,fun _ h=>h,fun _ h => .inl h,by show c.H.length<=(c.H.set b _).length;rw [List.length_set];exact Nat.le_refl _,fun j q hj=>?_,fun j q x hj hx=>?_,fun j k hl => .inr ?_⟩
   ·by_cases e:j=b
    ·subst e;unfold Cx.born at hj ⊢;rw [hb] at hj;rw [Hb];simp only at hj ⊢;omega
    ·unfold Cx.born at hj ⊢;rw [Ho e];exact hj
   ·by_cases e:j=b
    ·subst e;unfold Cx.born at hj;rw [hb] at hj;unfold Cx.hd at hx;rw [Hb] at hx;simp only at hj hx;rw [if_neg (by omega)] at hx
     cases hx
    ·unfold Cx.hd at hx ⊢;rw [Ho e,φo e] at hx;exact hx
   ·rcases lv hl with ⟨rfl,_⟩ | ⟨_,h⟩
    ·exact ⟨j,_,hlv,(φ1 j).symm⟩
    ·exact ⟨j,k,h,(φ1 j).symm⟩
  have hlen:((rows.drop off).take n).length=n:=by rw [List.length_take,List.length_drop];omega
  have hfit:=hB.fits;simp only at hfit;refine ⟨c',rfl,rfl,⟨hr.lt,fun j k hl=>?_,fun j j' k k' hl hl' hne=>?_⟩,hx,?_⟩
  ·rcases lv hl with ⟨rfl,rfl⟩ | ⟨hj,h⟩
   ·refine ⟨cs,some fr,⟨?_,?_,hB.pos,hB.free,?_,fun i r hi=>?_,fun i r q a hi ha=>?_⟩⟩
    ·show c.w.heap[(c'.φ j).1]? = _;rw [φ1,hat]
     rfl
    ·rw [φ1];exact hB.nf
    ·rw [φb];show (c.φ j).2+off*s+((rows.drop off).take n).length*s<=cs.size;rw [hlen];have : off*s+n*s<=rows.length*s:=by rw [<- Nat.add_mul];exact Nat.mul_le_mul_right s hle
     omega
    ·have hi':((rows.drop off).take n)[i]? = some r:=hi;rw [List.getElem?_take] at hi'
     split at hi'
     ·rw [List.getElem?_drop] at hi';exact hB.len _ r hi'
     ·cases hi'
    ·have hi':((rows.drop off).take n)[i]? = some r:=hi;rw [List.getElem?_take] at hi'
     split at hi'
     ·rw [List.getElem?_drop] at hi';obtain ⟨u,g1,g2,g3⟩:=hB.rel _ r q a hi' ha;refine ⟨u,?_,g2,g3.ext hr hx⟩;rw [φb];show cs[(c.φ j).2+off*s+i*s+q]? = some u;rw [<- g1]
      congr 1
      show (c.φ j).2+off*s+i*s+q=(c.φ j).2+(off+i)*s+q;rw [Nat.add_mul];omega
     ·cases hi'
   ·obtain ⟨cs',fr',hB'⟩:=hr.blk j k h;exact ⟨cs',fr',⟨by rw [φo hj];exact hB'.at_,by rw [φo hj];exact hB'.nf,hB'.pos,hB'.free,by rw [φo hj];exact hB'.fits,hB'.len,fun i r q a hi ha=>by
     obtain ⟨u,g1,g2,g3⟩:=hB'.rel i r q a hi ha;exact ⟨u,by rw [φo hj];exact g1,g2,g3.ext hr hx⟩⟩⟩
  ·have old:∀ {j k},c'.live j k->∃ k0,c.live j k0:=fun {j k} hl=>by
    rcases lv hl with ⟨rfl,_⟩ | ⟨_,h⟩
    ·exact ⟨_,hlv⟩
    ·exact ⟨_,h⟩
   obtain ⟨_,h1⟩:=old hl;obtain ⟨_,h2⟩:=old hl';rw [φ1,φ1];exact hr.inj j j' _ _ h1 h2 hne
  ·refine .hs ?_ hc hm h0 fun x hx=>?_
   ·unfold Cx.born;rw [Hb];exact Nat.le_refl _
   ·have hat':c'.w.heap[(c'.φ b).1]? = some (.cells cs ty fr):=by rw [φ1];exact hat
    have := Cx.hd_of (c:=c') (b:=b) (k:=⟨ver+1,s,ty,(rows.drop off).take n⟩) Hb hat';have he:=hx.symm.trans this;simp only [hdo,Option.some.injEq] at he;subst he;rw [φb];refine ⟨rfl,by show 0+n<=((rows.drop off).take n).length;rw [hlen];omega,fun hp=>?_,?_⟩
    ·show A=some ⟨(c.φ b).1,(c.φ b).2+off*s+0*s,none⟩;rw [Nat.zero_mul];exact hA hp
    ·show (c.φ b).2+off*s+0*s+cap*s<=cs.size;rw [Nat.zero_mul];exact hcap
section
variable {P:Program} {ρ:Operand->AV} {H:AH}
theorem EvA.trim {op:Op} {b ver s off n:Nat} {ty:TypeId} {rows:List (List AV)} (h:LA P ρ op (.hs b ver s off n)) (hb:H[b]? = some (some ⟨ver,s,ty,rows⟩)) (hle:off+n<=rows.length) :
  EvA P ρ op H (.hs b (ver+1) s 0 n) (H.set b (some ⟨ver+1,s,ty,(rows.drop off).take n⟩)):=fun o ho c a K Q hH hr hxs hK=>
 h o ho H c a K Q hH hr hxs fun v c1 hH1 hr1 hx1 hv1=>by
  obtain ⟨c2,e1,e2,e3,e4,e5⟩:=Cx.trim hr1 (by rw [hH1];exact hb) hle hv1;rw [<- e1];exact hK v c2 (by rw [e2,hH1]) e3 (hx1.trans e4) e5
theorem EvA.cutO {α:Type} {f:α->List AV} {op:Op} {b ver w n:Nat} {ty:TypeId} (l:List α) {zl zh:Int} (h:LA P ρ op (.hs b ver w (0+zl.toNat) (zh.toNat-zl.toNat))) (hb:H[b]? = some (bE false ver w ty (l.map f))) (hn:n=l.length)
  (g:0<=zl/\zl<=zh/\zh<=(n:Int)) :
  EvA P ρ op H (hS false b (ver+1) w ((l.drop zl.toNat).take (zh.toNat-zl.toNat)).length) (H.set b (bE false (ver+1) w ty (((l.drop zl.toNat).take (zh.toNat-zl.toNat)).map f))):=by
 obtain ⟨g1,g2,g3⟩:=g;have hl:((l.drop zl.toNat).take (zh.toNat-zl.toNat)).length=zh.toNat-zl.toNat:=by rw [List.length_take,List.length_drop];omega
 have := EvA.trim h (rows:=l.map f) hb (by rw [List.length_map];omega);rw [hl,List.map_take,List.map_drop];rw [Nat.zero_add] at this;exact this
inductive FzP (H:AH):AV->AV->Prop
 | fz {a a':AV} (h:Fz 0 H a a'):FzP H a a'
 | hp {b ver s j:Nat} {ty:TypeId} {r x row':List AV} (hk:H[b]? = some (some ⟨ver,s,ty,[r++x]⟩)) (h:FzL 0 H r row'):FzP H (.hp b ver s 0 j) (.fp row' j)
theorem FzP.sound {c:Cx} (hr:HRel c) {a r:AV} (h:FzP c.H a r):∀ v,c.rel a v->FRel c.w (c.all 0) r v:=by
 cases h with
 | fz h=>exact Fz.sound hr h
 | @hp b ver s j ty r x row' hk h=>
  intro u hu;have hlv:c.live b ⟨ver,s,ty,[r++x]⟩:=hk;obtain ⟨hl,h⟩:=h.spec;obtain ⟨cs,fr,hB⟩:=hr.blk b _ hlv
  cases hu with
  | fr h=>cases h
  | hp hb hh=>
   obtain ⟨fr,rfl,hat,hd⟩:=hB.cells hlv (fun x hx=>(hh x hx).1);obtain ⟨hs',rfl⟩:=hh _ hd;refine .fp (g:=(c.φ b).1) (o:=(c.φ b).2+0*s) (fun j=>(cs[(c.φ b).2+0*s+j]?).getD undef) (.inr ⟨b,_,Nat.zero_le _,hlv,rfl⟩) (hr.live_lt hlv) (fun q d hq=>?_) (fun q d hq=>?_) (fun q d hq=>?_)
   all_goals
    obtain ⟨y,hy⟩:=aV hl.symm hq;have hlt:=(ges hy).1;obtain ⟨u,g1,g2,g3⟩:=hB.rel 0 (r++x) q y rfl (by rw [gal hlt];exact hy);replace g1:cs[(c.φ b).2+0*s+q]? = some u:=g1
   ·rw [cell_of_row c.w _ _ cs ty fr hat,g1]
    rfl
   ·rw [g1];exact g2
   ·rw [g1];exact Fz.sound hr (h q y d hy hq) u g3
inductive FzPL (H:AH):List AV->List AV->Prop
 | nil:FzPL H [] []
 | cons {a b:AV} {l k:List AV} (h:FzP H a b) (t:FzPL H l k):FzPL H (a::l) (b::k)
theorem FzPL.spec {l k:List AV} (h:FzPL H l k):l.length=k.length/\∀ (i:Nat) (c d:AV),l[i]? = some c->k[i]? = some d->FzP H c d:=by
 induction h with
 | nil=>exact ⟨rfl,fun i c d h=>by simp at h⟩
 | cons h t ih=>
  refine ⟨by simp [ih.1],fun i c d h1 h2=>?_⟩
  cases i with
  | zero=>
   simp only [List.getElem?_cons_zero,Option.some.injEq] at h1 h2;subst h1 h2;exact h
  | succ i=>
   simp only [List.getElem?_cons_succ] at h1 h2;exact ih.2 i c d h1 h2
theorem aA.tmpP {f:FuncId} {r:AV} {LW as':List AV} (h:aA P f as' r) (hl0:LW.length=as'.length) (hz:∀ (i:Nat) (a a':AV),LW[i]? = some a->as'[i]? = some a'->FzP H a a') (hd:dry 9 r=true):eM P f LW H r H:=by
 refine ⟨h.1,fun c vs hH hr hall=>?_⟩;obtain ⟨hl,hrel⟩:=hall;refine (h.2 c.w (c.all 0) vs (fun g hg=>Cx.all_lt hr hg) (hl.trans hl0) (fun i a v ha hv=>?_)).mono fun e w' ⟨v,fz',he,hb,hv,h1,h2,h3⟩ => ?_
 ·obtain ⟨q,hq⟩:=aV hl0.symm ha;exact FzP.sound hr (by rw [hH];exact hz i q a hq ha) v (hrel i q v hq hv)
 ·obtain ⟨g1,g2⟩:=ou hr hb (fz':=fun _=>False) (fun g hg=>hg.elim) (fun g hg=>hg.elim) (fun b k hlv hz=>hz.elim);exact ⟨v,{ w:=w',fz:=fun g=>c.fz g\/False,H:=c.H,φ:=c.φ },he,rfl,hH,g1,g2,.fr (uA 9 r v hd hv)⟩
theorem EvA.callTP {cl:Call} {f:Operand} {g:FuncId} {LW:List AV} {r:AV} (hc:cl.callee = .value f) (hf:ρ f = .fn (.func g) []) (h:aA P g LW r) (hz:FzPL H (cl.args.toList.map ρ) LW) (hd:dry 9 r=true):EvA P ρ (.call cl) H r H:=
 EvA.call hc hf (List.append_nil _) (h.tmpP hz.spec.1 hz.spec.2 hd)
end
def JS (r:AV) (G:Nat->AH):AV->AH->Prop:=fun r' G'=>∃ ver,r'=r/\G'=G ver
def K9:List Nat->AH->AH->AH
 | [],_,H=>H
 | b::bs,G,H=>match G with
  | []=>H
  | x::xs=>K9 bs xs (H.set b x)
def Jy (H:AH) (ids:List Nat) (G:AH):AH:=K9 ids G H
theorem vq {H:AH} {b:Nat} {bs:List Nat} {x:Option ABlk} {xs:AH}:Jy H (b::bs) (x::xs)=Jy (H.set b x) bs xs:=rfl
theorem vu:∀ (ids:List Nat) (H G:AH),(Jy H ids G).length=H.length
 | [],_,_=>rfl
 | _::_,_,[]=>rfl
 | b::bs,H,x::xs=>by rw [vq,vu bs,List.length_set]
theorem AR {b:Nat}:∀ (ids:List Nat) (H G:AH),b∉ids->(Jy H ids G)[b]? = H[b]?
 | [],_,_,_=>rfl
 | _::_,_,[],_=>rfl
 | c::bs,H,x::xs,h=>by
  rw [vq,AR bs _ _ (fun hm=>h (.tail _ hm)),List.getElem?_set_ne (fun e=>h (by rw [e];exact List.mem_cons_self))]
theorem AU:∀ (ids:List Nat) (H G:AH) (i b:Nat),ids.Nodup->ids[i]? = some b->b<H.length->i<G.length->(Jy H ids G)[b]? = G[i]?
 | [],_,_,_,_,_,h,_,_=>by simp at h
 | _::_,_,[],_,_,_,_,_,h=>by simp at h
 | c::bs,H,x::xs,i,b,hn,h,hb,hi=>by
  rw [vq];obtain ⟨hn1,hn2⟩:=List.nodup_cons.1 hn
  cases i with
  | zero=>
   simp only [List.getElem?_cons_zero,Option.some.injEq] at h;subst h;rw [AR bs _ _ hn1,List.getElem?_set_self hb]
   rfl
  | succ i=>
   simp only [List.getElem?_cons_succ] at h;rw [AU bs _ xs i b hn2 h (by rw [List.length_set];exact hb) (by simpa using hi)]
   rfl
inductive OutAt (S:Nat->Nat->Prop) (H:AH):List Nat->AH->Prop
 | nil:OutAt S H [] []
 | cons {b:Nat} {k k0:ABlk} {bs:List Nat} {G:AH} (hb:H[b]? = some (some k)) (hk:RenK S k k0) (t:OutAt S H bs G):OutAt S H (b::bs) (some k0::G)
theorem OutAt.spec {S:Nat->Nat->Prop} {H:AH} {ids:List Nat} {G:AH} (h:OutAt S H ids G):ids.length=G.length/\∀ (i b:Nat),ids[i]? = some b->∃ k k0:ABlk,H[b]? = some (some k)/\G[i]? = some (some k0)/\RenK S k k0:=by
 induction h with
 | nil=>exact ⟨rfl,fun i b h=>by simp at h⟩
 | @cons b k k0 bs G hb hk t ih=>
  refine ⟨by simp [ih.1],fun i c h=>?_⟩
  cases i with
  | zero=>
   simp only [List.getElem?_cons_zero,Option.some.injEq] at h;subst h;exact ⟨k,k0,hb,rfl,hk⟩
  | succ i=>
   simp only [List.getElem?_cons_succ] at h ⊢;exact ih.2 i c h
section
variable {P:Program}
theorem bA.outAt {f:FuncId} {as0 LW:List AV} {H0 H:AH} {r0 r:AV} {G0:Nat->AH} (h:bA P f as0 H0 (JS r0 G0)) (ids:List Nat) (hn:ids.Nodup) (hin:OutAt (fun b i=>ids[i]? = some b) H ids H0) (has:RenL (fun b i=>ids[i]? = some b) LW as0)
  {G G':Nat->AH} (N:Nat) (hN:H.length=N) (hout:∀ v,RenHL (sg ids N) (G0 v) (G v)) (hlen:∀ v,(G0 v).length=ids.length) (hr:Ren (sg ids N) r0 r) (hG:∀ v,Jy H ids (G v)=G' v):bA P f LW H (JS r G'):=by
 subst hN;refine h.frame ids hn hin.spec.1 hin.spec.2 has.spec.1 has.spec.2 fun r1 G1 ⟨v,e1,e2⟩=>⟨r,G' v,?_,by rw [e1];exact hr,v,rfl,rfl⟩;subst e2;obtain ⟨l1,l2,l3⟩:=(hout v).spec;have hl:=hlen v;have lt:∀ {i b},ids[i]? = some b->b<H.length:=fun {i b} hi=>by
  obtain ⟨k,_,h1,_⟩:=hin.spec.2 i b hi;exact (ges h1).1
 have sgi:∀ {i b},i<(G0 v).length->sg ids H.length i b->ids[i]? = some b:=fun {i b} hi hs=>by
  rcases hs with hs | ⟨hs,_⟩
  ·exact hs
  ·omega
 refine ⟨by omega,by rw [<- hG,vu];omega,fun i b hi hs hd=>?_,fun i b k0 hs hk=>?_,fun b hb hni=>by rw [<- hG,AR _ _ _ hni]⟩
 ·have hib:=sgi hi hs;rw [<- hG,AU ids H (G v) i b hn hib (lt hib) (by omega)];have hg:i<(G v).length:=by omega
  rw [geq hg]
  cases hc:(G v)[i] with
  | none=>rfl
  | some k'=>
   obtain ⟨k,h1,_⟩:=l3 i k' (by rw [geq hg,hc]);rw [hd] at h1
   cases h1
 ·have hi:=(ges hk).1;have hib:=sgi hi hs;obtain ⟨k',h1,h2⟩:=l2 i k0 hk;refine ⟨k',?_,h2⟩;rw [<- hG,AU ids H (G v) i b hn hib (lt hib) (by omega)];exact h1
end
section
variable {P:Program} {nt b0:Nat} {Q:Exit->Env->AH->Prop} {en:List (Nat×AV)} {H:AH} {ops:Array Oper} {l:List Oper} {d:Tmp} {t:TypeId} {pos:String} {af:Array Edge}
theorem oW {cl:Call} {f:Operand} {g:FuncId} {caps LW:List AV} {r:AV} {G:Nat->AH} (hc:cl.callee = .value f) (hf:rho (ah en) f = .fn (.func g) caps) (ha:cl.args.toList.map (rho (ah en))++caps=LW)
  (h:bA P g LW H (JS r G)) (k:∀ ver,TO P nt b0 ops l Q (ah ((d,r)::en)) (G ver)):TO P nt b0 ops (⟨some d,.call cl,t,pos,af,none⟩::l) Q (ah en) H:=by
 subst ha;exact TO.runG (.free rfl) (uD rfl hc hf h) fun r' H' ⟨ver,hr,hH⟩=>by
  subst hr hH;exact k ver
end
theorem RenK.mB {K V:Type} {kn vn:Nat} {kc:K->List Value} {cv:V->List AV} {l:List (K×V)} (S:Nat->Nat->Prop) (hv:∀ v,(cv v).all (isF 9)=true):RenK S (mB kn vn kc cv l) (mB kn vn kc cv l) := .ofF fun r hr a ha=>by
 obtain ⟨p,_,rfl⟩:=List.mem_map.1 hr;rcases List.mem_append.1 ha with ha | ha
 ·obtain ⟨x,_,rfl⟩:=List.mem_map.1 ha
  rfl
 ·exact List.all_eq_true.1 (hv p.2) a ha
theorem RenK.bE' {S:Nat->Nat->Prop} {α:Type} {v w:Nat} {ty:TypeId} {f:α->List AV} {x:List α} (hf:∀ x,(f x).all (isF 9)=true):RenK S ⟨v,w,ty,x.map f⟩ ⟨v,w,ty,x.map f⟩ := .ofF fun r hr a ha=>kx hf r hr a ha
section
variable {P:Program} {K:Type} [DecidableEq K] {kn:Nat} {kc:K->List Value} {keyT t e:TypeId} {l:List (K×Bool)} {ρ:Operand->AV} {H:AH} {x y z:Operand} {b:Nat}
theorem GD {zv:Value} (hz:(P.info? e).bind (·.zero)=some zv) (w:World):(zeroValue e).run P w = .ok zv w:=by
 cases hi:P.info? e with
 | none=>rw [hi] at hz;cases hz
 | some i=>
  rw [hi] at hz;have hz':i.zero=some zv:=hz;simp [zeroValue,typeInfo,hi,hz']
theorem EvA.lookB (q:KeyA P keyT kn kc) (ht:P.underlying t=some (.map keyT e)) (hz:(P.info? e).bind (·.zero)=some (.bool false)) (k:K)
  (hx:ρ x = .mp b (kn+1)) (hy:ρ y=mkA ((kc k).map AV.v)) (hb:H[b]? = some (some (mB kn 1 kc cB l))) :
  EvA P ρ (.lookup t x y false) H (Bo ((yU l k).getD false)) H:=
 EvA.look (vn:=1) (cv:=cB) (ok:=false) q (fun _=>rfl) false ht (GD hz) (fun _ => .fr (.v rfl)) k hx hy hb
theorem EvA.msetB (q:KeyA P keyT kn kc) (ht:P.underlying t=some (.map keyT e)) (k:K) (v:Bool)
  (hx:ρ x = .mp b (kn+1)) (hy:ρ y=mkA ((kc k).map AV.v)) (hz:ρ z=Bo v) (hb:H[b]? = some (some (mB kn 1 kc cB l))) :
  EvA P ρ (.mapUpdate t x y z) H .top (H.set b (some (mB kn 1 kc cB (wI l k v)))):=
 EvA.mset (vn:=1) (cv:=cB) q (fun _=>rfl) ht (Nat.succ_pos kn) k v hx hy (by rw [hz];rfl) (by rw [hz];rfl) hb
omit [DecidableEq K] in
theorem EvA.mmkB (kc:K->List Value) {n:Nat} (hn:H.length=n):EvA P ρ (.makeMap t none) H (.mp n (kn+1)) (H++[some (mB kn 1 kc cB ([]:List (K×Bool)))]):=by
 subst hn;exact EvA.mmk (kn:=kn) (Nat.succ_pos kn)
end
section
variable {P:Program}
theorem bA.mkS {f:FuncId} {fn:Func} {body:Code} {LW:List AV} {H:AH} {R:AV->AH->Prop} (hf:P.funcs[f]? = some fn) (hb:fn.body=some body) (hcall:eH P f=true) (hn:Nat.ble LW.length fn.ntmps=true)
 (hok:codeOk fn.ntmps body=true) {e0:Env} (hw:xX (DG LW) e0) (h:T P fn.ntmps H.length body (SQ H.length (Fin P fn R)) e0 H):bA P f LW H R:=bA.mkT hf hb hcall hn hok hw h.leaf
end
section
variable {P:Program} {ρ:Operand->AV} {H:AH}
theorem Ez {o:Oper} {t:TypeId} {x:Operand} {cs:List AV} {b:Nat} (ho:o.op = .box t x) (hc:(ρ x).cells=some cs) (h0:0<cs.length) (hb:H[b]? = some none):Lv P o ρ H (.hp b 0 cs.length 0 0) (H.set b (some ⟨0,cs.length,t,[cs]⟩)):=by
 intro c a K Q hH hr hx hK;have hx1:=hx x (by rw [ho];simp [Op.operands]);have hz':=ol hx1 hc;have hsz:=hz'.size;subst hH;have hrel:HRel (c.newAt b ⟨0,cs.length,t,[cs]⟩ (a.eval x).cells):=by
  refine Cx.newAt_rel hr hb h0 (by simp;omega) (fun i row h=>?_) (fun i row j a h1 h2=>?_)
  ·match i,h with
   | 0,h=>simp at h;rw [<- h]
   | i+1,h=>simp at h
  ·match i,h1 with
   | 0,h1=>
    simp only [List.getElem?_cons_zero,Option.some.injEq] at h1;subst h1;simpa using hz'.get h2
   | i+1,h1=>simp at h1
 have hrun:(execOp a.eval o).run P c.w = .ok (.value (.pointer (some ⟨c.w.heap.size,0,none⟩))) (c.newAt b ⟨0,cs.length,t,[cs]⟩ (a.eval x).cells).w:=by
  rw [execOp,ho];refine (?_:Sem.run P _ c.w=_);have : (Instr.box t (a.eval x)).run P c.w = .ok (.pointer (some ⟨c.w.heap.size,0,none⟩)) (c.w.alloc (.cells (a.eval x).cells t)):=by
   simp [Instr.box,newVar,newRow]
  simp only [Sem.run_bind,this,Result.andThen_ok,Sem.run_pure]
  rfl
 unfold Oper.wp;rw [hrun];have hl2:=Cx.newAt_self (c:=c) (k:=⟨0,cs.length,t,[cs]⟩) (cs:=(a.eval x).cells) hb;have hφ2:(c.newAt b ⟨0,cs.length,t,[cs]⟩ (a.eval x).cells).φ b=(c.w.heap.size,0):=if_pos rfl;refine hK _ (c.newAt b ⟨0,cs.length,t,[cs]⟩ (a.eval x).cells) rfl hrel (Cx.newAt_ext hr hb) (.hp ?_ fun q hq=>?_)
 ·unfold Cx.born;rw [show (c.newAt b ⟨0,cs.length,t,[cs]⟩ (a.eval x).cells).H[b]? = some (some _) from hl2];exact Nat.le_refl _
 ·have := Cx.hd_of hl2 (o:=.cells (a.eval x).cells t) (by rw [hφ2];exact heap_alloc_new _ _);rw [hφ2] at this;have he:=hq.symm.trans this;simp only [hdo,Option.some.injEq] at he;subst he;exact ⟨rfl,by simp⟩
theorem EvA.bxA {t:TypeId} {x:Operand} {cs:List AV} (b:Nat) (hx:(ρ x).cells=some cs) (hn:(Nat.blt 0 cs.length)=true) (hb:H[b]? = some none):EvA P ρ (.box t x) H (.hp b 0 cs.length 0 0) (H.set b (some ⟨0,cs.length,t,[cs]⟩)):=
 fun _ ho=>Ez ho hx (nlb hn) hb
end
def Cx.mapAt (c:Cx) (b:Nat) (k:ABlk):Cx:={ w:=c.w.alloc (.map #[] 0),fz:=c.fz,H:=c.H.set b (some k),φ:=fun q=>if q=b then (c.w.heap.size,0) else c.φ q }
section
variable {c:Cx} {b:Nat} {k:ABlk}
theorem Cx.mapAt_live {q:Nat} {k':ABlk} (h:(c.mapAt b k).live q k'):(q=b/\k'=k)\/(q≠b/\c.live q k'):=Cx.newAt_live (cs:=#[]) h
theorem Cx.mapAt_φ {q:Nat} (h:q≠b):(c.mapAt b k).φ q=c.φ q:=if_neg h
theorem Cx.mapAt_ext (hr:HRel c) (hb:c.H[b]? = some none):Ext c (c.mapAt b k) where
 os:=rfl
 tape:=rfl
 output:=rfl
 size:=by simp [Cx.mapAt]
 keep:=fun g hg _=>Below.heap_alloc _ _ _ hg
 fz:=fun _ h=>h
 fzNew:=fun _ h => .inl h
 N:=by simp [Cx.mapAt]
 born:=fun _ _ h=>(Cx.newAt_born (k:=k) (cs:=#[]) hb h).2
 hd:=fun q ver x hq hx=>by
  obtain ⟨k',hl,hv,o,hc,hx'⟩:=Cx.hd_some hx;have hne:=(Cx.newAt_born (k:=k) (cs:=#[]) hb hq).1;rcases Cx.mapAt_live hl with ⟨e,_⟩ | ⟨_,hl'⟩
  ·exact absurd e hne
  ·rw [Cx.mapAt_φ hne] at hc hx';have hh:c.w.heap[(c.φ q).1]? = some o:=by
    rw [<- hc];exact (Below.heap_alloc _ _ _ (hr.live_lt hl')).symm
   rw [<- hv];exact (Cx.hd_of hl' hh).trans hx'
 liveNew:=fun q k' hl=>by
  rcases Cx.mapAt_live hl with ⟨rfl,rfl⟩ | ⟨hne,hl'⟩
  ·left
   simp [Cx.mapAt]
  ·exact .inr ⟨q,k',hl',by rw [Cx.mapAt_φ hne]⟩
theorem Cx.mapAt_rel (hr:HRel c) (hb:c.H[b]? = some none) {kn s:Nat} (hs:0<s):HRel (c.mapAt b ⟨0,s,kn,[]⟩) where
 lt:=fun g hg=>by
  have := hr.lt g hg;simp [Cx.mapAt];omega
 blk:=fun q k' hq=>by
  rcases Cx.mapAt_live hq with ⟨rfl,rfl⟩ | ⟨hne,hl'⟩
  ·have e:(c.mapAt q ⟨0,s,kn,[]⟩).φ q=(c.w.heap.size,0):=if_pos rfl;exact ⟨#[],none,⟨by rw [e];exact (heap_alloc_new c.w (.map #[] 0)).trans (by simp [CJ]),by rw [e];exact fun hz=>Nat.lt_irrefl _ (hr.lt _ hz),hs,fun f hf=>by (cases hf),by rw [e];simp,fun i row h=>by simp at h,fun i row j a h=>by simp at h⟩⟩
  ·obtain ⟨cs',fr,hB⟩:=hr.blk q k' hl';refine ⟨cs',fr,⟨by rw [Cx.mapAt_φ hne];exact (Below.heap_alloc _ _ _ (hr.live_lt hl')).trans hB.at_,by rw [Cx.mapAt_φ hne];exact hB.nf,hB.pos,hB.free,by rw [Cx.mapAt_φ hne];exact hB.fits,hB.len,fun i row j a h1 h2=>?_⟩⟩;obtain ⟨u,h3,h4,h5⟩:=hB.rel i row j a h1 h2;exact ⟨u,by rw [Cx.mapAt_φ hne];exact h3,h4,h5.ext hr (Cx.mapAt_ext hr hb)⟩
 inj:=fun q q' k1 k2 h1 h2 hne=>by
  have lt:∀ {j kj},c.live j kj->(c.φ j).1<c.w.heap.size:=fun hl=>hr.live_lt hl;rcases Cx.mapAt_live h1 with ⟨rfl,rfl⟩ | ⟨hn1,hl1⟩
  ·rcases Cx.mapAt_live h2 with ⟨rfl,rfl⟩ | ⟨hn2,hl2⟩
   ·exact absurd rfl hne
   ·have := hr.live_lt hl2;rw [show (c.mapAt q ⟨0,s,kn,[]⟩).φ q=(c.w.heap.size,0) from if_pos rfl,Cx.mapAt_φ hn2];simp only;omega
  ·rcases Cx.mapAt_live h2 with ⟨rfl,rfl⟩ | ⟨hn2,hl2⟩
   ·have := hr.live_lt hl1;rw [show (c.mapAt q' ⟨0,s,kn,[]⟩).φ q'=(c.w.heap.size,0) from if_pos rfl,Cx.mapAt_φ hn1];simp only;omega
   ·rw [Cx.mapAt_φ hn1,Cx.mapAt_φ hn2];exact hr.inj q q' k1 k2 hl1 hl2 hne
end
section
variable {P:Program} {ρ:Operand->AV} {H:AH}
theorem EA {o:Oper} {t:TypeId} {kn s b:Nat} (ho:o.op = .makeMap t none) (hs:0<s) (hb:H[b]? = some none):Lv P o ρ H (.mp b s) (H.set b (some ⟨0,s,kn,[]⟩)):=by
 intro c a Kk Q hH hr hxs hK;subst hH;have : (execOp a.eval o).run P c.w = .ok (.value (.map (some c.w.heap.size))) (c.mapAt b ⟨0,s,kn,[]⟩).w:=by
  rw [execOp,ho];refine (?_:Sem.run P _ c.w=_);simp [Instr.makeMap,Cx.mapAt]
 unfold Oper.wp;rw [this];have hl2:(c.mapAt b ⟨0,s,kn,[]⟩).live b ⟨0,s,kn,[]⟩:=Cx.newAt_self (k:=⟨0,s,kn,[]⟩) (cs:=#[]) hb;have e:(c.mapAt b ⟨0,s,kn,[]⟩).φ b=(c.w.heap.size,0):=if_pos rfl;refine hK _ (c.mapAt b ⟨0,s,kn,[]⟩) rfl (Cx.mapAt_rel hr hb hs) (Cx.mapAt_ext hr hb) (.mp ?_ fun x hx=>?_)
 ·unfold Cx.born;rw [show (c.mapAt b ⟨0,s,kn,[]⟩).H[b]? = some (some _) from hl2];exact Nat.le_refl _
 ·have := Cx.hd_of hl2 (o:=.map #[] 0) (by rw [e];exact heap_alloc_new _ _);rw [e] at this;have he:=hx.symm.trans this;simp only [hdo,Option.some.injEq] at he;subst he;exact ⟨rfl,rfl⟩
theorem EvA.mmkA {K:Type} {kn:Nat} {t:TypeId} (kc:K->List Value) (b:Nat) (hb:H[b]? = some none):EvA P ρ (.makeMap t none) H (.mp b (kn+1)) (H.set b (some (mB kn 1 kc cB ([]:List (K×Bool))))):=
 fun _ ho=>EA (kn:=kn) ho (Nat.succ_pos kn) hb
end
section
variable {P:Program} {ρ:Operand->AV} {t e:TypeId}
theorem LA.buildZ {n w:Nat} {ag:Bool} {zs:List AV} (hu:P.underlying t=some (.array n e)) (z:TyZ P t zs) (q:TyF P e ag w):LA P ρ (.build t #[]) (.agg zs) := .mk fun K hK=>by
 show uM P t [] K;have hz:=z.z;have ho:=z.one;have hq:=q.info
 cases hi:P.info? t with
 | none=>rw [hi] at hz;cases hz
 | some i=>
  rw [hi] at hz ho
  cases hzz:i.zero with
  | none=>simp [hzz] at hz
  | some zv=>
   simp only [Option.bind_some,hzz,Option.map_some,Option.some.injEq] at hz ho
   cases hj:P.info? e with
   | none=>rw [hj] at hq;cases hq
   | some ie=>
    simp only [uM,hi,hu,hzz,hj,uL,hz];exact Ck.intro ho hK
end
section
variable {P:Program} {nt b0:Nat} {Q:Exit->Env->AH->Prop} {e:Env} {H:AH}
theorem T.ifH {α:Type} {q:Bool} {x:Operand} {t f:Code} {X Y:Option α} {r:α} (hc:rho e x = .v (.bool q)) (h:(bif q then X else Y)=some r) (h1:q=true->X=some r->T P nt b0 t Q e H) (h2:q=false->Y=some r->T P nt b0 f Q e H):T P nt b0 (.cond x t f) Q e H:=
 T.cond hc (fun hq=>h1 hq (AB hq h)) fun hq=>h2 hq (AC hq h)
end
theorem LC {α:Type} {a b:α} (h:some a=some b):a=b:=osl h
def KN (e:Env):List (Nat×AV)->List (Nat×AV)
 | []=>[]
 | p::l=>(p.1,e p.1)::KN e l
theorem wk {e:Env}:∀ {en:List (Nat×AV)},KN e en=en->xX e (ah en)
 | [],_=>Lx
 | (t,a)::l,h=>by
  injection h with h1 h2;injection h1 with _ h1;exact Ly h1 (wk h2)
theorem kw {b0:Nat} {e:Env} {H H0:AH} {en:List (Nat×AV)} (hH:H0=H) (h:KN e en=en):dS b0 e H (ah en) H0:=zw hH (wk h)
def Jz:Nat->List AV->List (Nat×AV)
 | _,[]=>[]
 | i,a::l=>(i,a)::Jz (i+1) l
theorem EB:∀ (l:List AV) (i t:Nat),ah (Jz i l) t=if t<i then .top else l.getD (t-i) .top
 | [],i,t=>by
  show AV.top=_
  split <;> simp
 | a::l,i,t=>by
  show (bif Nat.beq t i then a else ah (Jz (i+1) l) t)=_
  cases hb:Nat.beq t i with
  | true=>
   have := Nat.eq_of_beq_eq_true hb;subst this;simp
  | false=>
   have hne:t≠i:=fun h=>by rw [h,show Nat.beq i i=true from Nat.beq_refl i] at hb;cases hb
   rw [cond_false,EB l (i+1) t]
   by_cases h:t<i
   ·rw [if_pos h,if_pos (by omega)]
   ·rw [if_neg h,if_neg (by omega),show t-i=(t-(i+1))+1 by omega]
    rfl
theorem BS (l:List AV):xX (DG l) (ah (Jz 0 l)):=fun t => .inr (by rw [EB,if_neg (by omega)];rfl)
section
variable {P:Program} {f:FuncId} {fn:Func} {body:Code} {LW:List AV} {r:AV} {H H':AH}
def okF (P:Program) (f:FuncId) (fn:Func) (body:Code):Bool:=eH P f&&codeOk fn.ntmps body
theorem BU (h:okF P f fn body=true):eH P f=true/\codeOk fn.ntmps body=true:=by
 unfold okF at h;simpa using h
theorem pM (hf:P.funcs[f]? = some fn) (hb:fn.body=some body) (hk:okF P f fn body=true) (hn:Nat.ble LW.length fn.ntmps=true) (h:T P fn.ntmps 0 body (Fin P fn fun r0 G=>Fz 0 G r0 r) (ah (Jz 0 LW)) []):aA P f LW r:=
 aA.mkT hf hb (BU hk).1 hn (BU hk).2 (BS LW) h
theorem aM (hf:P.funcs[f]? = some fn) (hb:fn.body=some body) (hk:okF P f fn body=true) (hn:Nat.ble LW.length fn.ntmps=true) (h:T P fn.ntmps H.length body (SQ H.length (Fin P fn fun r0 G=>r0=r/\G=H')) (ah (Jz 0 LW)) H):eM P f LW H r H':=
 eM.mkT hf hb (BU hk).1 hn (BU hk).2 (BS LW) h
end
section
variable {α β:Type} {G:Prop} {r:β} {x:Option β}
theorem jW {k:IntKind} {n:Int} (h:gd (LB k n) x=some r) (K:k.wrap n=n->x=some r->G):G:=K (gdW h).1 (gdW h).2
theorem jD {A:Prop} [Decidable A] (h:gd (decide A) x=some r) (K:A->x=some r->G):G:=K (gdD h).1 (gdD h).2
theorem jL {b:Bool} (h:gd b x=some r) (K:b=true->x=some r->G):G:=K (gdL h).1 (gdL h).2
theorem jB {o:Option α} {k:α->Option β} (h:o.bind k=some r) (K:∀ v,o=some v->k v=some r->G):G:=(zu h).elim fun v h=>K v h.1 h.2
end
section
variable {P:Program} {nt b0:Nat} {Q:Exit->Env->AH->Prop} {e e0:Env} {H H' H0:AH} {ops:Array Oper} {l:List Oper} {W:Type} {w:W}
theorem T.sr {i:Nat} {y:Code} (h:TO P nt b0 ops ops.toList (Ga (T P nt b0 y Q) Q) e H):T P nt b0 (.seq (.region i ops false) y) Q e H := .seq (.region h)
theorem T.jU {S:Type} {A:Option S} {K:S->Option W} {x y:Code} (h:A.bind K=some w) (slots:S->List (Nat×AV)) (heap:S->AH)
  (J:∀ s,K s=some w->T P nt b0 y Q (ah (slots s)) (heap s)) (k:∀ s,A=some s->T P nt b0 x (Ga (KH b0 (fun _:Unit=>True) (fun _=>slots s) (fun _=>heap s)) Q) e H):T P nt b0 (.seq x y) Q e H:=
 jB h fun s h1 h2=>T.joinF (fun _:Unit=>True) (fun _=>slots s) (fun _=>heap s) (fun _ _=>J s h2) (k s h1)
theorem T.jF {S G:Type} {A:Option S} {K:S->Option W} {x y:Code} (h:A.bind K=some w) (inv:S->G->Prop) (slots:S->G->List (Nat×AV)) (heap:S->G->AH)
  (J:∀ s g,K s=some w->inv s g->T P nt b0 y Q (ah (slots s g)) (heap s g)) (k:∀ s,A=some s->T P nt b0 x (Ga (KH b0 (inv s) (slots s) (heap s)) Q) e H):T P nt b0 (.seq x y) Q e H:=
 jB h fun s h1 h2=>T.joinF (inv s) (slots s) (heap s) (fun g hg=>J s g h2 hg) (k s h1)
theorem T.lU {S E:Type} {body:Code} {x:E} {step:S->Option (S ⊕ E)} {s0:S} (h:loopO step s0=some x) (slots:S->List (Nat×AV)) (heap:S->AH) (hs:dS b0 e H (ah (slots s0)) (heap s0))
  (round:∀ s z,step s=some z->T P nt b0 body (Ga (Gx b0 (fun _ (_:Unit)=>True) (fun s _=>slots s) (fun s _=>heap s) z) (Leave Q x z)) (ah (slots s)) (heap s)):T P nt b0 (.loop body) Q e H:=
 T.loop step (fun _ (_:Unit)=>True) (fun s _=>slots s) (fun s _=>heap s) () h trivial hs fun s _ z hz _=>round s z hz
theorem lE {S E:Type} {slots:S->List (Nat×AV)} {heap:S->AH} {a:S} {z:S ⊕ E} (h:some (Sum.inl a)=some z) (c:dS b0 e H (ah (slots a)) (heap a)):Gx b0 (fun _ (_:Unit)=>True) (fun s _=>slots s) (fun s _=>heap s) z e H:=
 ⟨a,(),(osl h).symm,trivial,c⟩
theorem lX {S E:Type} {x y:E} {z:S ⊕ E} {ex:Exit} (h:some (Sum.inr y)=some z) (K:some y=some x->Q ex e H):Leave Q x z ex e H:=⟨y,(osl h).symm,fun h=>K (congrArg some h)⟩
theorem TO.jB {S:Type} {q:Bool} {A B:Option S} {K:S->Option W} (h:(bif q then A else B).bind K=some w) (n:Nat) (slots:S->List (Nat×AV)) (heap:S->AH)
  (h1:∀ s,q=true->A=some s->(∀ e H,dS b0 e H (ah (slots s)) (heap s)->TO P nt b0 ops (l.drop n) Q e H)->TO P nt b0 ops l Q e H)
  (h2:∀ s,q=false->B=some s->(∀ e H,dS b0 e H (ah (slots s)) (heap s)->TO P nt b0 ops (l.drop n) Q e H)->TO P nt b0 ops l Q e H)
  (J:∀ s,K s=some w->TO P nt b0 ops (l.drop n) Q (ah (slots s)) (heap s)):TO P nt b0 ops l Q e H:=by
 obtain ⟨s,ha,hk⟩:=zu h;have key:∀ e H,dS b0 e H (ah (slots s)) (heap s)->TO P nt b0 ops (l.drop n) Q e H:=fun e H c=>(J s hk).cut c
 cases q with
 | true=>exact h1 s rfl ha key
 | false=>exact h2 s rfl ha key
end
section
variable {P:Program} {ρ:Operand->AV} {H H':AH} {x y:Operand} {a:AV} {t:TypeId} {ag:Bool} {n:Nat}
theorem mv:LA P ρ (.move x) (ρ x):=LA.mv _ rfl
theorem as':LA P ρ (.assign x) (ρ x):=LA.asg _ rfl
def Lj:AV->Bool
 | .fp _ _=>true
 | .hp _ _ _ _ _=>true
 | _=>false
theorem nl (h:Lj (ρ x)=true):LA P ρ (.nilCheck x) (ρ x):=by
 cases e:ρ x with
 | fp row j=>exact LA.nilfp e
 | hp b v s i j=>exact LA.nilhp e
 | _=>rw [e] at h;cases h
def ldE (ag:Bool) (n:Nat):AV->Option AV
 | .fp row j=>ku ag n row j
 | _=>none
theorem lf (a:AV) (ty:TyF P t ag n) (h:ldE ag n (ρ x)=some a):LA P ρ (.load t x) a:=by
 cases e:ρ x with
 | fp row j=>rw [e] at h;exact LA.loadfp a ty e h
 | _=>rw [e] at h;cases h
def faE (pl:List (Nat×Nat)) (i:Nat) (v:AV):Option AV:=match pl[i]? with
 | some (o,k+1)=>(match v with
  | .fp row j=>some (.fp row (j+o))
  | .hp b u s q j=>some (.hp b u s q (j+o))
  | _=>none)
 | _=>none
theorem BV {α β:Type} {f:α->Option β}:∀ {l:List α} {k:List β},l.mapM f=some k->∀ {i:Nat} {b:β},k[i]? = some b->∃ a,l[i]? = some a/\f a=some b
 | [],k,h,i,b,hb=>by
  simp at h;subst h;simp at hb
 | c::l,k,h,i,b,hb=>by
  simp only [List.mapM_cons] at h;obtain ⟨d,hd,h⟩:=Option.bind_eq_some_iff.1 h;obtain ⟨k',hk',h⟩:=Option.bind_eq_some_iff.1 h;obtain rfl:=osl h
  cases i with
  | zero=>
   simp at hb;subst hb;exact ⟨c,rfl,hd⟩
  | succ i=>exact BV hk' (by simpa using hb)
theorem fa {pl:List (Nat×Nat)} {i:Nat} (q:TyS P t pl) (h:faE pl i (ρ x)=some a):LA P ρ (.fieldAddr t x i) a:=by
 have hs:=q.s
 split at hs
 ·rename_i fs hu;unfold faE at h
  split at h
  ·rename_i o k hk;obtain ⟨fl,h1,h2⟩:=BV hs hk;rw [Array.getElem?_toList] at h1;obtain ⟨inf,h3,h4⟩:=Option.map_eq_some_iff.1 h2;injection h4 with h4 h5;have hc:(P.cellsOf fl.type != 0)=true:=by
    unfold Program.cellsOf;rw [h3];simp [h5]
   subst h4
   cases e:ρ x with
   | fp row j=>rw [e] at h;obtain rfl:=osl h;exact LA.fafp hu h1 hc e
   | hp b u s w j=>rw [e] at h;obtain rfl:=osl h;exact LA.fahp hu h1 hc e
   | _=>rw [e] at h;cases h
  ·cases h
 ·cases hs
theorem lh (a:AV) (ty:TyF P t ag n) {b ver s j:Nat} {ty':TypeId} {row:List AV} (h:ρ x = .hp b ver s 0 j) (hk:H[b]? = some (some ⟨ver,s,ty',[row]⟩)) (hp:ku ag n row j=some a):EvA P ρ (.load t x) H a H:=EvA.loadhp a ty h hk rfl rfl rfl hp
def srE (n s j:Nat) (row cs:List AV):Option (List AV):=bif Nat.beq cs.length n&&Nat.ble (j+n) s then some (splice row j cs) else none
theorem sr (row':List AV) (ty:TyF P t ag n) {b ver s j:Nat} {ty':TypeId} {row cs:List AV} (hx:ρ x = .hp b ver s 0 j) (hy:(ρ y).cells=some cs) (hk:H[b]? = some (some ⟨ver,s,ty',[row]⟩)) (hr:srE n s j row cs=some row'):EvA P ρ (.store t x y) H .top (H.set b (some ⟨ver,s,ty',[row']⟩)):=by
 unfold srE at hr
 cases hb:(Nat.beq cs.length n&&Nat.ble (j+n) s) with
 | false=>rw [hb] at hr;cases hr
 | true=>
  rw [hb] at hr;obtain rfl:=osl hr;rw [bae] at hb;exact EvA.st (k:=⟨ver,s,ty',[row]⟩) _ ty hx hy hk rfl rfl rfl (Nat.eq_of_beq_eq_true hb.1) hb.2 rfl
end
section
variable {P:Program} {nt b0:Nat} {Q:Exit->Env->AH->Prop} {H H':AH} {ops:Array Oper} {l:List Oper} {d:Tmp} {ty:TypeId} {pos:String} {af:Array Edge} {en:List (Nat×AV)} {fp:Nat->Fp} {i:Nat} {K:Env->AH->Prop} {S W:Type} {r:W} {A:Option S} {k:S->Option W} {v:S->AV} {cl:Call} {f:Operand} {g:FuncId} {caps LW:List AV}
theorem oC (h:A.bind k=some r) (hp:∀ s,A=some s->aA P g LW (v s)) (hc:cl.callee = .value f) (hf:rho (ah en) f = .fn (.func g) caps) (ha:cl.args.toList.map (rho (ah en))++caps=LW) (hF:LW.all (isF 9)=true)
  (J:∀ s,A=some s->k s=some r->TO P nt b0 ops l Q (ah ((d,v s)::en)) H):TO P nt b0 ops (⟨some d,.call cl,ty,pos,af,none⟩::l) Q (ah en) H:=
 jB h fun s h1 h2=>oN (LA.call hc hf ha (hp s h1) hF) (J s h1 h2)
theorem fC (h:A.bind k=some r) (hp:∀ s,A=some s->aA P g LW (v s)) (hc:cl.callee = .value f) (hf:rho (ah en) f = .fn (.func g) caps) (ha:cl.args.toList.map (rho (ah en))++caps=LW) (hF:LW.all (isF 9)=true) (h0:fp i=([],false))
  (J:∀ s,A=some s->k s=some r->TF P fp (i+1) l K (ah ((d,v s)::en)) H):TF P fp i (⟨some d,.call cl,ty,pos,af,none⟩::l) K (ah en) H:=
 jB h fun s h1 h2=>fN h0 (LA.call hc hf ha (hp s h1) hF) (J s h1 h2)
end
section
variable {P:Program} {fn:Func} {e:Env} {G:AH} {a:AV} {t:Tmp} {m:Nat}
theorem cH (h:fn.results.toList=[.tmp t]) (h1:e t=a) (h2:isF 9 a=true):Fin P fn (fun r0 G=>Fz m G r0 a) .ret e G:=Fin.ret (vs:=[a]) (by rw [h];exact .cons (.tmp h1) .nil) (.of_isF 9 _ h2)
end
section
variable {P:Program} {ρ:Operand->AV} {H:AH} {x y:Operand} {t:TypeId} {ag:Bool} {n j w:Nat} {q:Int}
theorem lf1 (V:Int->AV) (g:0<=q/\q<3) (ty:TyF P t ag n) {row:List AV} (h:ρ x = .fp row (j+q.toNat*w)) (h0:ku ag n row (j+0*w)=some (V 0)) (h1:ku ag n row (j+1*w)=some (V 1)) (h2:ku ag n row (j+2*w)=some (V 2)):LA P ρ (.load t x) (V q):=
 LA.loadfp _ ty h (Gc (P:=fun z=>ku ag n row (j+z.toNat*w)=some (V z)) g h0 h1 h2)
theorem lh1 (V:Int->AV) (g:0<=q/\q<3) (ty:TyF P t ag n) {b ver s:Nat} {ty':TypeId} {row:List AV} (h:ρ x = .hp b ver s 0 (j+q.toNat*w)) (hk:H[b]? = some (some ⟨ver,s,ty',[row]⟩)) (h0:ku ag n row (j+0*w)=some (V 0)) (h1:ku ag n row (j+1*w)=some (V 1)) (h2:ku ag n row (j+2*w)=some (V 2)):EvA P ρ (.load t x) H (V q) H:=
 EvA.loadhp _ ty h hk rfl rfl rfl (Gc (P:=fun z=>ku ag n row (j+z.toNat*w)=some (V z)) g h0 h1 h2)
theorem sr1 (R:Int->List AV) (g:0<=q/\q<3) (ty:TyF P t ag n) {b ver s:Nat} {ty':TypeId} {row cs:List AV} (hx:ρ x = .hp b ver s 0 (j+q.toNat*w)) (hy:(ρ y).cells=some cs) (hk:H[b]? = some (some ⟨ver,s,ty',[row]⟩)) (h0:srE n s (j+0*w) row cs=some (R 0)) (h1:srE n s (j+1*w) row cs=some (R 1)) (h2:srE n s (j+2*w) row cs=some (R 2)):EvA P ρ (.store t x y) H .top (H.set b (some ⟨ver,s,ty',[R q]⟩)):=
 sr _ ty hx hy hk (Gc (P:=fun z=>srE n s (j+z.toNat*w) row cs=some (R z)) g h0 h1 h2)
variable {v:Nat} {u:Int}
theorem La {Q:Int->Int->Prop} (g:0<=q/\q<3) (g':0<=u/\u<3) (h:Q 0 0/\Q 0 1/\Q 0 2/\Q 1 0/\Q 1 1/\Q 1 2/\Q 2 0/\Q 2 1/\Q 2 2):Q q u:=
 Gc (P:=fun z=>Q z u) g (Gc (P:=fun z=>Q 0 z) g' h.1 h.2.1 h.2.2.1) (Gc (P:=fun z=>Q 1 z) g' h.2.2.2.1 h.2.2.2.2.1 h.2.2.2.2.2.1) (Gc (P:=fun z=>Q 2 z) g' h.2.2.2.2.2.2.1 h.2.2.2.2.2.2.2.1 h.2.2.2.2.2.2.2.2)
def P9 (Q:Nat->Nat->Int->Int->Prop):Prop:=Q 0 0 0 0/\Q 0 1 0 1/\Q 0 2 0 2/\Q 1 0 1 0/\Q 1 1 1 1/\Q 1 2 1 2/\Q 2 0 2 0/\Q 2 1 2 1/\Q 2 2 2 2
theorem lf2 (V:Int->Int->AV) (g:0<=q/\q<3) (g':0<=u/\u<3) (ty:TyF P t ag n) {row:List AV} (h:ρ x = .fp row ((j+q.toNat*w)+u.toNat*v)) (h9:P9 fun a b y z=>ku ag n row ((j+a*w)+b*v)=some (V y z)):LA P ρ (.load t x) (V q u):=
 LA.loadfp _ ty h (La (Q:=fun y z=>ku ag n row ((j+y.toNat*w)+z.toNat*v)=some (V y z)) g g' h9)
theorem sr2 (R:Int->Int->List AV) (g:0<=q/\q<3) (g':0<=u/\u<3) (ty:TyF P t ag n) {b ver s:Nat} {ty':TypeId} {row cs:List AV} (hx:ρ x = .hp b ver s 0 ((j+q.toNat*w)+u.toNat*v)) (hy:(ρ y).cells=some cs) (hk:H[b]? = some (some ⟨ver,s,ty',[row]⟩)) (h9:P9 fun a b y z=>srE n s ((j+a*w)+b*v) row cs=some (R y z)):EvA P ρ (.store t x y) H .top (H.set b (some ⟨ver,s,ty',[R q u]⟩)):=
 sr _ ty hx hy hk (La (Q:=fun y z=>srE n s ((j+y.toNat*w)+z.toNat*v) row cs=some (R y z)) g g' h9)
end
structure LD where
 Op:Int
 Loc:Int
 Reg:Int
 Val:Int
instance:Inhabited LD:=⟨⟨default,default,default,default⟩⟩
def LD.c (x:LD):List AV:=[I x.Op,I x.Loc,I x.Reg,I x.Val]
theorem LD.len (x:LD):(LD.c x).length=4:=rfl
theorem LD.isF (x:LD):(LD.c x).all (isF 9)=true:=rfl
structure LF where
 From:LI
 Order:LL
instance:Inhabited LF:=⟨⟨default,default⟩⟩
def LF.c (x:LF):List AV:=[eL cI x.From,eL (cL cI) x.Order]
theorem LF.len (x:LF):(LF.c x).length=2:=rfl
theorem LF.isF (x:LF):(LF.c x).all (isF 9)=true:=rfl
structure ZTr where
 p:List (List LD)
 x:LF
 number:LL
 schedule:LI
 failed:List ((Int×Int×Int)×Bool)
structure ZTv where
 p:List (List LD)
 x:LF
 number:LL
instance:Inhabited ZTv:=⟨⟨default,default,default⟩⟩
def ZTv.c (x:ZTv):List AV:=[eL (cL LD.c) x.p,eL cI x.x.From,eL (cL cI) x.x.Order,eL (cL cI) x.number]
theorem ZTv.len (x:ZTv):(ZTv.c x).length=4:=rfl
theorem ZTv.isF (x:ZTv):(ZTv.c x).all (isF 9)=true:=rfl
structure eP where
 Op:Int
 Loc:Int
 Reg:Int
 Val:Int
instance:Inhabited eP:=⟨⟨default,default,default,default⟩⟩
def eP.c (x:eP):List AV:=[I x.Op,I x.Loc,I x.Reg,I x.Val]
theorem eP.len (x:eP):(eP.c x).length=4:=rfl
theorem eP.isF (x:eP):(eP.c x).all (isF 9)=true:=rfl
structure fS where
 Thread:Int
 Index:Int
instance:Inhabited fS:=⟨⟨default,default⟩⟩
def fS.c (x:fS):List AV:=[I x.Thread,I x.Index]
theorem fS.len (x:fS):(fS.c x).length=2:=rfl
theorem fS.isF (x:fS):(fS.c x).all (isF 9)=true:=rfl
structure gG where
 First:fS
 Second:fS
instance:Inhabited gG:=⟨⟨default,default⟩⟩
def gG.c (x:gG):List AV:=[I x.First.Thread,I x.First.Index,I x.Second.Thread,I x.Second.Index]
theorem gG.len (x:gG):(gG.c x).length=4:=rfl
theorem gG.isF (x:gG):(gG.c x).all (isF 9)=true:=rfl
structure LG where
 Thread:Int
 Index:Int
 Loc:Int
 Reads:Bool
 Writes:Bool
instance:Inhabited LG:=⟨⟨default,default,default,default,default⟩⟩
def LG.c (x:LG):List AV:=[I x.Thread,I x.Index,I x.Loc,Bo x.Reads,Bo x.Writes]
theorem LG.len (x:LG):(LG.c x).length=5:=rfl
theorem LG.isF (x:LG):(LG.c x).all (isF 9)=true:=rfl
structure Z3i where
 x0:Int
 x1:Int
 x2:Int
instance:Inhabited Z3i:=⟨⟨default,default,default⟩⟩
def Z3i.c (x:Z3i):List AV:=[I x.x0,I x.x1,I x.x2]
theorem Z3i.len (x:Z3i):(Z3i.c x).length=3:=rfl
theorem Z3i.isF (x:Z3i):(Z3i.c x).all (isF 9)=true:=rfl
def Z3i.get (a:Z3i) (q:Int):Int:=if q=0 then a.x0 else if q=1 then a.x1 else a.x2
def Z3i.set (a:Z3i) (q:Int) (v:Int):Z3i:=if q=0 then ⟨v,a.x1,a.x2⟩ else if q=1 then ⟨a.x0,v,a.x2⟩ else ⟨a.x0,a.x1,v⟩
structure ae where
 b:LI
 p:Int
instance:Inhabited ae:=⟨⟨default,default⟩⟩
def ae.c (x:ae):List AV:=[eL cY x.b,I x.p]
theorem ae.len (x:ae):(ae.c x).length=2:=rfl
theorem ae.isF (x:ae):(ae.c x).all (isF 9)=true:=rfl
structure Z3b where
 x0:Int
 x1:Int
 x2:Int
instance:Inhabited Z3b:=⟨⟨default,default,default⟩⟩
def Z3b.c (x:Z3b):List AV:=[Y x.x0,Y x.x1,Y x.x2]
theorem Z3b.len (x:Z3b):(Z3b.c x).length=3:=rfl
theorem Z3b.isF (x:Z3b):(Z3b.c x).all (isF 9)=true:=rfl
def Z3b.get (a:Z3b) (q:Int):Int:=if q=0 then a.x0 else if q=1 then a.x1 else a.x2
def Z3b.set (a:Z3b) (q:Int) (v:Int):Z3b:=if q=0 then ⟨v,a.x1,a.x2⟩ else if q=1 then ⟨a.x0,v,a.x2⟩ else ⟨a.x0,a.x1,v⟩
structure Z33 where
 x0:Z3b
 x1:Z3b
 x2:Z3b
instance:Inhabited Z33:=⟨⟨default,default,default⟩⟩
def Z33.c (x:Z33):List AV:=[Y x.x0.x0,Y x.x0.x1,Y x.x0.x2,Y x.x1.x0,Y x.x1.x1,Y x.x1.x2,Y x.x2.x0,Y x.x2.x1,Y x.x2.x2]
theorem Z33.len (x:Z33):(Z33.c x).length=9:=rfl
theorem Z33.isF (x:Z33):(Z33.c x).all (isF 9)=true:=rfl
def Z33.get (a:Z33) (q:Int):Z3b:=if q=0 then a.x0 else if q=1 then a.x1 else a.x2
def Z33.set (a:Z33) (q:Int) (v:Z3b):Z33:=if q=0 then ⟨v,a.x1,a.x2⟩ else if q=1 then ⟨a.x0,v,a.x2⟩ else ⟨a.x0,a.x1,v⟩
structure LH where
 p:List (List LD)
 pc:Z3b
 reg:Z33
 mem:Z3b
instance:Inhabited LH:=⟨⟨default,default,default,default⟩⟩
def LH.c (x:LH):List AV:=[eL (cL LD.c) x.p,Y x.pc.x0,Y x.pc.x1,Y x.pc.x2,Y x.reg.x0.x0,Y x.reg.x0.x1,Y x.reg.x0.x2,Y x.reg.x1.x0,Y x.reg.x1.x1,Y x.reg.x1.x2,Y x.reg.x2.x0,Y x.reg.x2.x1,Y x.reg.x2.x2,Y x.mem.x0,Y x.mem.x1,Y x.mem.x2]
theorem LH.len (x:LH):(LH.c x).length=16:=rfl
theorem LH.isF (x:LH):(LH.c x).all (isF 9)=true:=rfl
structure LJ where
 values:LH
instance:Inhabited LJ:=⟨⟨default⟩⟩
def LJ.c (x:LJ):List AV:=[eL (cL LD.c) x.values.p,Y x.values.pc.x0,Y x.values.pc.x1,Y x.values.pc.x2,Y x.values.reg.x0.x0,Y x.values.reg.x0.x1,Y x.values.reg.x0.x2,Y x.values.reg.x1.x0,Y x.values.reg.x1.x1,Y x.values.reg.x1.x2,Y x.values.reg.x2.x0,Y x.values.reg.x2.x1,Y x.values.reg.x2.x2,Y x.values.mem.x0,Y x.values.mem.x1,Y x.values.mem.x2]
theorem LJ.len (x:LJ):(LJ.c x).length=16:=rfl
theorem LJ.isF (x:LJ):(LJ.c x).all (isF 9)=true:=rfl
def Blk (w:World) (g:Nat) (t:TypeId) (cs:Array Value):Prop:=w.heap[g]? = some (.cells cs t (0,0))
section
variable {w w':World} {g:Nat} {t:TypeId} {cs:Array Value}
theorem Blk.lt (h:Blk w g t cs):g<w.heap.size:=by
 rcases Nat.lt_or_ge g w.heap.size with hlt | hge
 ·exact hlt
 ·unfold Blk at h;rw [Array.getElem?_eq_none hge] at h;cases h
theorem Blk.cell (h:Blk w g t cs) (i:Nat):w.cell? ⟨g,i,none⟩=cs[i]? := cell_of_row w g i cs t (0,0) h
theorem Blk.frozen (h:Blk w g t cs) (i:Nat):w.frozen? ⟨g,i,none⟩=false:=by
 unfold Blk at h;simp [World.frozen?,h]
theorem Blk.new (w:World) (t:TypeId) (cs:Array Value):Blk (w.alloc (.cells cs t)) w.heap.size t cs:=heap_alloc_new w _
theorem Blk.at_ {n:Nat} (h:w.heap.size=n):Blk (w.alloc (.cells cs t)) n t cs:=h ▸ Blk.new _ _ _
theorem Blk.alloc (h:Blk w g t cs) (o:Obj):Blk (w.alloc o) g t cs:=(Below.heap_alloc w o g h.lt).trans h
theorem Blk.set_ (h:Blk w g t cs) (i:Nat) (u:Value):Blk (w.setCell ⟨g,i,none⟩ u) g t (cs.setIfInBounds i u):=by
 unfold Blk at h ⊢;simp [World.setCell,Array.getElem?_modify,h]
theorem Blk.below {B:Nat} (h:Blk w g t cs) (hb:Below B w w') (hg:g<B):Blk w' g t cs:=(hb.block g hg).trans h
theorem Blk.inj {t':TypeId} {cs':Array Value} (h:Blk w g t cs) (h':Blk w g t' cs'):t=t'/\cs=cs':=by
 unfold Blk at h h';rw [h] at h';injection h' with h';injection h' with h1 h2;exact ⟨h2,h1⟩
end
structure Fr (lo hi:Nat) (w w':World):Prop where
 os:w'.os=w.os
 tape:w'.tape=w.tape
 output:w'.output=w.output
 size:w.heap.size<=w'.heap.size
 block:∀ k,k<w.heap.size->(k<lo\/hi<=k)->w'.heap[k]? = w.heap[k]?
section
variable {a w w':World} {lo hi l h B:Nat}
theorem Fr.refl (lo hi:Nat) (w:World):Fr lo hi w w:=⟨rfl,rfl,rfl,Nat.le_refl _,fun _ _ _=>rfl⟩
theorem Fr.trans {b c:World} (h:Fr lo hi a b) (k:Fr lo hi b c):Fr lo hi a c:=
 ⟨k.os.trans h.os,k.tape.trans h.tape,k.output.trans h.output,Nat.le_trans h.size k.size,fun i hi hn=>(k.block i (Nat.lt_of_lt_of_le hi h.size) hn).trans (h.block i hi hn)⟩
theorem Fr.alloc (f:Fr lo hi a w) (o:Obj):Fr lo hi a (w.alloc o):=
 f.trans ⟨rfl,rfl,rfl,by simp,fun k hk _=>Below.heap_alloc _ _ _ hk⟩
theorem Blk.fr {g:Nat} {t:TypeId} {cs:Array Value} (b:Blk w g t cs) (f:Fr lo hi w w') (hg:g<lo\/hi<=g):Blk w' g t cs:=(f.block g b.lt hg).trans b
end
section
variable {α:Type} (f:α->List Value) (s:Nat)
def Sl (w:World) (lo hi:Nat) (v:Value) (xs:List α):Prop:=
 ∃ A c,v = .slice A xs.length c/\xs.length<=c/\c<=9223372036854775807/\(0<xs.length->∃ b o,A=some ⟨b,o,none⟩/\lo<=b/\b<hi/\b<w.heap.size /\
  ∀ (k:Nat) (h:k<xs.length) (j:Nat) (u:Value),(f xs[k])[j]? = some u->w.cell? ⟨b,o+k*s+j,none⟩=some u)
def Ow (t:TypeId) (w:World) (lo hi:Nat) (v:Value) (xs:List α):Prop:=
 ∃ A c,v = .slice A xs.length c/\xs.length<=c/\c<=9223372036854775807/\(0<xs.length->∃ g cur,A=some ⟨g,0,none⟩/\lo<=g/\g<hi/\Blk w g t cur/\cur.size=c*s /\
  ∀ (k:Nat) (h:k<xs.length) (j:Nat) (u:Value),(f xs[k])[j]? = some u->cur[k*s+j]? = some u)
end
section
variable {α:Type} {f:α->List Value} {s:Nat} {t:TypeId} {w w':World} {lo hi l h B:Nat} {v:Value} {xs:List α}
theorem Sl.nil_ (c:Nat) (A:Option Addr) (hc:c<=9223372036854775807):Sl f s w lo hi (.slice A 0 c) []:=⟨A,c,rfl,by simp,hc,fun h=>absurd h (by simp)⟩
theorem Sl.keep (x:Sl f s w lo hi v xs) (hs:w.heap.size<=w'.heap.size) (hk:∀ k,k<w.heap.size->lo<=k->k<hi->w'.heap[k]? = w.heap[k]?):Sl f s w' lo hi v xs:=by
 obtain ⟨A,c,e,hc,hm,r⟩:=x;refine ⟨A,c,e,hc,hm,fun hn=>?_⟩;obtain ⟨b,o,e2,hb1,hb2,hb3,hx⟩:=r hn;refine ⟨b,o,e2,hb1,hb2,by omega,fun k hk' j u hu=>?_⟩;rw [World.cell?_of_block (hk b hb3 hb1 hb2)];exact hx k hk' j u hu
theorem Ow.keep (x:Ow f s t w lo hi v xs) (hk:∀ k,k<w.heap.size->lo<=k->k<hi->w'.heap[k]? = w.heap[k]?):Ow f s t w' lo hi v xs:=by
 obtain ⟨A,c,e,hc,hm,r⟩:=x;refine ⟨A,c,e,hc,hm,fun hn=>?_⟩;obtain ⟨g,cur,e2,hb1,hb2,hb3,hx⟩:=r hn;exact ⟨g,cur,e2,hb1,hb2,(hk g hb3.lt hb1 hb2).trans hb3,hx⟩
theorem Sl.below (x:Sl f s w lo hi v xs) (b:Below B w w') (hB:hi<=B):Sl f s w' lo hi v xs:=x.keep b.size fun k _ _ h2=>b.block k (by omega)
theorem Sl.fr (x:Sl f s w lo hi v xs) (b:Fr l h w w') (hB:hi<=l\/h<=lo):Sl f s w' lo hi v xs:=x.keep b.size fun k hk h1 h2=>b.block k hk (by omega)
theorem Ow.fr (x:Ow f s t w lo hi v xs) (b:Fr l h w w') (hB:hi<=l\/h<=lo):Ow f s t w' lo hi v xs:=x.keep fun k hk h1 h2=>b.block k hk (by omega)
end
def JU (v:Value):List Value:=[v]
def JV (n:Int):List Value:=[.int .i64 n]
def Db (n:Int):List Value:=[.int .u8 n]
section
variable {α:Type} {g:α->Value} {f:α->List Value} {s:Nat} {w:World} {lo hi:Nat} {v:Value}
theorem Sl.one_ {xs:List α} (hf:∀ x,f x=[g x]) (x:Sl f 1 w lo hi v xs):∃ A c,v = .slice A xs.length c/\xs.length<=c/\c<=9223372036854775807/\(0<xs.length->∃ b o,A=some ⟨b,o,none⟩/\lo<=b/\b<hi/\b<w.heap.size /\
  ∀ (k:Nat) (h:k<xs.length),w.cell? ⟨b,o+k,none⟩=some (g xs[k])):=by
 obtain ⟨A,c,e,hc,hm,r⟩:=x;refine ⟨A,c,e,hc,hm,fun hn=>?_⟩;obtain ⟨b,o,e2,hb1,hb2,hb3,hx⟩:=r hn;refine ⟨b,o,e2,hb1,hb2,hb3,fun k hk=>?_⟩;have := hx k hk 0 (g xs[k]) (by rw [hf];rfl);simpa using this
theorem Sl.vals {xs:List Value} (x:Sl JU 1 w lo hi v xs):∃ A c,v = .slice A xs.length c/\xs.length<=c/\c<=9223372036854775807/\(0<xs.length->∃ b o,A=some ⟨b,o,none⟩/\lo<=b/\b<hi/\b<w.heap.size /\
 ∀ (k:Nat) (h:k<xs.length),w.cell? ⟨b,o+k,none⟩=some xs[k]):=Sl.one_ (g:=fun v=>v) (fun _=>rfl) x
theorem Sl.ints {xs:LI} (x:Sl JV 1 w lo hi v xs):∃ A c,v = .slice A xs.length c/\xs.length<=c/\c<=9223372036854775807/\(0<xs.length->∃ b o,A=some ⟨b,o,none⟩/\lo<=b/\b<hi/\b<w.heap.size /\
 ∀ (k:Nat) (h:k<xs.length),w.cell? ⟨b,o+k,none⟩=some (.int .i64 xs[k])):=Sl.one_ (g:=fun v => .int .i64 v) (fun _=>rfl) x
end
structure Ins where
 op:Int
 loc:Int
 reg:Int
 val:Int
 deriving DecidableEq,Inhabited
def Ins.v (x:Ins):Value := .agg #[.int .i64 x.op,.int .i64 x.loc,.int .i64 x.reg,.int .i64 x.val]
def Ins.cells (x:Ins):List Value:=[.int .i64 x.op,.int .i64 x.loc,.int .i64 x.reg,.int .i64 x.val]
def Ins.eqB (x y:Ins):Bool:=x.op==y.op&&x.loc==y.loc&&x.reg==y.reg&&x.val==y.val
theorem Ins.eqB_iff (x y:Ins):x.eqB y=true↔x=y:=by
 obtain ⟨a,b,c,d⟩:=x;obtain ⟨a',b',c',d'⟩:=y;simp [Ins.eqB,and_assoc]
def AX (w:World) (b o:Nat) (x:Ins):Prop:=
 w.cell? ⟨b,o,none⟩=some (.int .i64 x.op)/\w.cell? ⟨b,o+1,none⟩=some (.int .i64 x.loc)/\w.cell? ⟨b,o+2,none⟩=some (.int .i64 x.reg)/\w.cell? ⟨b,o+3,none⟩=some (.int .i64 x.val)
def zB (cs:Array Value) (o:Nat) (x:Ins):Prop:=cs[o]? = some (.int .i64 x.op)/\cs[o+1]? = some (.int .i64 x.loc)/\cs[o+2]? = some (.int .i64 x.reg)/\cs[o+3]? = some (.int .i64 x.val)
def H3 (cs:Array Value) (o:Nat) (x:Ins):Array Value:=(((cs.setIfInBounds o (.int .i64 x.op)).setIfInBounds (o+1) (.int .i64 x.loc)).setIfInBounds (o+2) (.int .i64 x.reg)).setIfInBounds (o+3) (.int .i64 x.val)
section
variable {w w':World} {b o p:Nat} {x y:Ins} {cs:Array Value} {t:TypeId} {g B lo hi:Nat} {v:Value} {xs:List Ins}
theorem AX.below (h:AX w b o x) (hb:Below B w w') (hlt:b<B):AX w' b o x:=by
 unfold AX at *;rw [hb.cell (by exact hlt),hb.cell (by exact hlt),hb.cell (by exact hlt),hb.cell (by exact hlt)];exact h
theorem zB.same (h:o+4<=cs.size):zB (H3 cs o x) o x:=by
 unfold zB H3;refine ⟨?_,?_,?_,?_⟩ <;> simp [Array.getElem?_setIfInBounds] <;> omega
theorem zB.cells {k:Nat} (h:zB cs k x):∀ (j:Nat) (u:Value),x.cells[j]? = some u->cs[k+j]? = some u:=by
 intro j u hu
 match j,hu with
 | 0,hu=>simp [Ins.cells] at hu;subst hu;exact h.1
 | 1,hu=>simp [Ins.cells] at hu;subst hu;exact h.2.1
 | 2,hu=>simp [Ins.cells] at hu;subst hu;exact h.2.2.1
 | 3,hu=>simp [Ins.cells] at hu;subst hu;exact h.2.2.2
 | n+4,hu=>simp [Ins.cells] at hu
theorem Sl.inss (x:Sl Ins.cells 4 w lo hi v xs):∃ A c,v = .slice A xs.length c/\xs.length<=c/\c<=9223372036854775807/\(0<xs.length->∃ b o,A=some ⟨b,o,none⟩/\lo<=b/\b<hi/\b<w.heap.size /\
  ∀ (k:Nat) (h:k<xs.length),AX w b (o+k*4) xs[k]):=by
 obtain ⟨A,c,e,hc,hm,r⟩:=x;refine ⟨A,c,e,hc,hm,fun hn=>?_⟩;obtain ⟨b,o,e2,hb1,hb2,hb3,hx⟩:=r hn;exact ⟨b,o,e2,hb1,hb2,hb3,fun k hk=>⟨hx k hk 0 _ rfl,hx k hk 1 _ rfl,hx k hk 2 _ rfl,hx k hk 3 _ rfl⟩⟩
end
section
variable {α:Type} (f:α->List Value) (s:Nat)
def wM (w:World) (lo hi:Nat) (v:Value) (p:List (List α)):Prop:=
 ∃ vs:List Value,Sl JU 1 w lo hi v vs/\vs.length=p.length/\∀ (k:Nat) (h:k<vs.length) (h':k<p.length),Sl f s w lo hi vs[k] p[k]
def JA (to ti:TypeId) (w:World) (lo hi:Nat) (v:Value) (p:List (List α)):Prop:=
 ∃ vs:List Value,Ow JU 1 to w lo hi v vs/\vs.length=p.length/\(∀ (k:Nat) (h:k<vs.length) (h':k<p.length),Ow f s ti w lo hi vs[k] p[k]) /\
  ∀ (i j:Nat) (hi:i<vs.length) (hj:j<vs.length) (hi':i<p.length) (hj':j<p.length),i≠j->0<p[i].length->0<p[j].length->vs[i].ownBlock≠vs[j].ownBlock
end
section
variable {α:Type} {f:α->List Value} {s:Nat} {to ti:TypeId} {w w':World} {lo hi l h B:Nat} {v:Value} {p:List (List α)}
theorem wM.keep (x:wM f s w lo hi v p) (hs:w.heap.size<=w'.heap.size) (hk:∀ k,k<w.heap.size->lo<=k->k<hi->w'.heap[k]? = w.heap[k]?):wM f s w' lo hi v p:=by
 obtain ⟨vs,h1,h2,h3⟩:=x;exact ⟨vs,h1.keep hs hk,h2,fun k a b=>(h3 k a b).keep hs hk⟩
theorem JA.keep (x:JA f s to ti w lo hi v p) (hk:∀ k,k<w.heap.size->lo<=k->k<hi->w'.heap[k]? = w.heap[k]?):JA f s to ti w' lo hi v p:=by
 obtain ⟨vs,h1,h2,h3,h4⟩:=x;exact ⟨vs,h1.keep hk,h2,fun k a b=>(h3 k a b).keep hk,h4⟩
theorem wM.below (x:wM f s w lo hi v p) (b:Below B w w') (hB:hi<=B):wM f s w' lo hi v p:=x.keep b.size fun k _ _ h2=>b.block k (by omega)
theorem wM.fr (x:wM f s w lo hi v p) (b:Fr l h w w') (hB:hi<=l\/h<=lo):wM f s w' lo hi v p:=x.keep b.size fun k hk h1 h2=>b.block k hk (by omega)
theorem JA.fr (x:JA f s to ti w lo hi v p) (b:Fr l h w w') (hB:hi<=l\/h<=lo):JA f s to ti w' lo hi v p:=x.keep fun k hk h1 h2=>b.block k hk (by omega)
end
theorem iU {α:Type} (xs:List α) (k:Nat) (h:k<xs.length):xs.take (k+1)=xs.take k++[xs[k]]:=by
 rw [List.take_succ_eq_append_getElem h]
theorem zC {α:Type} {xs ys:List α} {k:Nat} (h:k<xs.length) (h':k<ys.length) (e:xs.take k=ys.take k) (e2:xs[k]=ys[k]):xs.take (k+1)=ys.take (k+1):=by
 rw [iU _ _ h,iU _ _ h',e,e2]
theorem AY {α:Type} {xs ys:List α} (hl:xs.length=ys.length) (e:xs.take xs.length=ys.take xs.length):xs=ys:=by
 rw [List.take_length,hl,List.take_length] at e;exact e
theorem aI {a b:Bool} (h:a=b):Ending.returned (.bool a)=Ending.returned (.bool b):=by rw [h]
theorem vv {k:IntKind} {a b:Int} (h:a=b):Ending.returned (.int k a) = .returned (.int k b):=by rw [h]
open Go.ChangeShapes Go.WideShapes Go.ChangeAt Go.RowKit
theorem AZ (x y:Ins) (w:World) :
  Calls Tryz.prog 75 #[x.v,y.v] w fun e w'=>e = .returned (.bool (x.eqB y))/\Below w.heap.size w w':=by
 obtain ⟨a,b,c,d⟩:=x;obtain ⟨a',b',c',d'⟩:=y;unfold Ins.v Ins.eqB
 go_enter Tryz.func75,Tryz.ntmps75
 go_wp2
 all_goals
  go_ret
  refine ⟨?_,((Below.refl _ _).alloc (Nat.le_refl _) _).alloc (by simp) _⟩
  simp_all
theorem H4 {lo hi lo' hi':Nat} {u v:Value} {xs ys:List Ins} {w:World} (hu:Sl Ins.cells 4 w lo hi u xs) (hv:Sl Ins.cells 4 w lo' hi' v ys) :
  Calls Tryz.prog 35 #[u,v] w fun e w'=>e = .returned (.bool (decide (xs=ys)))/\Below w.heap.size w w':=by
 obtain ⟨A,ca,rfl,hca,hma,hA⟩:=hu.inss;obtain ⟨B,cb,rfl,hcb,hmb,hB⟩:=hv.inss
 by_cases hl:xs.length=ys.length
 ·have hl':((xs.length:Int) != (ys.length:Int))=false:=by simp [hl]
  have HL:=Lib.hid hl;clear hl
  go_enter Tryz.func35,Tryz.ntmps35
  go_wp2
  go_loopw [5] (fun i wr=>∃ k:Nat,k<=xs.length/\i = .int .i64 k/\Below w.heap.size w wr/\xs.take k=ys.take k) (fun i _=>xs.length-(intOf i).toNat)
  case atStart=>exact ⟨0,Nat.zero_le _,rfl,Below.refl _ _,rfl⟩
  case round=>
   obtain ⟨k,hk,rfl,hb,he⟩:=hrel;have HE:=Lib.hid he;clear he
   by_cases hlt:k<xs.length
   ·obtain ⟨ba,oa,rfl,_,_,hba,hA⟩:=hA (by omega);have hlt2:k<ys.length:=HL.out ▸ hlt;obtain ⟨bb,ob,rfl,_,_,hbb,hB⟩:=hB (by omega);have ca1:=(hA k hlt).below hb hba;have cb1:=(hB k hlt2).below hb hbb;clear hA hB;have cda:AX wr.drew ba (oa+k*4) xs[k]:=ca1;have cdb:AX wr.drew bb (ob+k*4) ys[k]:=cb1;have hba':ba<wr.heap.size:=Nat.lt_of_lt_of_le hba hb.size;have hbb':bb<wr.heap.size:=Nat.lt_of_lt_of_le hbb hb.size;have i1:(0:Int)<=(k:Int):=by omega
    have i2:(k:Int)<(xs.length:Int):=by omega
    have i3:(k:Int)<(ys.length:Int):=by omega
    go_wp2_with fail
    go_region_held3 (fun w'=>w'.cell? ⟨ba,oa+k*4,none⟩=some (.int .i64 xs[k].op)/\w'.cell? ⟨ba,oa+k*4+1,none⟩=some (.int .i64 xs[k].loc)/\w'.cell? ⟨ba,oa+k*4+2,none⟩=some (.int .i64 xs[k].reg)/\w'.cell? ⟨ba,oa+k*4+3,none⟩=some (.int .i64 xs[k].val)/\w'.cell? ⟨bb,ob+k*4,none⟩=some (.int .i64 ys[k].op)/\w'.cell? ⟨bb,ob+k*4+1,none⟩=some (.int .i64 ys[k].loc)/\w'.cell? ⟨bb,ob+k*4+2,none⟩=some (.int .i64 ys[k].reg)/\w'.cell? ⟨bb,ob+k*4+3,none⟩=some (.int .i64 ys[k].val))
     (first | exact ⟨ca1.1,ca1.2.1,ca1.2.2.1,ca1.2.2.2,cb1⟩ | exact ⟨(cda.below hq1 hba').1,(cda.below hq1 hba').2.1,(cda.below hq1 hba').2.2.1,(cda.below hq1 hba').2.2.2,cdb.below hq1 hbb'⟩)
     ((go_at_call 75;refine (AZ xs[k] ys[k] _).mono ?_;rintro e w1 ⟨rfl,hq1⟩))
    have hbw:Below w.heap.size w w1:=hb.drew.trans (hq1.mono hb.size)
    go_wp2
    ·have h1:(!xs[k].eqB ys[k])=true:=by assumption
     have hne:xs≠ys:=fun e=>by subst e;simp [(Ins.eqB_iff xs[k] xs[k]).2 rfl] at h1
     go_ret
     exact ⟨aI (by simp [hne]),hbw⟩
    ·have h1:(!xs[k].eqB ys[k])=false:=by assumption
     have heq:xs[k]=ys[k]:=(Ins.eqB_iff _ _).1 (by simpa using h1)
     go_roundw
     case rel=>exact ⟨k+1,by omega,by go_num,hbw,zC hlt hlt2 HE.out heq⟩
     case measure=>simp [intOf];omega
   ·have : k=xs.length:=by omega
    subst this;have hfin:=AY HL.out HE.out;have HF:=Lib.hid hfin;clear hfin
    go_wp2
    go_ret
    exact ⟨aI (by simp [HF.out]),hb⟩
 ·have hl':((xs.length:Int) != (ys.length:Int))=true:=by simp;omega
  have hne:xs≠ys:=fun e=>hl (by rw [e]);have HNE:=Lib.hid hne;clear hne hl
  go_enter Tryz.func35,Tryz.ntmps35
  go_wp2
  go_ret
  exact ⟨aI (by simp [HNE.out]),Below.refl _ _⟩
def total {α:Type} (p:List (List α)):Nat:=(p.map List.length).sum
theorem vw {α:Type} (p:List (List α)) (k:Nat) (h:k<p.length):total (p.take (k+1))=total (p.take k)+p[k].length:=by
 unfold total;rw [iU _ _ h,List.map_append,List.sum_append];simp
theorem yw {α:Type} (p:List (List α)) (k:Nat):total (p.take k)<=total p:=by
 unfold total
 conv=>rhs;rw [<- List.take_append_drop k p,List.map_append,List.sum_append]
 omega
section
variable {α:Type} {f:α->List Value} {s:Nat} {t:TypeId} {w w':World} {lo hi:Nat} {v:Value} {xs:List α} {row:Option Nat}
theorem Ow.block (x:Ow f s t w lo hi v xs) (hn:0<xs.length):∃ g cur,v.ownBlock=some g/\lo<=g/\g<hi/\Blk w g t cur:=by
 obtain ⟨A,c,rfl,hc,hm,r⟩:=x;obtain ⟨g,cur,rfl,hb1,hb2,hb3,hx⟩:=r hn;exact ⟨g,cur,rfl,hb1,hb2,hb3⟩
end
section
variable {P:Program} (w:World)
end
theorem sG (b o j:Nat):(⟨b,o,none⟩:Addr).add j=⟨b,o+j,none⟩:=by
 unfold Addr.add
 by_cases h:j=0 <;> simp [h]
section
variable {α:Type} {f:α->List Value} {s:Nat} {t:TypeId} {w w':World} {lo hi:Nat} {v:Value} {xs:List α}
theorem flat_get (hf:∀ x,(f x).length=s) (xs:List α) (k:Nat) (h:k<xs.length) (j:Nat) (hj:j<s):(xs.flatMap f)[k*s+j]? = (f xs[k])[j]? := by
 induction xs generalizing k with
 | nil=>simp at h
 | cons x r ih=>
  rw [List.flatMap_cons]
  match k,h with
  | 0,_=>
   rw [gal (by rw [hf];omega)];simp
  | k+1,h=>
   have h2:k<r.length:=by simpa using h
   rw [gar (by rw [hf,Nat.add_mul];omega)];have := ih k h2;rw [hf,show (k+1)*s+j-s=k*s+j from by rw [Nat.add_mul];omega];simpa using this
theorem BW (hf:∀ x,(f x).length=s) (xs:List α):(xs.flatMap f).length=xs.length*s:=by
 induction xs with
 | nil=>simp
 | cons x r ih=>rw [List.flatMap_cons,lla,hf,ih,List.length_cons,Nat.add_mul];omega
theorem Dc (hs:0<s) {n q:Nat} (h:q<n*s):q / s<n/\q % s<s/\q=q / s*s+q % s:=
 ⟨(Nat.div_lt_iff_lt_mul hs).2 h,Nat.mod_lt _ hs,by rw [Nat.mul_comm];exact (Nat.div_add_mod q s).symm⟩
theorem Ow.row (hf:∀ x,(f x).length=s) (hs:0<s) (h:Ow f s t w lo hi v xs) (hn:0<xs.length):w.ownsRow lo t s v xs.length (xs.flatMap f):=by
 obtain ⟨A,c,rfl,hc,hm,r⟩:=h;obtain ⟨g,cur,rfl,hg1,hg2,hB,hsz,hx⟩:=r hn;refine ⟨BW hf xs,.inr ⟨g,c,cur,rfl,hg1,hB,hc,by simp only [maxLen];omega,hsz,?_⟩⟩;have hle:xs.length*s<=c*s:=Nat.mul_le_mul_right s hc;apply List.ext_getElem?;intro q
 by_cases hq:q<xs.length*s
 ·obtain ⟨h1,h2,h3⟩:=Dc hs hq;rw [List.getElem?_take,if_pos hq];have hlt:q % s<(f xs[q / s]).length:=by rw [hf];exact h2
  have := hx _ h1 _ _ (geq hlt);rw [<- h3] at this;rw [Array.getElem?_toList,this,<- geq hlt,<- flat_get hf xs _ h1 _ h2,<- h3]
 ·rw [List.getElem?_eq_none (Nat.le_trans (List.length_take_le _ _) (by omega)),List.getElem?_eq_none (by rw [BW hf];omega)]
end
theorem df (x lo hi:Int) (b:Bool) (hb:(decide (lo<=x)&&decide (x<=hi))=b) (w:World) :
  Calls Tryz.prog 46 #[.int .i64 x,.int .i64 lo,.int .i64 hi] w fun e w'=>e = .returned (.bool b)/\w=w':=by
 subst hb
 by_cases h1:lo<=x
 ·by_cases h2:x<=hi
  ·go_enter Tryz.func46,Tryz.ntmps46
   go_wp2
   all_goals (go_ret;exact ⟨aI (by simp [h1,h2]),rfl⟩)
  ·go_enter Tryz.func46,Tryz.ntmps46
   go_wp2
   all_goals (go_ret;exact ⟨aI (by simp;omega),rfl⟩)
 ·go_enter Tryz.func46,Tryz.ntmps46
  go_wp2
  all_goals (go_ret;exact ⟨aI (by simp;omega),rfl⟩)
def iV (x:LD):Ins:=⟨x.Op,x.Loc,x.Reg,x.Val⟩
theorem zD {α β:Type} (e:α->β) (p:List (List α)):total (p.map fun r=>r.map e)=total p:=by
 unfold total;rw [List.map_map]
 congr 1
 exact List.map_congr_left fun r _=>List.length_map _
end
end Go.Proofs.YtlmjnhnpahicmaaGreat
