/- Texts joined. No conditions. -/
import Derived.Test.YtlmjnhnpahicmaaGreatY3
namespace Go.Proofs.YtlmjnhnpahicmaaGreat
noncomputable section
open Go.RowKit
set_option maxRecDepth 100000
section
variable {P:Program} {o:Oper} {ρ:Operand->AV} {H:AH} {x y:Operand} {t e:TypeId}
theorem tZ {lo co:Operand} {l k:Int} {z:Value} (ho:o.op = .makeSlice t lo co) (ht:P.underlying t=some (.slice e)) (hlo:ρ lo = .v (.int .i64 l)) (hco:ρ co = .v (.int .i64 k)) (hz:(P.info? e).bind (·.zero)=some z)
  (h0:0<=l) (h1:l<=k) (hb:k*(P.bytesOf e:Int)<=140737488355328) (hk:k<=140737488355328) (hs:0<P.cellsOf e) (hzs:(bF z).length=P.cellsOf e) (hz1:gY z.cells=true) :
  Bm P o ρ H ⟨0,P.cellsOf e,e,List.replicate k.toNat (bF z)⟩ (.hs H.length 0 (P.cellsOf e) 0 l.toNat):=by
 cases hi:P.info? e with
 | none=>rw [hi] at hz;cases hz
 | some i=>
  simp only [hi,Option.bind_some] at hz;have hby:P.bytesOf e=i.bytes:=by simp [Program.bytesOf,hi]
  have hce:P.cellsOf e=i.size:=by simp [Program.cellsOf,hi]
  have hzsz:z.cells.size=P.cellsOf e:=by simpa [bF] using hzs
  refine fun c a hH hr hx=>?_;have hl1:=(cA (hlo ▸ hx lo (by rw [ho];simp [Op.operands]))).1;have hk1:=(cA (hco ▸ hx co (by rw [ho];simp [Op.operands]))).1;have hzc:=kD c hz1;have hsize:(sizeOf e).run P c.w = .ok (P.cellsOf e) c.w:=run_sizeOf c.w hi;have hzero:(zeroValue e).run P c.w = .ok z c.w:=by simp [zeroValue,typeInfo,hi,hz]
  refine ⟨(Array.range (k.toNat*P.cellsOf e)).map (z.cells[· % z.cells.size]!),.slice (some ⟨c.w.heap.size,0,none⟩) l.toNat k.toNat,?_,Cx.new_rel hr _ _ hs (by simp) (fun q row h=>?_) (fun q row j a' h1' h2=>?_),?_⟩
  ·rw [execOp,ho];refine (?_:Sem.run P _ c.w=_);have hneg : ¬ ((((decide (k<0)||decide (i.bytes*k>2 ^ 48))||decide (l<0))||decide (l>k))=true):=by
    simp only [Bool.or_eq_true,dte,not_or];rw [hby,Int.mul_comm] at hb;omega
   have : (Instr.makeSlice t (a.eval lo) (a.eval co)).run P c.w = .ok (.slice (some ⟨c.w.heap.size,0,none⟩) l.toNat k.toNat) (c.w.alloc (.cells ((Array.range (k.toNat*P.cellsOf e)).map (z.cells[· % z.cells.size]!)) e)):=by
    rw [hl1,hk1];simp only [Instr.makeSlice,Sem.run_bind,ah ht,Result.andThen_ok,asInt,asIntOf,Sem.run_pure,run_typeInfo c.w hi,vu (n:=l) h0 (by omega),vu (n:=k) (by omega) (by omega)];rw [if_neg hneg];simp only [Sem.run_bind,run_askRoom,Result.andThen_ok,hsize]
    by_cases h00:k.toNat*P.cellsOf e=0
    ·rw [if_pos h00,h00];have h00':∀ f:Nat->Value,Array.map f (Array.range 0) = #[]:=fun f=>Array.eq_empty_of_size_eq_zero (by simp);simp [newRow,h00']
    ·rw [if_neg h00];simp [hzero,newRow]
   simp only [Sem.run_bind,this,Result.andThen_ok,Sem.run_pure]
   rfl
  ·have := List.mem_of_getElem? h;rw [List.mem_replicate] at this;rw [this.2];exact hzs
  ·have hq:q<k.toNat:=by
    have := (ges h1').1;simpa using this
   have := List.mem_of_getElem? h1';rw [List.mem_replicate] at this;rw [this.2] at h2;have hj:j<P.cellsOf e:=by
    have := (ges h2).1;omega
   have hfit:q*P.cellsOf e+j<k.toNat*P.cellsOf e:=by
    have : (q+1)*P.cellsOf e<=k.toNat*P.cellsOf e:=Nat.mul_le_mul_right _ (by omega);rw [Nat.add_mul] at this;omega
   simp only;rw [qX _ _ _ hfit (by omega),hzsz,Nat.mul_comm,Nat.mul_add_mod,Nat.mod_eq_of_lt hj];exact hzc.get h2
  ·subst hH;have := Cx.new_hs c ⟨0,P.cellsOf e,e,List.replicate k.toNat (bF z)⟩ ((Array.range (k.toNat*P.cellsOf e)).map (z.cells[· % z.cells.size]!)) (n:=l.toNat) (cap:=k.toNat) (by simp;omega) (by omega) (by omega) (by simp);exact this
theorem FQ {ag:Bool} {w m:Nat} {zs:List AV} {a b:Int} (q:SlT P t e ag w zs m) (ho:o.op = .makeSlice t x y) (hx:ρ x = .v (.int .i64 a)) (hy:ρ y = .v (.int .i64 b)) (hq:0<=a/\a<=b/\b*(m:Int)<=140737488355328/\b<=140737488355328) :
  Bm P o ρ H ⟨0,w,e,List.replicate b.toNat zs⟩ (.hs H.length 0 w 0 a.toNat):=by
 have hz:=q.z.z;have h1:=q.z.one
 cases hb:(P.info? e).bind (·.zero) with
 | none=>rw [hb] at hz;cases hz
 | some z=>
  rw [hb] at hz h1;simp only [Option.map_some,sie] at hz h1;have h:=tZ (P:=P) (o:=o) (ρ:=ρ) (H:=H) ho q.u hx hy hb hq.1 hq.2.1 (by rw [q.by_];exact hq.2.2.1) hq.2.2.2 (by rw [q.ty.cells];exact nlb q.pos) (by rw [hz,q.ty.cells];exact q.zl) h1;rw [hz,q.ty.cells] at h;exact h
end
section
variable {P:Program}
def OSQ (bs:List Nat) (K:AH) (r:AV):AV->AH->Prop:=fun r0 G=>
 bs.Nodup/\bs.length=K.length/\(∀ (j b:Nat),bs[j]? = some b->∃ k,mP k/\G[b]? = some (some k)/\K[j]? = some (some k))/\Ren (fun i j=>bs[j]? = some i) r0 r
inductive Lies (G:AH):List Nat->AH->Prop
 | nil:Lies G [] []
 | cons {b:Nat} {k:ABlk} {bs:List Nat} {K:AH} (h:G[b]? = some (some k)) (hk:mP k) (t:Lies G bs K):Lies G (b::bs) (some k::K)
theorem Lies.spec {G:AH} {bs:List Nat} {K:AH} (h:Lies G bs K):bs.length=K.length/\∀ (j b:Nat),bs[j]? = some b->∃ k,mP k/\G[b]? = some (some k)/\K[j]? = some (some k):=by
 induction h with
 | nil=>exact ⟨rfl,fun j b h=>by simp at h⟩
 | @cons b k bs K h hk t ih=>
  refine ⟨by simp [ih.1],fun j c hc=>?_⟩
  match j with
  | 0=>
   obtain rfl:=osl hc;exact ⟨k,hk,h,rfl⟩
  | j+1=>exact ih.2 j c hc
theorem OSQ.mk {bs:List Nat} {K G:AH} {r r0:AV} (hnd:bs.Nodup) (hl:Lies G bs K) (hr:Ren (fun i j=>bs[j]? = some i) r0 r):OSQ bs K r r0 G:=⟨hnd,hl.spec.1,hl.spec.2,hr⟩
inductive RowsF:AH->Prop
 | nil:RowsF []
 | cons {k:ABlk} {K:AH} (hk:mP k) (t:RowsF K):RowsF (some k::K)
theorem RowsF.spec {K:AH} (h:RowsF K):∀ (j:Nat) (k:ABlk),K[j]? = some (some k)->mP k:=by
 induction h with
 | nil=>intro j k h;simp at h
 | cons hk t ih=>
  intro j k h
  match j with
  | 0=>
   obtain rfl:=osl (osl h);exact hk
  | j+1=>exact ih j k h
end
def E5 (ops:Array Oper):Nat->Nat->Nat->Bool
 | 0,_,_=>false
 | n+1,j,i=>match ops[j]? with
  | some oj=>oj.after.any fun ed=>Region.binds .any ed&&(ed.on==i||E5 ops n ed.on i)
  | none=>false
def ClL (ops:Array Oper) (listed:Array Bool):Prop:=∀ (j:Nat) (oj:Oper),ops[j]? = some oj->listed.getD j false=true->∀ ed∈oj.after,Region.binds .any ed=true->listed.getD ed.on false=true
theorem BW {listed:Array Bool} {i j:Nat} (h:listed.getD i false=true):(listed.setIfInBounds j true).getD i false=true:=by
 by_cases e:j=i
 ·subst e;rcases Nat.lt_or_ge j listed.size with h' | h'
  ·simp [h']
  ·simp [Array.getElem?_eq_none h'] at h
 ·simpa [Array.getElem?_setIfInBounds_ne e] using h
theorem ClL.up {ops:Array Oper} {listed:Array Bool} {j:Nat} (h:ClL ops listed) (hj:j∈Region.ready .any ops listed):ClL ops (listed.setIfInBounds j true):=by
 intro i oi hoi hl ed he hb
 by_cases e:j=i
 ·subst e;obtain ⟨_,oj,hoj,hall⟩:=mem_ready.1 hj;rw [hoi] at hoj;injection hoj with hoj;subst hoj;exact BW (hall ed he hb)
 ·refine BW (h i oi hoi ?_ ed he hb);simpa [Array.getElem?_setIfInBounds_ne e] using hl
theorem uD {ops:Array Oper} {listed:Array Bool} {i:Nat} (h:ClL ops listed) (hi:listed.getD i true=false):∀ (n j:Nat),(∀ oj,ops[j]? = some oj->∀ ed∈oj.after,Region.binds .any ed=true->listed.getD ed.on false=true)->E5 ops n j i=false
 | 0,_,_=>rfl
 | n+1,j,hj=>by
  unfold E5
  split
  ·rename_i oj hoj;rw [Bool.eq_false_iff];intro hany;rw [Array.any_eq_true'] at hany;obtain ⟨ed,h1,h2⟩:=hany;simp only [bae,Bool.or_eq_true,beq_iff_eq] at h2;have hl:=hj oj hoj ed h1 h2.1;rcases h2.2 with h3 | h3
   ·rw [h3] at hl;rcases Nat.lt_or_ge i listed.size with h' | h'
    ·simp [h'] at hl hi;rw [hi] at hl;cases hl
    ·simp [Array.getElem?_eq_none h'] at hl
   ·rw [uD h hi n ed.on fun oj' hoj'=>h ed.on oj' hoj' hl] at h3
    cases h3
  ·rfl
section
variable {P:Program}
theorem yC {ops:Array Oper} {fp:Nat->Fp} {Q:Env->AH->Prop} {i n:Nat} {oi:Oper} {r:AV} (hi:ops[i]? = some oi) :
  ∀ (fuel:Nat) (listed:Array Bool) (e:Env) (H Hi:AH),ClL ops listed ->
   (∀ (j:Nat) (oj:Oper),ops[j]? = some oj->j≠i->listed.getD j true=false->E5 ops (n+1) j i=false->oi.apart ops oj=true/\iQ (fp i) (fp j)=true) ->
   i∈Region.ready .any ops listed->jM P oi (rho e) H r Hi (fp i).1->((fp i).2=false->Hi=H)->DL P ops fp Q fuel (listed.setIfInBounds i true) (ig e oi.dst r) Hi->DL P ops fp Q (fuel+1) listed e H:=by
 intro fuel
 induction fuel with
 | zero=>
  intro listed e H Hi _ _ hr hy hro hA;refine ⟨fun h=>(by rw [h] at hr;cases hr),fun j hj=>?_⟩
  by_cases hji:j=i
  ·subst hji;exact ⟨oi,r,Hi,hi,hy,hro,hA⟩
  ·have := ready_mono hj hji;rw [hA.1] at this
   cases this
 | succ fuel ih=>
  intro listed e H Hi hcl hfree hr hy hro hA;refine ⟨fun h=>(by rw [h] at hr;cases hr),fun j hj=>?_⟩
  by_cases hji:j=i
  ·subst hji;exact ⟨oi,r,Hi,hi,hy,hro,hA⟩
  ·obtain ⟨oj,q,Hj,hoj,hsj,hroj,hAj⟩:=hA.2 j (ready_mono hj hji);obtain ⟨hjun,oj',hoj',hall⟩:=mem_ready.1 hj;rw [hoj] at hoj';injection hoj' with hoj';subst hoj';have hnot:E5 ops (n+1) j i=false:=uD hcl (mem_ready.1 hr).1 (n+1) j fun oj' hoj'=>by
    rw [hoj] at hoj';injection hoj' with hoj';subst hoj';exact hall
   obtain ⟨hap,hcm⟩:=hfree j oj hoj hji hjun hnot;obtain ⟨h1,h2,h3⟩:=Oper.apart_spec hap;have ej:=iI (e:=e) (r:=r) h1;have ei:=iI (e:=e) (oi:=oj) (r:=q) h3;have hsj':=hsj.congr ej;have hfree':∀ (k:Nat) (ok:Oper),ops[k]? = some ok->k≠i->(listed.setIfInBounds j true).getD k true=false->E5 ops (n+1) k i=false->oi.apart ops ok=true/\iQ (fp i) (fp k)=true:=fun k ok hk hki hun hno=>by
    refine hfree k ok hk hki ?_ hno
    by_cases hjk:j=k
    ·subst hjk;exact hjun
    ·rw [getD_set_ne true hjk] at hun;exact hun
   have fin:∀ Hj',jM P oj (rho e) H q Hj' (fp j).1->((fp j).2=false->Hj'=H)->jM P oi (rho e) Hj' r Hj (fp i).1->((fp i).2=false->Hj=Hj')->∃ o r' H',ops[j]? = some o/\jM P o (rho e) H r' H' (fp j).1/\((fp j).2=false->H'=H)/\DL P ops fp Q (fuel+1) (listed.setIfInBounds j true) (ig e o.dst r') H':=fun Hj' s1 s1' s2 s2'=>by
    refine ⟨oj,q,Hj',hoj,s1,s1',ih (listed.setIfInBounds j true) (ig e oj.dst q) Hj' Hj (hcl.up hj) hfree' (ready_mono hr (Ne.symm hji)) (s2.congr fun x hx=>(ei x hx).symm) s2' ?_⟩;rw [Array.setIfInBounds_comm _ _ hji,lV (fun d hd=>fun hd'=>h2 d (by simpa using hd') (by simpa using hd))];exact hAj
   simp only [iQ,Bool.or_eq_true,bae,Bool.not_eq_true',List.all_eq_true,List.contains_eq_mem,decide_eq_false_iff_not] at hcm;rcases hcm with hdis | ⟨w1,w2⟩
   ·have hag:agree (fp j).1 H Hi:=⟨hy.1.symm,fun b hb=>(hy.2.1 b (fun hbi=>hdis b hbi hb)).symm⟩;obtain ⟨Hj',a1,a2,a3,a4⟩:=hsj'.at_ hag;have hag2:agree (fp i).1 Hj' H:=⟨a1,fun b hb=>a3 b (hdis b hb)⟩;obtain ⟨K,b1,b2,b3,b4⟩:=hy.at_ hag2;have hKH:K=Hj:=by
     apply List.ext_getElem?;intro b
     by_cases hbi:b∈(fp i).1
     ·rw [b2 b hbi,hsj'.2.1 b (hdis b hbi)]
     ·rw [b3 b hbi]
      by_cases hbj:b∈(fp j).1
      ·exact a2 b hbj
      ·rw [a3 b hbj,hsj'.2.1 b hbj,hy.2.1 b hbi]
    subst hKH;refine fin Hj' a4 (fun hw=>?_) b4 (fun hw=>?_)
    ·apply List.ext_getElem?;intro b
     by_cases hbj:b∈(fp j).1
     ·rw [a2 b hbj,hroj hw,hy.2.1 b (fun hbi=>hdis b hbi hbj)]
     ·exact a3 b hbj
    ·apply List.ext_getElem?;intro b
     by_cases hbi:b∈(fp i).1
     ·rw [b2 b hbi,hro hw,a3 b (hdis b hbi)]
     ·exact b3 b hbi
   ·obtain rfl:=hro w1;obtain rfl:=hroj w2;exact fin _ hsj' (fun _=>rfl) hy (fun _=>rfl)
def Ie (ops:Array Oper) (fp:Nat->Fp):Bool:=
 Region.lexB .any ops&&ops.all (fun o=>o.guard.isNone) &&
 (List.range ops.size).all fun i=>(List.range ops.size).all fun j=>decide (j<=i)||iQ (fp i) (fp j)||E5 ops 6 j i
theorem zA {ops:Array Oper} {fp:Nat->Fp} {Q:Env->AH->Prop} (hc:Ie ops fp=true):∀ (l:List Oper) (k:Nat) (listed:Array Bool) (e:Env) (H:AH),ClL ops listed->(∀ j,l[j]? = ops[k+j]?)->listed.size=ops.size->(∀ j,j<k->listed.getD j true=true) ->
  Region.lexFrom .any ops l.length k listed=true->TF P fp k l Q e H->DL P ops fp Q l.length listed e H
 | [],k,listed,e,H,_,_,_,_,hB,h=>⟨by simpa [Region.lexFrom] using hB,h⟩
 | o::l,k,listed,e,H,hcl,hl,hsz,hbef,hB,h=>by
  have h0:ops[k]? = some o:=by simpa using (hl 0).symm
  have hk:k<ops.size:=(Array.getElem?_eq_some_iff.1 h0).1;simp only [llc,Region.lexFrom,bae] at hB;obtain ⟨⟨hr,hf⟩,hB'⟩:=hB;obtain ⟨r,H',hs,hro,hK⟩:=h;have hrk:k∈Region.ready .any ops listed:=by simpa using hr
  refine yC (n:=5) h0 l.length listed e H H' hcl (fun j oj hj hne hun hno=>?_) hrk hs hro
   (zA hc l (k+1) _ _ _ (hcl.up hrk) (fun j=>by have := hl (j+1);simpa [Nat.add_assoc,Nat.add_comm 1 j] using this) (by simpa using hsz) (fun j hj=>?_) hB' hK)
  ·have hno1:∀ ed∈oj.after,Region.binds .any ed=true->ed.on≠k:=fun ed he hb heq=>by
    unfold E5 at hno;simp only [hj] at hno;rw [Bool.eq_false_iff] at hno;refine hno ?_;rw [Array.any_eq_true'];exact ⟨ed,he,by simp [hb,heq]⟩
   refine ⟨Region.free_spec h0 hf j oj hj hne hun hno1,?_⟩;have hjs:j<ops.size:=(Array.getElem?_eq_some_iff.1 hj).1;have hkj : ¬ j<=k:=fun hle=>by
    have := hbef j (by omega);rw [this] at hun
    cases hun
   simp only [Ie,bae,List.all_eq_true,List.mem_range] at hc;have := hc.2 k hk j hjs;simp only [Bool.or_eq_true,dte,hkj,false_or] at this;rcases this with h1 | h1
   ·exact h1
   ·rw [hno] at h1
    cases h1
  ·by_cases e:j=k
   ·subst e;simp [hsz,hk]
   ·rw [getD_set_ne true (Ne.symm e)];exact hbef j (by omega)
variable {nt b0:Nat} {Q:Exit->Env->AH->Prop} {e:Env} {H:AH}
theorem T.drawH {i:Nat} {ops:Array Oper} (fp:Nat->Fp) (hm:P.follows .mixedOrders=true) (hc:Ie ops fp=true) (h:TF P fp 0 ops.toList (Q .normal) e H):T P nt b0 (.region i ops true) Q e H:=by
 intro hok c c0 a hH hb hx hs;simp only [codeOk] at hok;have hc':=hc;simp only [Ie,bae,Region.lexB] at hc';refine wp_region_any hm ?_;have hlex:=zA hc ops.toList 0 (Array.replicate ops.size false) e H (fun j oj hj hl=>by
  rcases Nat.lt_or_ge j ops.size with h' | h'
  ·simp [h'] at hl
  ·simp [Array.getElem?_eq_none h'] at hj) (fun j=>by simp) (by simp) (fun j hj=>absurd hj (by omega)) (by simpa using hc'.1.1.2) h
 have := pO hok hc'.1.2 ops.toList.length _ e H hlex c.drew c0 a hH (hx.trans c.drew_ext) ⟨hs.size,hs.defers,fun t=>(hs.rel t).ext hs.heap c.drew_ext,Cx.drew_rel hs.heap⟩;rw [Array.length_toList] at this;exact this
end
section
variable {P:Program} {ρ:Operand->AV} {H H':AH}
structure MethT (P:Program) (t:TypeId) (name:String) (g:FuncId) (off:Nat):Prop where
 ex:∃ i m e,P.info? t=some i/\i.methods.find? (·.name==name)=some m/\m.func=some (g,true)/\P.underlying t=some (.pointer e) /\
  ((m.path.toList=[]/\off=0)\/∃ s k fs fl u,m.path.toList=[⟨s,k,true⟩]/\P.underlying s=some (.struct fs)/\fs[k]? = some fl/\P.cellsOf fl.type≠0/\(P.info? fl.type).isSome=true/\fl.offset=off/\P.underlying fl.type=some u/\(∀ e,u ≠ .pointer e))
def G6 (P:Program) (t:TypeId) (name:String) (g:FuncId) (off:Nat):Bool:=
 match P.info? t,P.underlying t with
 | some i,some (.pointer _)=>(match i.methods.find? (·.name==name) with
  | some m=>m.func==some (g,true)&&(match m.path.toList with
   | []=>off==0
   | [⟨s,k,true⟩]=>(match P.underlying s with
    | some (.struct fs)=>(match fs[k]? with
     | some fl=>P.cellsOf fl.type != 0&&(P.info? fl.type).isSome&&fl.offset==off&&(match P.underlying fl.type with
      | some (.pointer _) | none=>false
      | some _=>true)
     | none=>false)
    | _=>false)
   | _=>false)
  | none=>false)
 | _,_=>false
theorem MethT.of {t:TypeId} {name:String} {g off:Nat} (h:G6 P t name g off=true):MethT P t name g off:=by
 unfold G6 at h
 split at h
 ·rename_i i e hi hu
  split at h
  ·rename_i m hm;simp only [bae,beq_iff_eq] at h;obtain ⟨hf,h⟩:=h;refine ⟨i,m,e,hi,hm,hf,hu,?_⟩
   split at h
   ·rename_i hp;exact .inl ⟨hp,by simpa using h⟩
   ·rename_i s k hp
    split at h
    ·rename_i fs hs
     split at h
     ·rename_i fl hfl;simp only [bae,beq_iff_eq,bne_iff_ne,ne_eq] at h;obtain ⟨⟨⟨h1,h2⟩,h3⟩,h4⟩:=h
      cases hfu:P.underlying fl.type with
      | none=>rw [hfu] at h4;cases h4
      | some u=>exact .inr ⟨s,k,fs,fl,u,hp,hs,hfl,h1,h2,h3,hfu,fun e' he=>by subst he;rw [hfu] at h4;cases h4⟩
     ·cases h
    ·cases h
   ·cases h
  ·cases h
 ·cases h
def Ja (off:Nat):AV->AV
 | .fp row j => .fp row (j+off)
 | .hp b v s i j => .hp b v s i (j+off)
 | a=>a
theorem Av {t:TypeId} {name:String} {g off:Nat} (hm:MethT P t name g off) (w:World) (n:Nat) {g0:Nat} {o0:Nat} (v:Value) (hv:v = .pointer (some ⟨g0,o0,none⟩)):(method (n+1) t v name).run P w = .ok (g,.pointer (some ⟨g0,o0+off,none⟩)) w:=by
 obtain ⟨i,m,e,hi,hf,hg,hu,hp⟩:=hm.ex;have e1:(typeInfo t).run P w = .ok i w:=run_typeInfo w hi;rcases hp with ⟨hp,rfl⟩ | ⟨s,k,fs,fl,u,hp,hs,hk,hc,_,rfl,hfu,hne⟩
 ·simp only [method,Sem.run_bind,e1,Result.andThen_ok,hf,hp,follow,Sem.run_pure,hg,receiverAt,ah hu,Place.get,hv,Nat.add_zero]
 ·obtain ⟨i2,hi2⟩:=nW hc
  have e2 : (receiverAt fl.type (.var ⟨g0,o0 + fl.offset,none⟩) true (if m.path.isEmpty then some ((name.splitOn ".").getLastD name) else none)).run P w = .ok (.pointer (some ⟨g0,o0 + fl.offset,none⟩)) w := by
   unfold receiverAt;simp only [Sem.run_bind,ah hfu,Result.andThen_ok]
   cases u <;> first | rfl | exact absurd rfl (hne _)
  simp only [method,Sem.run_bind,e1,Result.andThen_ok,hf,hp,follow,Sem.run_pure,hg,ah hs,hk,Place.get,hv,asAddr,fieldPlace,run_sizeOf w hi2,hc,if_false,if_true,add0,e2]
theorem ub {t:TypeId} {name:String} {g off:Nat} (hm:MethT P t name g off) (hcl:eP P g=true) (w:World) {g0 o0:Nat} (args:Array Value) :
  (callMethod (.iface t (.pointer (some ⟨g0,o0,none⟩))) name args).run P w = .ok (.enter g (#[.pointer (some ⟨g0,o0+off,none⟩)]++args)) w:=by
 have h0:0<Made.depth:=by decide
 obtain ⟨n,hn⟩:∃ n,P.types.size+Made.depth=n+1:=⟨P.types.size+Made.depth-1,by omega⟩;have h1:=Av hm w n (g0:=g0) (o0:=o0) _ rfl;have h2:=lT hcl (#[.pointer (some ⟨g0,o0+off,none⟩)]++args) w;have hp:(program:Sem Program).run P w = .ok P w:=rfl;simp only [callMethod,Sem.run_bind,hp,Result.andThen_ok,hn,h1];exact h2
theorem Aw {o:Oper} {cl:Call} {x:Operand} {name:String} {t:TypeId} {row:List AV} {j:Nat} {g:FuncId} {off:Nat} {r:AV} (ho:o.op = .call cl) (hc:cl.callee = .invoke x name) (hx:ρ x = .ifc t (.fp row j)) (hm:MethT P t name g off)
  (h:jp P g (.fp row (j+off)::cl.args.toList.map ρ) H r H'):Jb P o ρ H r H':=by
 intro c a K Q hH hr hxs hK;have hf1:=hx ▸ hxs x (by rw [ho];simp [Op.operands,Call.operands,hc]);obtain ⟨y,he,hrel⟩:=pq hf1;have hfp:=lN hrel;have key:∃ g0 o0,y = .pointer (some ⟨g0,o0,none⟩)/\c.rel (.fp row (j+off)) (.pointer (some ⟨g0,o0+off,none⟩)):=by
  cases hfp with
  | fp us hg hlt hu h1 h=>
   refine ⟨_,_,rfl,?_⟩;rw [Nat.add_assoc];exact .fr (.fp us hg hlt hu h1 h)
 obtain ⟨g0,o0,hy,hrec⟩:=key;have hargs:wO c (.fp row (j+off)::cl.args.toList.map ρ) (#[.pointer (some ⟨g0,o0+off,none⟩)]++cl.args.map a.eval):=by
  refine ⟨by simp;omega,fun i q v hq hv=>?_⟩
  match i with
  | 0=>
   simp only [List.getElem?_cons_zero,sie] at hq;have : (#[Value.pointer (some ⟨g0,o0+off,none⟩)]++cl.args.map a.eval)[0]? = some (Value.pointer (some ⟨g0,o0+off,none⟩)):=by
    rw [Array.getElem?_append_left (show 0<1 by decide)]
    rfl
   rw [this] at hv;injection hv with hv;subst hq hv;exact hrec
  | i+1=>
   simp only [List.getElem?_cons_succ,List.getElem?_map,Array.getElem?_toList] at hq;have e:(#[Value.pointer (some ⟨g0,o0+off,none⟩)]++cl.args.map a.eval)[i+1]? = (cl.args.map a.eval)[i]? := by
    rw [Array.getElem?_append_right (by simp)];simp
   rw [e,Array.getElem?_map] at hv
   cases ha:cl.args[i]? with
   | none=>rw [ha] at hq;cases hq
   | some z=>
    rw [ha] at hq hv;injection hq with hq;injection hv with hv;subst hq hv;refine hxs z ?_;rw [ho];have hz:=Array.mem_of_getElem? ha;simp [Op.operands,Call.operands,hz]
 have hrun:(execOp a.eval o).run P c.w = .ok (.enter g (#[.pointer (some ⟨g0,o0+off,none⟩)]++cl.args.map a.eval)) c.w:=by
  have h3:=ub hm h.1 c.w (g0:=g0) (o0:=o0) (cl.args.map a.eval);rw [execOp,ho];simp only [resolve,hc,he,hy,Sem.run_bind,Sem.run_pure,Result.andThen_ok,invoke];have e1:((#[Value.iface t (.pointer (some ⟨g0,o0,none⟩))]++cl.args.map a.eval)[0]? : Option Value)=some (Value.iface t (.pointer (some ⟨g0,o0,none⟩))):=by
   rw [Array.getElem?_append_left (show 0<1 by decide)]
   rfl
  have e2:(#[Value.iface t (.pointer (some ⟨g0,o0,none⟩))]++cl.args.map a.eval).extract 1 (#[Value.iface t (.pointer (some ⟨g0,o0,none⟩))]++cl.args.map a.eval).size=cl.args.map a.eval:=by
   apply Array.ext';simp;exact List.take_of_length_le (by simp)
  rw [e1,e2];exact h3
 unfold Oper.wp;rw [hrun,Oper.upon_enter];refine (h.2 c _ hH hr hargs).mono fun e w' ⟨v,c',he,hw,hH',hr',hx,hv⟩ => ?_;subst he hw;exact hK v c' hH' hr' hx hv
theorem Je.inv {cl:Call} {x:Operand} {name:String} {t:TypeId} {row:List AV} {j:Nat} {g:FuncId} {off:Nat} {ars:List AV} {r:AV} (hc:cl.callee = .invoke x name) (hx:ρ x = .ifc t (.fp row j)) (hm:MethT P t name g off) (ha:cl.args.toList.map ρ=ars)
  (h:aJ P g (.fp row (j+off)::ars) r) (hF:ars.all (isF 9)=true):Je P ρ (.call cl) r:=fun o ho G=>by
 subst ha;refine Aw ho hc hx hm (h.acall ?_ G);simp only [List.all_cons,hF,Bool.and_true]
 rfl
end
structure A3 (α:Type) where
 x0:α
 x1:α
 x2:α
section
variable {α:Type}
instance [Inhabited α]:Inhabited (A3 α):=⟨⟨default,default,default⟩⟩
def A3.get (a:A3 α) (q:Int):α:=if q=0 then a.x0 else if q=1 then a.x1 else a.x2
def A3.set (a:A3 α) (q:Int) (v:α):A3 α:=if q=0 then ⟨v,a.x1,a.x2⟩ else if q=1 then ⟨a.x0,v,a.x2⟩ else ⟨a.x0,a.x1,v⟩
theorem GJ {P:Int->Prop} {q:Int} (g:0<=q/\q<3) (h0:P 0) (h1:P 1) (h2:P 2):P q:=by
 have h:q=0\/q=1\/q=2:=by omega
 rcases h with rfl | rfl | rfl
 ·exact h0
 ·exact h1
 ·exact h2
end
section
variable {P:Program} {ρ:Operand->AV} {H H':AH} {x y:Operand} {t e:TypeId}
theorem Je.ixafp {ag:Bool} {n w:Nat} {row:List AV} {j:Nat} {k:IntKind} {q:Int} (hu:P.underlying t=some (.array n e)) (ty:TyF P e ag w) (hx:ρ x = .fp row j) (hy:ρ y = .v (.int k q)) (hq:0<=q/\q<n):Je P ρ (.indexAddr t x y) (.fp row (j+q.toNat*w)) := .mk fun K hK=>by
 show cT P t (ρ x) (ρ y) K;simp only [cT,hu,hx,hy,ty.cells];exact ⟨hq,Ck.intro ty.info hK⟩
theorem Je.ixahp {ag:Bool} {n w:Nat} {b ver s i j:Nat} {k:IntKind} {q:Int} (hu:P.underlying t=some (.array n e)) (ty:TyF P e ag w) (hx:ρ x = .hp b ver s i j) (hy:ρ y = .v (.int k q)) (hq:0<=q/\q<n):Je P ρ (.indexAddr t x y) (.hp b ver s i (j+q.toNat*w)) := .mk fun K hK=>by
 show cT P t (ρ x) (ρ y) K;simp only [cT,hu,hx,hy,ty.cells];exact ⟨hq,Ck.intro ty.info hK⟩
theorem Je.ixag {ag:Bool} {n w:Nat} {cs:List AV} {k:IntKind} {q:Int} (a:AV) (hu:P.underlying t=some (.array n e)) (ty:TyF P e ag w) (hx:ρ x = .agg cs) (hy:ρ y = .v (.int k q)) (hq:0<=q/\q<n) (hp:je ag w cs (q.toNat*w)=some a):Je P ρ (.index t x y) a := .mk fun K hK=>by
 show wI P t (ρ x) (ρ y) K;simp only [wI,hu,hx,hy,ty.cells];exact ⟨hq,Ck.intro ty.info (og ty hp hK)⟩
end
def up (m:Nat) (gh:NG):NG:=fun i=>((gh i).1,(gh i).2.1+m,(gh i).2.2)
section
variable {α:Type}
def nrs (m:Nat) (gh:NG) (w:Nat) (l:List (List α)):List (List AV):=oh (up m gh) w l
theorem rY {m:Nat} {gh:NG} {w:Nat} {l:List (List α)} {i:Nat} (h:i<l.length):(nrs m gh w l)[i]? = some [hS (gh i).1 ((gh i).2.1+m) (gh i).2.2 w (l.getD i []).length]:=kF h
theorem G7 (m:Nat) (gh:NG) (i:Nat) (g:Bool) (k v:Nat):(up m gh).put i (g,k+m,v)=up m (gh.put i (g,k,v)):=by
 funext j
 show (bif Nat.beq j i then (g,k+m,v) else ((gh j).1,(gh j).2.1+m,(gh j).2.2))=((bif Nat.beq j i then (g,k,v) else gh j).1,(bif Nat.beq j i then (g,k,v) else gh j).2.1+m,(bif Nat.beq j i then (g,k,v) else gh j).2.2)
 cases Nat.beq j i <;> rfl
theorem FR {m:Nat} {gh:NG} {w:Nat} {l:List (List α)} {i:Nat} {g:Bool} {k v:Nat} {r:List α} (h:i<l.length):(nrs m gh w l).set i [hS g (k+m) v w r.length]=nrs m (gh.put i (g,k,v)) w (l.set i r):=by
 unfold nrs;rw [BV h,G7]
theorem FT (m w n:Nat):List.replicate n [AV.nil]=nrs m (fun i=>(true,i,0)) w (List.replicate n ([]:List α)):=by
 apply List.ext_getElem
 ·simp [nrs,oh]
 ·intro i h1 h2;simp [nrs,oh,FP,hS,up]
theorem mI {m:Nat} {gh:NG} {w:Nat} {l:List (List α)}:(nrs m gh w l).length=l.length:=jr _ _ _
structure NN (K:AH) (gh:NG) (w:Nat) (ty:TypeId) (f:α->List AV) (l:List (List α)):Prop where
 nk:NK 0 K gh w ty f l
 kf:KF K
variable {K:AH} {gh:NG} {w:Nat} {ty:TypeId} {f:α->List AV} {l:List (List α)}
theorem NN.at_ (h:NN K gh w ty f l) {i:Nat} (hi:i<l.length):K[(gh i).2.1]? = some (bE (gh i).1 (gh i).2.2 w ty ((l.getD i []).map f)):=(h.nk.at_ i hi).2
theorem NN.lt (h:NN K gh w ty f l) {i:Nat} (hi:i<l.length):(gh i).2.1<K.length:=(ges (h.at_ hi)).1
theorem NN.nil_ (h:NN K gh w ty f l) {i:Nat} (hi:i<l.length):(gh i).1=true->l.getD i []=[]:=h.nk.nil_ i hi
theorem KF.set {k:Nat} {x:Option ABlk} (h:KF K) (hx:∀ b,x=some b->mP b):KF (K.set k x):=fun i b hb=>by
 by_cases e:k=i
 ·subst e;have hl:=(ges hb).1;rw [List.getElem?_set_self (by simpa using hl)] at hb;exact hx b (osl hb)
 ·rw [List.getElem?_set_ne e] at hb;exact h i b hb
theorem KF.cons {x:Option ABlk} (h:KF K) (hx:∀ b,x=some b->mP b):KF (x::K):=fun i b hb=>by
 match i,hb with
 | 0,hb=>exact hx b (osl hb)
 | i+1,hb=>exact h i b hb
theorem zB {g:Bool} {v:Nat} {l:List α} (hf:∀ x,(f x).all (isF 9)=true):∀ b,bE g v w ty (l.map f)=some b->mP b:=fun b hb=>by
 cases g with
 | true=>cases hb
 | false=>
  obtain rfl:=osl hb;exact fun r hr a ha=>jN hf r hr a ha
theorem NN.set (h:NN K gh w ty f l) {i:Nat} (hi:i<l.length) {g:Bool} {ver:Nat} {r:List α} (hg:g=true->r=[]) (hf:∀ x,(f x).all (isF 9)=true):NN (K.set (gh i).2.1 (bE g ver w ty (r.map f))) (gh.put i (g,(gh i).2.1,ver)) w ty f (l.set i r):=
 ⟨h.nk.set hi hg,h.kf.set (zB hf)⟩
theorem NN.push (h:NN K gh w ty f l) {x:Option ABlk} (hx:∀ b,x=some b->mP b):NN (x::K) (up 1 gh) w ty f l:=
 ⟨⟨fun i hi=>⟨Nat.zero_le _,h.at_ hi⟩,fun i hi=>h.nil_ hi,fun i j hi hj hne he=>h.nk.sep i j hi hj hne (by simpa [up] using he)⟩,h.kf.cons hx⟩
theorem NN.nil:NN ([]:AH) gh w ty f []:=⟨⟨fun i hi=>by simp at hi,fun i hi=>by simp at hi,fun i j hi=>by simp at hi⟩,fun i k hk=>by simp at hk⟩
theorem NN.rep (n:Nat):NN (List.replicate n none) (fun i=>(true,i,0)) w ty f (List.replicate n []):=by
 refine ⟨⟨fun i hi=>⟨Nat.zero_le _,?_⟩,fun i hi _=>?_,fun i j _ _ hne=>hne⟩,fun i k hk=>?_⟩
 ·simp only [List.length_replicate] at hi;simp [hi,bE]
 ·simp only [List.length_replicate] at hi;simp [hi]
 ·have := List.mem_of_getElem? hk;rw [List.mem_replicate] at this
  cases this.2
theorem NN.fz [Inhabited α] (h:NN K gh w ty f l) (S:AH) {b ver n:Nat} {to:TypeId} (hb:(S++K)[b]? = some (bE false ver 1 to (nrs S.length gh w l))) (hn:n=l.length) (hf:∀ x,(f x).all (isF 9)=true):Fz 0 (S++K) (hS false b ver 1 n) (eL (cL f) l):=by
 have hk:NK 0 (S++K) (up S.length gh) w ty f l:=⟨fun i hi=>⟨Nat.zero_le _,by
  show (S++K)[(gh i).2.1+S.length]? = _;rw [gar (by omega),Nat.add_sub_cancel];exact h.at_ hi⟩,fun i hi=>h.nil_ hi,fun i j hi hj hne he=>h.nk.sep i j hi hj hne (by simpa [up] using he)⟩
 exact hk.fz hb hn hf
end
def Rot (m N:Nat) (i j:Nat):Prop:=(i<m/\j=i)\/(m<=i/\i<N+m/\j=i+1)\/(i=N+m/\j=m)
theorem Rot.low {m N i:Nat} (h:Nat.blt i m=true):Rot m N i i := .inl ⟨nlb h,rfl⟩
theorem Rot.up {m N k:Nat} (h:k<N):Rot m N (k+m) (k+(m+1)) := .inr (.inl ⟨by omega,by omega,rfl⟩)
theorem Rot.new {m N:Nat}:Rot m N (N+m) m := .inr (.inr ⟨rfl,rfl⟩)
inductive RenHL (S:Nat->Nat->Prop):AH->AH->Prop
 | nil:RenHL S [] []
 | none {l l':AH} (t:RenHL S l l'):RenHL S (none::l) (none::l')
 | some {k k':ABlk} {l l':AH} (h:RenK S k k') (t:RenHL S l l'):RenHL S (some k::l) (some k'::l')
theorem RenHL.bE {S:Nat->Nat->Prop} {α:Type} {g:Bool} {v w:Nat} {ty:TypeId} {f:α->List AV} {x:List α} {l l':AH} (hf:∀ x,(f x).all (isF 9)=true) (t:RenHL S l l'):RenHL S (bE g v w ty (x.map f)::l) (Go.Proofs.YtlmjnhnpahicmaaGreat.bE g v w ty (x.map f)::l'):=by
 cases g with
 | true=>exact .none t
 | false=>exact .some (.ofF fun r hr a ha=>jN hf r hr a ha) t
theorem RenHL.spec {S:Nat->Nat->Prop} {l l':AH} (h:RenHL S l l'):l.length=l'.length/\(∀ (i:Nat) (k:ABlk),l[i]? = Option.some (Option.some k)->∃ k',l'[i]? = Option.some (Option.some k')/\RenK S k k')/\∀ (i:Nat) (k':ABlk),l'[i]? = Option.some (Option.some k')->∃ k,l[i]? = Option.some (Option.some k)/\RenK S k k':=by
 induction h with
 | nil=>exact ⟨rfl,fun i k hk=>by simp at hk,fun i k hk=>by simp at hk⟩
 | none t ih=>
  refine ⟨by simp [ih.1],fun i k hk=>?_,fun i k hk=>?_⟩
  ·match i,hk with
   | i+1,hk=>exact ih.2.1 i k hk
  ·match i,hk with
   | i+1,hk=>exact ih.2.2 i k hk
 | some h t ih=>
  refine ⟨by simp [ih.1],fun i k hk=>?_,fun i k hk=>?_⟩
  ·match i,hk with
   | 0,hk=>
    obtain rfl:=osl (osl hk);exact ⟨_,rfl,h⟩
   | i+1,hk=>exact ih.2.1 i k hk
  ·match i,hk with
   | 0,hk=>
    obtain rfl:=osl (osl hk);exact ⟨_,rfl,h⟩
   | i+1,hk=>exact ih.2.2 i k hk
theorem Reid.rot {b0 m N:Nat} {S S' K:AH} {x x':Option ABlk} (hm:S.length=m) (hN:K.length=N) (hb:Nat.ble b0 m=true) (hS:RenHL (Rot m N) S S') (hK:KF K) (hx:RenHL (Rot m N) [x] [x']):Reid b0 (Rot m N) (S++K++[x]) (S'++x'::K):=by
 have hb:=nlb hb;obtain ⟨h1,h2,h3⟩:=hS.spec;obtain ⟨_,h5,h6⟩:=hx.spec;have hm':S'.length=m:=h1.symm.trans hm;have a1:∀ i,i<m->(S++K++[x])[i]? = S[i]? := fun i hi=>by rw [List.append_assoc,gal (by omega)]
 have a2:∀ k,k<N->(S++K++[x])[k+m]? = K[k]? := fun k hk=>by
  rw [List.append_assoc,gar (by omega),gal (by omega)]
  congr 1
  omega
 have a3:(S++K++[x])[N+m]? = some x:=by
  rw [List.append_assoc,gar (by omega),gar (by omega)];have : N+m-S.length-K.length=0:=by omega
  rw [this]
  rfl
 have c1:∀ i,i<m->(S'++x'::K)[i]? = S'[i]? := fun i hi=>gal (by omega);have c2:(S'++x'::K)[m]? = some x':=by
  rw [gar (by omega)];have : m-S'.length=0:=by omega
  rw [this]
  rfl
 have c3:∀ k,(S'++x'::K)[k+m+1]? = K[k]? := fun k=>by
  rw [gar (by omega)];have : k+m+1-S'.length=k+1:=by omega
  rw [this]
  rfl
 refine ⟨fun i j j' e1 e2=>?_,fun i i' j e1 e2=>?_,fun i hi => .inl ⟨by omega,rfl⟩,by simp;omega,fun j k0 hk=>?_,fun i j k hS hk=>?_⟩
 ·rcases e1 with ⟨_,rfl⟩ | ⟨_,_,rfl⟩ | ⟨_,rfl⟩ <;> rcases e2 with ⟨_,rfl⟩ | ⟨_,_,rfl⟩ | ⟨_,rfl⟩ <;> omega
 ·rcases e1 with ⟨_,e1⟩ | ⟨_,_,e1⟩ | ⟨_,e1⟩ <;> rcases e2 with ⟨_,e2⟩ | ⟨_,_,e2⟩ | ⟨_,e2⟩ <;> omega
 ·rcases Nat.lt_trichotomy j m with hj | hj | hj
  ·rw [c1 j hj] at hk;obtain ⟨k,g1,g2⟩:=h3 j k0 hk;exact ⟨j,k,.inl ⟨hj,rfl⟩,by rw [a1 j hj];exact g1,g2⟩
  ·subst hj;rw [c2] at hk;obtain rfl:=osl hk;obtain ⟨k,g1,g2⟩:=h6 0 k0 rfl;obtain rfl:=osl g1;exact ⟨_,k,.new,a3,g2⟩
  ·obtain ⟨q,rfl⟩:∃ q,j=q+m+1:=⟨j-m-1,by omega⟩;rw [c3 q] at hk;have hq:q<N:=by rw [<- hN];exact (ges hk).1
   exact ⟨q+m,k0,.inr (.inl ⟨by omega,by omega,rfl⟩),by rw [a2 q hq];exact hk,.ofF (hK q k0 hk)⟩
 ·rcases hS with ⟨e1,rfl⟩ | ⟨e1,e2,rfl⟩ | ⟨rfl,rfl⟩
  ·rw [a1 _ e1] at hk;obtain ⟨k',g1,_⟩:=h2 _ k hk;exact ⟨k',by rw [c1 _ e1];exact g1⟩
  ·obtain ⟨q,rfl⟩:∃ q,i=q+m:=⟨i-m,by omega⟩;rw [a2 q (by omega)] at hk;exact ⟨k,by rw [c3 q];exact hk⟩
  ·rw [a3] at hk;obtain rfl:=osl hk;obtain ⟨k',g1,_⟩:=h5 0 k rfl;obtain rfl:=osl g1;exact ⟨k',c2⟩
theorem cF {S:Nat->Nat->Prop} {g:Bool} {i j v w n:Nat} (h:S i j):Ren S (hS g i v w n) (hS g j v w n):=by
 cases g with
 | true=>exact .nil
 | false=>exact .hs h
theorem NN.renK {α:Type} {K:AH} {gh:NG} {w ver m N:Nat} {ty to:TypeId} {f:α->List AV} {l:List (List α)} (h:NN K gh w ty f l) (hN:K.length=N):RenK (Rot m N) ⟨ver,1,to,nrs m gh w l⟩ ⟨ver,1,to,nrs (m+1) gh w l⟩:=by
 refine ⟨rfl,rfl,rfl,by simp [mI],fun i r r' hr hr' => ?_⟩;have hi:i<l.length:=by
  have := (ges hr).1
  rwa [mI] at this
 rw [rY hi] at hr hr';obtain rfl:=osl hr;obtain rfl:=osl hr';refine ⟨rfl,fun j a a' ha ha' => ?_⟩
 match j with
 | 0=>
  obtain rfl:=osl ha;obtain rfl:=osl ha';exact cF (.up (by rw [<- hN];exact h.lt hi))
 | j+1=>simp at ha
theorem vD {S:Nat->Nat->Prop} {e:Env}:∀ t,Ren S (e t) (ae [] t):=fun _ => .top
theorem gp {S:Nat->Nat->Prop} {e:Env} {t:Nat} {a a0:AV} {l:List (Nat×AV)} (he:e t=a0) (h:Ren S a0 a) (w:∀ q,Ren S (e q) (ae l q)):∀ q,Ren S (e q) (ae ((t,a)::l) q):=by
 intro q;rcases pz t a l q with ⟨rfl,h1⟩ | h1
 ·rw [h1,he];exact h
 ·rw [h1];exact w q
theorem cV {S:Nat->Nat->Prop} {e:Env} {t:Nat} {a:AV} {l:List (Nat×AV)} (he:e t=a) (h:isF 9 a=true) (w:∀ q,Ren S (e q) (ae l q)):∀ q,Ren S (e q) (ae ((t,a)::l) q):=gp he (ax 9 a h) w
theorem Ay {c:Cx} {row row2:List AV} {j n:Nat} {v:Value} (hs:(row.drop j).take n=row2) (h:c.rel (.fp row j) v):c.rel (.fp row2 0) v:=by
 have h:=lN h
 cases h with
 | @fp _ _ g o us hg hlt hu h1 hr=>
  subst hs;have key:∀ (q:Nat) (a:AV),((row.drop j).take n)[q]? = some a->row[j+q]? = some a:=fun q a hq=>by
   rw [List.getElem?_take] at hq
   split at hq
   ·rwa [List.getElem?_drop] at hq
   ·cases hq
  exact .fr (.fp (g:=g) (o:=o+j) (j:=0) (fun q=>us (j+q)) hg hlt (fun q a hq=>by rw [Nat.add_assoc];exact hu _ _ (key q a hq)) (fun q a hq=>h1 _ _ (key q a hq)) (fun q a hq=>hr _ _ (key q a hq)))
section
variable {P:Program} {ρ:Operand->AV} {H H':AH} {x y:Operand} {t e:TypeId}
theorem Je.fafpS (n:Nat) {fs:Array Field} {f:Nat} {fl:Field} {row row2:List AV} {j:Nat} (hu:P.underlying t=some (.struct fs)) (hf:fs[f]? = some fl) (hc:(P.cellsOf fl.type != 0)=true) (hx:ρ x = .fp row j) (hs:(row.drop (j+fl.offset)).take n=row2):Je P ρ (.fieldAddr t x f) (.fp row2 0):=
 (Je.fafp hu hf hc hx).res fun _ _ h=>Ay hs h
variable {nt b0:Nat} {Q:Exit->Env->AH->Prop} {en:Env} {ops:Array Oper}
theorem TO.reserve {l:List Oper} (h:TO P nt b0 ops l Q en (H++[none])):TO P nt b0 ops l Q en H:=by
 intro hd k hl hn c c0 a hH hb hx hr;subst hH;exact h hd k hl hn c.res c0 a rfl hb (hx.trans c.res_ext) ⟨hr.size,hr.defers,fun t=>(hr.rel t).ext hr.heap c.res_ext,Cx.res_heap hr.heap⟩
theorem TO.reserveN {l:List Oper}:∀ (n:Nat) {H:AH},TO P nt b0 ops l Q en (H++List.replicate n none)->TO P nt b0 ops l Q en H
 | 0,H,h=>by simpa using h
 | n+1,H,h=>by
  refine TO.reserve (TO.reserveN n ?_);rw [List.append_assoc];exact h
end
inductive RenRows (S:Nat->Nat->Prop):List (List AV)->List (List AV)->Prop
 | nil:RenRows S [] []
 | cons {a b:List AV} {l k:List (List AV)} (h:RenL S a b) (t:RenRows S l k):RenRows S (a::l) (b::k)
theorem RenRows.spec {S:Nat->Nat->Prop} {l k:List (List AV)} (h:RenRows S l k):l.length=k.length/\∀ (i:Nat) (c d:List AV),l[i]? = some c->k[i]? = some d->RenL S c d:=by
 induction h with
 | nil=>exact ⟨rfl,fun i c d hc=>by simp at hc⟩
 | cons h t ih=>
  refine ⟨by simp [ih.1],fun i c d hc hd=>?_⟩
  match i,hc,hd with
  | 0,hc,hd=>
   obtain rfl:=osl hc;obtain rfl:=osl hd;exact h
  | i+1,hc,hd=>exact ih.2 i c d hc hd
theorem RenK.rowsL {S:Nat->Nat->Prop} {v s:Nat} {ty:TypeId} {r r':List (List AV)} (h:RenRows S r r'):RenK S ⟨v,s,ty,r⟩ ⟨v,s,ty,r'⟩:=
 ⟨rfl,rfl,rfl,h.spec.1,fun i a b ha hb=>(h.spec.2 i a b ha hb).spec⟩
theorem RenK.rowL {S:Nat->Nat->Prop} {v s:Nat} {ty:TypeId} {r r':List AV} (h:RenL S r r'):RenK S ⟨v,s,ty,[r]⟩ ⟨v,s,ty,[r']⟩ := .rowsL (.cons h .nil)
section
variable {α:Type} {K:AH} {gh:NG} {w:Nat} {ty:TypeId} {f:α->List AV} {l:List (List α)}
theorem RenHL.nest {S:Nat->Nat->Prop} {g:Bool} {ver s:Nat} {to:TypeId} {rows rows':List (List AV)} {H H':AH} (h:RenK S ⟨ver,s,to,rows⟩ ⟨ver,s,to,rows'⟩) (t:RenHL S H H'):RenHL S (Go.Proofs.YtlmjnhnpahicmaaGreat.bE g ver s to rows::H) (Go.Proofs.YtlmjnhnpahicmaaGreat.bE g ver s to rows'::H'):=by
 cases g with
 | true=>exact .none t
 | false=>exact .some h t
def Tk (a:Nat) (i j:Nat):Prop:=(i<=a/\j=i)\/(a+2<=i/\j+1=i)
theorem Tk.up {a k:Nat}:Tk a (k+(a+2)) (k+1+a) := .inr ⟨by omega,by omega⟩
theorem Reid.take {b0 a:Nat} {S S' K:AH} {x2 x2' x3:Option ABlk} (hm:S.length=a) (hb:Nat.ble b0 a=true) (hS:RenHL (Tk a) S S') (hK:KF K) (hx:RenHL (Tk a) [x2] [x2']):Reid b0 (Tk a) (S++x2::x3::K) (S'++x2'::K):=by
 have hb:=nlb hb;obtain ⟨h1,h2,h3⟩:=hS.spec;obtain ⟨_,h5,h6⟩:=hx.spec;have hm':S'.length=a:=h1.symm.trans hm;have a1:∀ i,i<a->(S++x2::x3::K)[i]? = S[i]? := fun i hi=>gal (by omega);have a2:(S++x2::x3::K)[a]? = some x2:=by
  rw [gar (by omega)];have : a-S.length=0:=by omega
  rw [this]
  rfl
 have a3:∀ k,(S++x2::x3::K)[k+a+2]? = K[k]? := fun k=>by
  rw [gar (by omega)];have : k+a+2-S.length=k+1+1:=by omega
  rw [this]
  rfl
 have c1:∀ i,i<a->(S'++x2'::K)[i]? = S'[i]? := fun i hi=>gal (by omega);have c2:(S'++x2'::K)[a]? = some x2':=by
  rw [gar (by omega)];have : a-S'.length=0:=by omega
  rw [this]
  rfl
 have c3:∀ k,(S'++x2'::K)[k+a+1]? = K[k]? := fun k=>by
  rw [gar (by omega)];have : k+a+1-S'.length=k+1:=by omega
  rw [this]
  rfl
 refine ⟨fun i j j' e1 e2=>?_,fun i i' j e1 e2=>?_,fun i hi => .inl ⟨by omega,rfl⟩,by simp;omega,fun j k0 hk=>?_,fun i j k hS hk=>?_⟩
 ·rcases e1 with ⟨_,rfl⟩ | ⟨_,e1⟩ <;> rcases e2 with ⟨_,rfl⟩ | ⟨_,e2⟩ <;> omega
 ·rcases e1 with ⟨_,e1⟩ | ⟨_,e1⟩ <;> rcases e2 with ⟨_,e2⟩ | ⟨_,e2⟩ <;> omega
 ·rcases Nat.lt_trichotomy j a with hj | hj | hj
  ·rw [c1 j hj] at hk;obtain ⟨k,g1,g2⟩:=h3 j k0 hk;exact ⟨j,k,.inl ⟨by omega,rfl⟩,by rw [a1 j hj];exact g1,g2⟩
  ·subst hj;rw [c2] at hk;obtain rfl:=osl hk;obtain ⟨k,g1,g2⟩:=h6 0 k0 rfl;obtain rfl:=osl g1;exact ⟨_,k,.inl ⟨by omega,rfl⟩,a2,g2⟩
  ·obtain ⟨q,rfl⟩:∃ q,j=q+a+1:=⟨j-a-1,by omega⟩;rw [c3 q] at hk;exact ⟨q+a+2,k0,.inr ⟨by omega,by omega⟩,by rw [a3 q];exact hk,.ofF (hK q k0 hk)⟩
 ·rcases hS with ⟨e1,rfl⟩ | ⟨e1,e2⟩
  ·rcases Nat.lt_or_ge j a with hj | hj
   ·rw [a1 _ hj] at hk;obtain ⟨k',g1,_⟩:=h2 _ k hk;exact ⟨k',by rw [c1 _ hj];exact g1⟩
   ·obtain rfl:j=a:=by omega
    rw [a2] at hk;obtain rfl:=osl hk;obtain ⟨k',g1,_⟩:=h5 0 k rfl;obtain rfl:=osl g1;exact ⟨k',c2⟩
  ·obtain ⟨q,rfl⟩:∃ q,i=q+a+2:=⟨i-a-2,by omega⟩;obtain rfl:j=q+a+1:=by omega
   rw [a3 q] at hk;exact ⟨k,by rw [c3 q];exact hk⟩
structure NX (K:AH) (gh:NG) (w:Nat) (ty:TypeId) (f:α->List AV) (l:List (List α)) (i:Nat):Prop where
 hi:i<l.length
 at_:∀ j,j<l.length->j≠i->K[(gh j).2.1]? = some (bE (gh j).1 (gh j).2.2 w ty ((l.getD j []).map f))
 nil_:∀ j,j<l.length->j≠i->(gh j).1=true->l.getD j []=[]
 sep:∀ j k,j<l.length->k<l.length->j≠i->k≠i->j≠k->(gh j).2.1≠(gh k).2.1
 kf:KF K
theorem NN.opened (h:NN K gh w ty f l) {i:Nat} (hi:i<l.length):NX (K.set (gh i).2.1 none) gh w ty f l i:=
 ⟨hi,fun j hj hne=>by rw [List.getElem?_set_ne (h.nk.sep i j hi hj (Ne.symm hne))];exact h.at_ hj,fun j hj _=>h.nil_ hj,fun j k hj hk _ _ hne=>h.nk.sep j k hj hk hne,h.kf.set nofun⟩
theorem NX.close {i:Nat} (h:NX K gh w ty f l i) {g:Bool} {v:Nat} {r:List α} (hg:g=true->r=[]) (hf:∀ x,(f x).all (isF 9)=true):NN (bE g v w ty (r.map f)::K) ((up 1 gh).put i (g,0,v)) w ty f (l.set i r):=by
 refine ⟨⟨fun j hj=>⟨Nat.zero_le _,?_⟩,fun j hj hn=>?_,fun j k hj hk hne he=>?_⟩,h.kf.cons (zB hf)⟩
 ·have hj':j<l.length:=by simpa using hj
  by_cases e:j=i
  ·subst e;rw [jQ];simp [hj']
  ·rw [fe _ e];have : (l.set i r).getD j []=l.getD j []:=by simp [List.getElem?_set_ne (Ne.symm e)]
   rw [this];exact h.at_ j hj' e
 ·have hj':j<l.length:=by simpa using hj
  by_cases e:j=i
  ·subst e;rw [jQ] at hn;simp [hj',hg hn]
  ·rw [fe _ e] at hn;have : (l.set i r).getD j []=l.getD j []:=by simp [List.getElem?_set_ne (Ne.symm e)]
   rw [this];exact h.nil_ j hj' e hn
 ·have hj':j<l.length:=by simpa using hj
  have hk':k<l.length:=by simpa using hk
  by_cases e:j=i
  ·by_cases e2:k=i
   ·exact hne (e.trans e2.symm)
   ·subst e;rw [jQ,fe _ e2] at he;simp [up] at he
  ·by_cases e2:k=i
   ·subst e2;rw [jQ,fe _ e] at he;simp [up] at he
   ·rw [fe _ e,fe _ e2] at he;exact h.sep j k hj' hk' e e2 hne (by simpa [up] using he)
def nxs (m:Nat) (gh:NG) (w:Nat) (l:List (List α)) (i:Nat) (g:Bool) (q v n:Nat):List (List AV):=(nrs m gh w l).set i [hS g q v w n]
theorem wZ {m:Nat} {i:Nat} {g:Bool} {v:Nat} {r:List α} (hi:i<l.length):nxs m (up 1 gh) w l i g (0+m) v r.length=nrs m ((up 1 gh).put i (g,0,v)) w (l.set i r):=FR hi
theorem pQ {m i q v n:Nat} {g:Bool} (hi:i<l.length):(nxs m gh w l i g q v n)[i]? = some [hS g q v w n]:=by
 unfold nxs;rw [List.getElem?_set_self (by rw [mI];exact hi)]
theorem BX {m i q v n q' v' n':Nat} {g g':Bool}:(nxs m gh w l i g q v n).set i [hS g' q' v' w n']=nxs m gh w l i g' q' v' n':=by
 unfold nxs;rw [List.set_set]
theorem vE {m i q v n:Nat} {g:Bool}:(nxs m gh w l i g q v n).length=l.length:=by
 unfold nxs;rw [List.length_set,mI]
theorem NX.renK {ver m N i q v n:Nat} {g:Bool} {to:TypeId} (h:NX K gh w ty f l i) (hN:K.length=N) (hq:q<m):RenK (Rot m N) ⟨ver,1,to,nxs m gh w l i g q v n⟩ ⟨ver,1,to,nxs (m+1) gh w l i g q v n⟩:=by
 refine ⟨rfl,rfl,rfl,by rw [vE,vE],fun j r r' hr hr' => ?_⟩;have hj:j<l.length:=by
  have := (ges hr).1
  rwa [vE] at this
 by_cases e:j=i
 ·subst e;rw [pQ hj] at hr hr';obtain rfl:=osl hr;obtain rfl:=osl hr';refine ⟨rfl,fun p a a' ha ha' => ?_⟩
  match p with
  | 0=>
   obtain rfl:=osl ha;obtain rfl:=osl ha';exact cF (.inl ⟨hq,rfl⟩)
  | p+1=>simp at ha
 ·unfold nxs at hr hr';rw [List.getElem?_set_ne (Ne.symm e),rY hj] at hr hr';obtain rfl:=osl hr;obtain rfl:=osl hr';refine ⟨rfl,fun p a a' ha ha' => ?_⟩
  match p with
  | 0=>
   obtain rfl:=osl ha;obtain rfl:=osl ha';exact cF (.up (by rw [<- hN];exact (ges (h.at_ j hj e)).1))
  | p+1=>simp at ha
def Opn (m k:Nat) (i j:Nat):Prop:=(i<m/\j=i)\/(i=k+m/\j=m)\/(m<=i/\i≠k+m/\j=i+1)
theorem Opn.low {m k i:Nat} (h:Nat.blt i m=true):Opn m k i i := .inl ⟨nlb h,rfl⟩
theorem Reid.open {b0 m:Nat} {S S' K:AH} {k:Nat} {x:Option ABlk} (hm:S.length=m) (hk:K[k]? = some x) (hb:Nat.ble b0 m=true) (hS:RenHL (Opn m k) S S') (hK:KF K):Reid b0 (Opn m k) (S++K) (S'++x::K.set k none):=by
 have hb:=nlb hb;obtain ⟨h1,h2,h3⟩:=hS.spec;have hm':S'.length=m:=h1.symm.trans hm;have hkl:=(ges hk).1;have a1:∀ i,i<m->(S++K)[i]? = S[i]? := fun i hi=>gal (by omega);have a2:∀ q,(S++K)[q+m]? = K[q]? := fun q=>by
  rw [gar (by omega)]
  congr 1
  omega
 have c1:∀ i,i<m->(S'++x::K.set k none)[i]? = S'[i]? := fun i hi=>gal (by omega);have c2:(S'++x::K.set k none)[m]? = some x:=by
  rw [gar (by omega)];have : m-S'.length=0:=by omega
  rw [this]
  rfl
 have c3:∀ q,(S'++x::K.set k none)[q+m+1]? = (K.set k none)[q]? := fun q=>by
  rw [gar (by omega)];have : q+m+1-S'.length=q+1:=by omega
  rw [this]
  rfl
 refine ⟨fun i j j' e1 e2=>?_,fun i i' j e1 e2=>?_,fun i hi => .inl ⟨by omega,rfl⟩,by simp;omega,fun j k0 hk0=>?_,fun i j k1 hS1 hk1=>?_⟩
 ·rcases e1 with ⟨_,rfl⟩ | ⟨_,rfl⟩ | ⟨_,_,rfl⟩ <;> rcases e2 with ⟨_,rfl⟩ | ⟨_,rfl⟩ | ⟨_,_,rfl⟩ <;> omega
 ·rcases e1 with ⟨_,e1⟩ | ⟨_,e1⟩ | ⟨_,_,e1⟩ <;> rcases e2 with ⟨_,e2⟩ | ⟨_,e2⟩ | ⟨_,_,e2⟩ <;> omega
 ·rcases Nat.lt_trichotomy j m with hj | hj | hj
  ·rw [c1 j hj] at hk0;obtain ⟨k1,g1,g2⟩:=h3 j k0 hk0;exact ⟨j,k1,.inl ⟨hj,rfl⟩,by rw [a1 j hj];exact g1,g2⟩
  ·subst hj;rw [c2] at hk0;obtain rfl:=osl hk0;exact ⟨k+j,k0,.inr (.inl ⟨rfl,rfl⟩),by rw [a2];exact hk,.ofF (hK k k0 hk)⟩
  ·obtain ⟨q,rfl⟩:∃ q,j=q+m+1:=⟨j-m-1,by omega⟩;rw [c3 q] at hk0;have hq:q≠k:=fun e=>by
    subst e;rw [List.getElem?_set_self hkl] at hk0
    cases hk0
   rw [List.getElem?_set_ne (Ne.symm hq)] at hk0;exact ⟨q+m,k0,.inr (.inr ⟨by omega,by omega,by omega⟩),by rw [a2];exact hk0,.ofF (hK q k0 hk0)⟩
 ·rcases hS1 with ⟨e1,rfl⟩ | ⟨rfl,rfl⟩ | ⟨e1,e2,rfl⟩
  ·rw [a1 _ e1] at hk1;obtain ⟨k',g1,_⟩:=h2 _ k1 hk1;exact ⟨k',by rw [c1 _ e1];exact g1⟩
  ·rw [a2,hk] at hk1;obtain rfl:=osl hk1;exact ⟨k1,c2⟩
  ·obtain ⟨q,rfl⟩:∃ q,i=q+m:=⟨i-m,by omega⟩;rw [a2] at hk1;exact ⟨k1,by rw [c3 q,List.getElem?_set_ne (by omega)];exact hk1⟩
theorem NN.renOpn {ver m i:Nat} {to:TypeId} (h:NN K gh w ty f l) (hi:i<l.length):RenK (Opn m (gh i).2.1) ⟨ver,1,to,nrs m gh w l⟩ ⟨ver,1,to,nxs (m+1) gh w l i (gh i).1 m (gh i).2.2 (l.getD i []).length⟩:=by
 refine ⟨rfl,rfl,rfl,by rw [mI,vE],fun j r r' hr hr' => ?_⟩;have hj:j<l.length:=by
  have := (ges hr).1
  rwa [mI] at this
 by_cases e:j=i
 ·subst e;rw [rY hj] at hr;rw [pQ hj] at hr';obtain rfl:=osl hr;obtain rfl:=osl hr';refine ⟨rfl,fun p a a' ha ha' => ?_⟩
  match p with
  | 0=>
   obtain rfl:=osl ha;obtain rfl:=osl ha';exact cF (.inr (.inl ⟨rfl,rfl⟩))
  | p+1=>simp at ha
 ·unfold nxs at hr';rw [List.getElem?_set_ne (Ne.symm e),rY hj] at hr';rw [rY hj] at hr;obtain rfl:=osl hr;obtain rfl:=osl hr';refine ⟨rfl,fun p a a' ha ha' => ?_⟩
  match p with
  | 0=>
   obtain rfl:=osl ha;obtain rfl:=osl ha';exact cF (.inr (.inr ⟨by omega,fun e2=>h.nk.sep j i hj hi e (by omega),by omega⟩))
  | p+1=>simp at ha
end
section
variable {P:Program} {H:AH} {s:Nat}
def Ed (P:Program) (H:AH) (s:Nat) (a:AV) (news:List (List AV)):Prop:=∀ (c:Cx) (u:Value),c.H=H->HRel c->c.rel a u ->
 (∀ w,(Builtin.lenOf u).run P w = .ok news.length w)/\(∀ (i:Nat) (row:List AV),news[i]? = some row->row.length=s) /\
 ∀ n,n<=news.length->∃ vs:List Value,(∀ w,w.heap=c.w.heap->(Builtin.firstCells s n u).run P w = .ok vs.toArray w)/\uy c s (news.take n) vs
theorem Ed.of {a:AV} {news:List (List AV)} (len:Nat) (hl:news.length=len) (h:∀ (c:Cx) (u:Value),c.H=H->HRel c->c.rel a u->∃ A cap,u = .slice A len cap/\∀ n,n<=len->∃ vs,SrcIs P c s (.slice A n cap) (news.take n) vs):Ed P H s a news:=fun c u hH hr hu=>by
 obtain ⟨A,cap,rfl,h1⟩:=h c u hH hr hu;refine ⟨fun w=>by rw [hl];simp [Builtin.lenOf],fun i row hi=>?_,fun n hn=>?_⟩
 ·obtain ⟨vs,h2⟩:=h1 len (Nat.le_refl _);refine h2.rows i row ?_;rw [List.take_of_length_le (by omega)];exact hi
 ·obtain ⟨vs,h2⟩:=h1 n (by omega);refine ⟨vs,fun w hw=>?_,h2.is⟩;have h3:=h2.cells w hw;rw [List.length_take,Nat.min_eq_left hn] at h3;rw [<- h3]
  cases A <;> rfl
theorem Ed.own {b ver off len:Nat} {k:ABlk} (hk:H[b]? = some (some k)) (hv:k.ver=ver) (hs:k.s=s) (hn:off+len<=k.rows.length):Ed P H s (.hs b ver s off len) ((k.rows.drop off).take len):=
 .of len (by simp;omega) fun c u hH hr hu=>by
  cases hu with
  | fr h=>cases h
  | @hs _ _ _ _ _ cap A hb hc hm h0 hx=>
   refine ⟨A,cap,rfl,fun n hn' => ?_⟩;rw [List.take_take,Nat.min_eq_left hn'];exact aI.own hk hv hs (by omega) rfl c _ hH hr (.hs hb (by omega) hm h0 fun x hx'=>⟨(hx x hx').1,by have := (hx x hx').2.1;omega,(hx x hx').2.2.1,(hx x hx').2.2.2⟩)
theorem Ed.fz {α:Type} [Inhabited α] {f:α->List AV} {l:List α} (hf:∀ x,(f x).length=s):Ed P H s (eL f l) (l.map f):=
 .of l.length (by simp) fun c u hH hr hu=>by
  have h:=mY hu
  cases h with
  | @sl _ cap sz g o _ a us hc hm ha hs hu2 h1 h=>
   refine ⟨a,cap,rfl,fun n hn=>?_⟩;have e:(l.map f).take n=(List.range n).map fun i=>f (l.getD i default):=by
    rw [<- List.map_take,<- m6 f (l.take n),List.length_take,Nat.min_eq_left hn];apply List.map_congr_left;intro i hi;have hi':i<n:=by simpa using hi
    simp [List.getElem?_take,hi']
   rw [e];refine aI.sl (H:=c.H) (n:=n) (row:=fun i=>f (l.getD i default)) (fun i _=>hf _) c _ rfl hr (.fr (.sl (s:=sz) (g:=g) (o:=o) us (by omega) hm (fun h0=>ha (by omega)) (fun i hi=>hs i (by omega)) (fun i j a hi=>hu2 i j a (by omega)) (fun i j a hi=>h1 i j a (by omega)) (fun i j a hi=>h i j a (by omega))))
variable {o:Oper} {ρ:Operand->AV}
variable {α:Type} {c:α->List AV} {l k:List α} {x y:Operand} {t u e:TypeId} {ag:Bool} {w m b ver off len:Nat} {zs:List AV}
def cpy (l:List α) (off:Nat) (k:List α) (len:Nat):List α:=if off+len<=l.length then l.take off++k.take (min k.length len)++l.drop (off+min k.length len) else l
theorem uE (l:List α) (off:Nat) (k:List α) (len:Nat):(cpy l off k len).length=l.length:=by
 unfold cpy
 split
 ·simp only [lla,List.length_take,List.length_drop];omega
 ·rfl
theorem E8 {lo hi:Int} {n:Nat} (h:0<=lo/\lo<=hi/\hi<=(n:Int)) (hn:n=l.length):(0+lo.toNat)+(hi.toNat-lo.toNat)<=l.length:=by omega
theorem Ed.ow {b ver:Nat} {ty:TypeId} (lo n:Nat) (hx:ρ y = .hs b ver w lo n) (hk:H[b]? = some (bE false ver w ty (l.map c))) (h:lo+n<=l.length):Ed P H w (ρ y) (((l.drop lo).take n).map c):=by
 rw [hx];have := Ed.own (P:=P) (k:=⟨ver,w,ty,l.map c⟩) hk rfl rfl (off:=lo) (len:=n) (by simpa using h);simpa [List.map_take,List.map_drop] using this
end
section
variable {P:Program} {K V:Type} [DecidableEq K] {kn vn:Nat} {kc:K->List Value} {cv:V->List AV} {keyT t e:TypeId} {l:List (K×V)} {ρ:Operand->AV} {H:AH} {x y z:Operand} {b:Nat}
theorem EvA.look (q:KeyA P keyT kn kc) (hv:∀ v,(cv v).length=vn) (d:V) {zv:Value} {ok:Bool} (ht:P.underlying t=some (.map keyT e)) (hz:∀ w,(zeroValue e).run P w = .ok zv w) (hzr:∀ c:Cx,c.rel (mkA (cv d)) zv) (k:K)
 (hx:ρ x = .mp b (kn+vn)) (hy:ρ y=mkA ((kc k).map AV.v)) (hb:H[b]? = some (some (mB kn vn kc cv l))) :
 EvA P ρ (.lookup t x y ok) H (bif ok then .tup [mkA (cv ((zw l k).getD d)),.v (.bool (zw l k).isSome)] else mkA (cv ((zw l k).getD d))) H:=fun _ ho=>Ap q hv d ho ht hz hzr k hx hy hb
theorem EvA.mset (q:KeyA P keyT kn kc) (hv:∀ v,(cv v).length=vn) (ht:P.underlying t=some (.map keyT e)) (hs:0<kn+vn) (k:K) (v:V)
 (hx:ρ x = .mp b (kn+vn)) (hy:ρ y=mkA ((kc k).map AV.v)) (hz:(ρ z).cells=some (cv v)) (hzm:mkA (cv v)=ρ z) (hb:H[b]? = some (some (mB kn vn kc cv l))) :
 EvA P ρ (.mapUpdate t x y z) H .top (H.set b (some (mB kn vn kc cv (BC l k v)))):=fun _ ho=>vA q hv (.inl ho) ht hs k v hx hy hz hzm hb
end
section
variable {K V:Type} {kn vn:Nat} {kc:K->List Value} {cv:V->List AV} {l:List (K×V)} {H:AH}
theorem StayB.mp {m:Nat} (hv:∀ v,(cv v).all (isF 9)=true):StayB m H (some (mB kn vn kc cv l)) (some (mB kn vn kc cv l)) := .keep fun r hr a ha=>by
 obtain ⟨p,_,rfl⟩:=List.mem_map.1 hr;rcases List.mem_append.1 ha with ha | ha
 ·obtain ⟨x,_,rfl⟩:=List.mem_map.1 ha
  rfl
 ·exact pJ 9 m a (List.all_eq_true.1 (hv p.2) a ha)
end
section
variable {P:Program} {K V:Type} {kn vn:Nat} {kc:K->List Value} {cv:V->List AV} {keyT t e:TypeId} {l:List (K×V)} {ρ:Operand->AV} {H:AH} {x:Operand} {b:Nat}
end
section
variable {P:Program} {kn:Nat} {t:TypeId} {ρ:Operand->AV} {H:AH}
end
def kI3 (k:Int×Int×Int):List Value:=[.int .i64 k.1,.int .i64 k.2.1,.int .i64 k.2.2]
section
variable {P:Program} {keyT e:TypeId} {i:TypeInfo}
theorem FU (ht:P.underlying keyT=some (.array 3 e)) (he:P.underlying e=some (.int .i64)) (hp:P.plainKey e=true) (hi:P.info? e=some i) (hc:P.cellsOf e=1) (d:Nat) (a b:Int×Int×Int) (w:World) :
  (Op.equalIn (d+1+1) keyT (.agg #[.int .i64 a.1,.int .i64 a.2.1,.int .i64 a.2.2]) (.agg #[.int .i64 b.1,.int .i64 b.2.1,.int .i64 b.2.2])).run P w = .ok (decide (b=a)) w:=by
 have q1:∀ m n:Int,(Op.equalIn (d+1) e (.int .i64 m) (.int .i64 n)).run P w = .ok (m==n) w:=fun m n=>by simp [Op.equalIn,run_underlying he]
 have p1:∀ (xs:Array Value) (o:Nat) (v:Value),xs[o]? = some v->(part e xs o).run P w = .ok v w:=fun xs o v hx=>run_part_plain w hp hx;rw [run_equalIn_array w (d+1) _ _ ht hi,hc];obtain ⟨a1,a2,a3⟩:=a;obtain ⟨b1,b2,b3⟩:=b;have r0:=p1 #[.int .i64 a1,.int .i64 a2,.int .i64 a3] 0 _ rfl;have r1:=p1 #[.int .i64 a1,.int .i64 a2,.int .i64 a3] 1 _ rfl;have r2:=p1 #[.int .i64 a1,.int .i64 a2,.int .i64 a3] 2 _ rfl;have t0:=p1 #[.int .i64 b1,.int .i64 b2,.int .i64 b3] 0 _ rfl;have t1:=p1 #[.int .i64 b1,.int .i64 b2,.int .i64 b3] 1 _ rfl;have t2:=p1 #[.int .i64 b1,.int .i64 b2,.int .i64 b3] 2 _ rfl
 by_cases e1:a1=b1
 ·by_cases e2:a2=b2
  ·by_cases e3:a3=b3
   ·subst e1 e2 e3;simp [List.range_succ,Op.eqItems,Sem.run_bind,r0,r1,r2,q1]
   ·subst e1 e2;simp [List.range_succ,Op.eqItems,Sem.run_bind,r0,r1,r2,t0,t1,t2,q1,e3,Ne.symm e3]
  ·subst e1;simp [List.range_succ,Op.eqItems,Sem.run_bind,r0,r1,t0,t1,q1,e2,Ne.symm e2]
 ·simp [List.range_succ,Op.eqItems,Sem.run_bind,r0,t0,q1,e1,Ne.symm e1]
theorem Ee (ht:P.underlying keyT=some (.array 3 e)) (he:P.underlying e=some (.int .i64)) (hp:P.plainKey e=true) (hi:P.info? e=some i) (hc:P.cellsOf e=1) (a b:Int×Int×Int) (w:World) :
 (Op.equal keyT (mkv (kI3 a)) (mkv (kI3 b))).run P w = .ok (decide (b=a)) w:=FU ht he hp hi hc 9998 a b w
theorem FV (ht:P.underlying keyT=some (.array 3 e)) (he:P.underlying e=some (.int .i64)) (hp:P.plainKey e=true) (hi:P.info? e=some i) (hc:P.cellsOf e=1) (d:Nat) (em:Bool) (x y z:Int) (w:World) :
  (Instr.checkKey em (d+1+1) keyT (.agg #[.int .i64 x,.int .i64 y,.int .i64 z])).run P w = .ok () w:=by
 have c1:∀ n:Int,(Instr.checkKey em (d+1) e (.int .i64 n)).run P w = .ok () w:=fun n=>by simp [Instr.checkKey,run_underlying he]
 have r0:(part e #[.int .i64 x,.int .i64 y,.int .i64 z] 0).run P w = .ok (.int .i64 x) w:=run_part_plain w hp rfl;have r1:(part e #[.int .i64 x,.int .i64 y,.int .i64 z] 1).run P w = .ok (.int .i64 y) w:=run_part_plain w hp rfl;have r2:(part e #[.int .i64 x,.int .i64 y,.int .i64 z] 2).run P w = .ok (.int .i64 z) w:=run_part_plain w hp rfl;rw [Instr.checkKey];simp only [Sem.run_bind,run_underlying ht,Result.andThen_ok];simp [Std.Legacy.Range.forIn_eq_forIn_range',Std.Legacy.Range.size,List.range'_succ,Sem.run_bind,run_sizeOf w hi,hc,r0,r1,r2,c1]
theorem G8 (d:Nat) (x y z:Int):Instr.sameBits (d+1) (.agg #[.int .i64 x,.int .i64 y,.int .i64 z]) (.agg #[.int .i64 x,.int .i64 y,.int .i64 z])=true:=by
 simp [Instr.sameBits]
theorem ol (ht:P.underlying keyT=some (.array 3 e)) (he:P.underlying e=some (.int .i64)) (hp:P.plainKey e=true) (hi:P.info? e=some i) (hc:P.cellsOf e=1) (k:Int×Int×Int) (w:World):∀ (es:List MapEntry) (ks:List (Int×Int×Int)) (q:Nat),es.map (·.key)=ks.map (fun k=>mkv (kI3 k)) ->
  (Instr.findAsking keyT (mkv (kI3 k)) es q).run P w = .ok ((ks.findIdx? (fun x=>decide (x=k))).bind fun j=>es[j]?.map fun e=>(q+j,e.val)) w
 | [],[],_,_=>rfl
 | [],_::_,_,h=>by simp at h
 | _::_,[],_,h=>by simp at h
 | en::es,s::ks,q,h=>by
  simp only [List.map_cons,List.cons.injEq] at h;obtain ⟨h1,h2⟩:=h;have ih:=ol ht he hp hi hc k w es ks (q+1) h2;unfold Instr.findAsking;simp only [Sem.run_bind,h1,Ee ht he hp hi hc,Result.andThen_ok]
  by_cases hs:s=k
  ·subst hs;simp [List.findIdx?_cons]
  ·rw [decide_eq_false hs];simp only [Bool.false_eq_true,if_false,ih,List.findIdx?_cons,decide_eq_false hs]
   cases ks.findIdx? fun x=>decide (x=k) with
   | none=>rfl
   | some j=>
    simp only [Option.map_some,Option.bind_some,List.getElem?_cons_succ];rw [show q+1+j=q+(j+1) by omega]
theorem Iu (ht:P.underlying keyT=some (.array 3 e)) (he:P.underlying e=some (.int .i64)) (hp:P.plainKey e=true) (hi:P.info? e=some i) (hc:P.cellsOf e=1):KeyA P keyT 3 kI3 where
 len:=fun _=>rfl
 plain:=fun k x hx=>by
  simp only [kI3,List.mem_cons,List.not_mem_nil,or_false] at hx;rcases hx with rfl | rfl | rfl <;> rfl
 check:=fun w em k=>FV ht he hp hi hc 9998 em k.1 k.2.1 k.2.2 w
 find:=fun w k es ks h=>by
  rw [run_findKey_eq w (by rw [ht]) _ es,ol ht he hp hi hc k w es ks 0 h];simp only [Nat.zero_add]
 stays:=fun w k=>by
  have : Instr.sameBits 10000 (mkv (kI3 k)) (mkv (kI3 k))=true:=G8 9999 k.1 k.2.1 k.2.2;unfold Instr.keyThatStays;rw [if_pos this]
  rfl
end
theorem Cx.trim {c:Cx} {b ver s off n:Nat} {ty:TypeId} {rows:List (List AV)} (hr:HRel c) (hb:c.H[b]? = some (some ⟨ver,s,ty,rows⟩)) (hle:off+n<=rows.length) {v:Value} (hv:c.rel (.hs b ver s off n) v) :
  ∃ c':Cx,c'.w=c.w/\c'.H=c.H.set b (some ⟨ver+1,s,ty,(rows.drop off).take n⟩)/\HRel c'/\Ext c c'/\c'.rel (.hs b (ver+1) s 0 n) v:=by
 have hlv:c.live b ⟨ver,s,ty,rows⟩:=hb;have hblt:b<c.H.length:=(ges hb).1;obtain ⟨cs,fr,hB⟩:=hr.blk b _ hlv
 cases hv with
 | fr h=>cases h
 | @hs _ _ _ _ _ cap A hbn hc hm h0 hh=>
  obtain ⟨fr,rfl,hat,hd⟩:=hB.cells hlv (fun x hx=>(hh x hx).1);obtain ⟨_,hn,hA,hcap⟩:=hh _ hd;let c':Cx:={ w:=c.w,fz:=c.fz,H:=c.H.set b (some ⟨ver+1,s,ty,(rows.drop off).take n⟩),φ:=fun j=>if j=b then ((c.φ b).1,(c.φ b).2+off*s) else c.φ j };have φb:c'.φ b=((c.φ b).1,(c.φ b).2+off*s):=if_pos rfl;have φo:∀ {j},j≠b->c'.φ j=c.φ j:=fun {j} hj=>if_neg hj;have φ1:∀ j,(c'.φ j).1=(c.φ j).1:=fun j=>by
   by_cases hj:j=b
   ·subst hj;rw [φb]
   ·rw [φo hj]
  have Hb:c'.H[b]? = some (some ⟨ver+1,s,ty,(rows.drop off).take n⟩):=by
   show (c.H.set b _)[b]? = _;rw [List.getElem?_set_self hblt]
  have Ho:∀ {j},j≠b->c'.H[j]? = c.H[j]? := fun {j} hj=>by
   show (c.H.set b _)[j]? = _;rw [List.getElem?_set_ne (Ne.symm hj)]
  have lv:∀ {j k},c'.live j k->(j=b/\k=⟨ver+1,s,ty,(rows.drop off).take n⟩)\/(j≠b/\c.live j k):=fun {j k} hl=>by
   by_cases hj:j=b
   ·subst hj;have hl':c'.H[j]? = some (some k):=hl;rw [Hb] at hl';injection hl' with hl';injection hl' with hl';exact .inl ⟨rfl,hl'.symm⟩
   ·have hl':c'.H[j]? = some (some k):=hl;rw [Ho hj] at hl';exact .inr ⟨hj,hl'⟩
  have hx:Ext c c':=by
   refine ⟨rfl,rfl,rfl,Nat.le_refl _,fun _ _ _=>rfl,fun _ h=>h,fun _ h => .inl h,by show c.H.length<=(c.H.set b _).length;rw [List.length_set];exact Nat.le_refl _,fun j q hj=>?_,fun j q x hj hx=>?_,fun j k hl => .inr ?_⟩
   ·by_cases e:j=b
    ·subst e;unfold Cx.born at hj ⊢;rw [hb] at hj;rw [Hb];simp only at hj ⊢;omega
    ·unfold Cx.born at hj ⊢;rw [Ho e];exact hj
   ·by_cases e:j=b
    ·subst e;unfold Cx.born at hj;rw [hb] at hj;unfold Cx.hd at hx;rw [Hb] at hx;simp only at hj hx;rw [if_neg (by omega)] at hx
     cases hx
    ·unfold Cx.hd at hx ⊢;rw [Ho e,φo e] at hx;exact hx
   ·rcases lv hl with ⟨rfl,_⟩ | ⟨_,h⟩
    ·exact ⟨j,_,hlv,(φ1 j).symm⟩
    ·exact ⟨j,k,h,(φ1 j).symm⟩
  have hlen:((rows.drop off).take n).length=n:=by rw [List.length_take,List.length_drop];omega
  have hfit:=hB.fits;simp only at hfit;refine ⟨c',rfl,rfl,⟨hr.lt,fun j k hl=>?_,fun j j' k k' hl hl' hne=>?_⟩,hx,?_⟩
  ·rcases lv hl with ⟨rfl,rfl⟩ | ⟨hj,h⟩
   ·refine ⟨cs,some fr,⟨?_,?_,hB.pos,hB.free,?_,fun i r hi=>?_,fun i r q a hi ha=>?_⟩⟩
    ·show c.w.heap[(c'.φ j).1]? = _;rw [φ1,hat]
     rfl
    ·rw [φ1];exact hB.nf
    ·rw [φb];show (c.φ j).2+off*s+((rows.drop off).take n).length*s<=cs.size;rw [hlen];have : off*s+n*s<=rows.length*s:=by rw [<- Nat.add_mul];exact Nat.mul_le_mul_right s hle
     omega
    ·have hi':((rows.drop off).take n)[i]? = some r:=hi;rw [List.getElem?_take] at hi'
     split at hi'
     ·rw [List.getElem?_drop] at hi';exact hB.len _ r hi'
     ·cases hi'
    ·have hi':((rows.drop off).take n)[i]? = some r:=hi;rw [List.getElem?_take] at hi'
     split at hi'
     ·rw [List.getElem?_drop] at hi';obtain ⟨u,g1,g2,g3⟩:=hB.rel _ r q a hi' ha;refine ⟨u,?_,g2,g3.ext hr hx⟩;rw [φb];show cs[(c.φ j).2+off*s+i*s+q]? = some u;rw [<- g1]
      congr 1
      show (c.φ j).2+off*s+i*s+q=(c.φ j).2+(off+i)*s+q;rw [Nat.add_mul];omega
     ·cases hi'
   ·obtain ⟨cs',fr',hB'⟩:=hr.blk j k h;exact ⟨cs',fr',⟨by rw [φo hj];exact hB'.at_,by rw [φo hj];exact hB'.nf,hB'.pos,hB'.free,by rw [φo hj];exact hB'.fits,hB'.len,fun i r q a hi ha=>by
     obtain ⟨u,g1,g2,g3⟩:=hB'.rel i r q a hi ha;exact ⟨u,by rw [φo hj];exact g1,g2,g3.ext hr hx⟩⟩⟩
  ·have old:∀ {j k},c'.live j k->∃ k0,c.live j k0:=fun {j k} hl=>by
    rcases lv hl with ⟨rfl,_⟩ | ⟨_,h⟩
    ·exact ⟨_,hlv⟩
    ·exact ⟨_,h⟩
   obtain ⟨_,h1⟩:=old hl;obtain ⟨_,h2⟩:=old hl';rw [φ1,φ1];exact hr.inj j j' _ _ h1 h2 hne
  ·refine .hs ?_ hc hm h0 fun x hx=>?_
   ·unfold Cx.born;rw [Hb];exact Nat.le_refl _
   ·have hat':c'.w.heap[(c'.φ b).1]? = some (.cells cs ty fr):=by rw [φ1];exact hat
    have := Cx.hd_of (c:=c') (b:=b) (k:=⟨ver+1,s,ty,(rows.drop off).take n⟩) Hb hat';have he:=hx.symm.trans this;simp only [hdo,sie] at he;subst he;rw [φb];refine ⟨rfl,by show 0+n<=((rows.drop off).take n).length;rw [hlen];omega,fun hp=>?_,?_⟩
    ·show A=some ⟨(c.φ b).1,(c.φ b).2+off*s+0*s,none⟩;rw [Nat.zero_mul];exact hA hp
    ·show (c.φ b).2+off*s+0*s+cap*s<=cs.size;rw [Nat.zero_mul];exact hcap
section
variable {P:Program} {ρ:Operand->AV} {H:AH}
theorem EvA.trim {op:Op} {b ver s off n:Nat} {ty:TypeId} {rows:List (List AV)} (h:Je P ρ op (.hs b ver s off n)) (hb:H[b]? = some (some ⟨ver,s,ty,rows⟩)) (hle:off+n<=rows.length) :
  EvA P ρ op H (.hs b (ver+1) s 0 n) (H.set b (some ⟨ver+1,s,ty,(rows.drop off).take n⟩)):=fun o ho c a K Q hH hr hxs hK=>
 h o ho H c a K Q hH hr hxs fun v c1 hH1 hr1 hx1 hv1=>by
  obtain ⟨c2,e1,e2,e3,e4,e5⟩:=Cx.trim hr1 (by rw [hH1];exact hb) hle hv1;rw [<- e1];exact hK v c2 (by rw [e2,hH1]) e3 (hx1.trans e4) e5
theorem EvA.cutO {α:Type} {f:α->List AV} {op:Op} {b ver w n:Nat} {ty:TypeId} (l:List α) {zl zh:Int} (h:Je P ρ op (.hs b ver w (0+zl.toNat) (zh.toNat-zl.toNat))) (hb:H[b]? = some (bE false ver w ty (l.map f))) (hn:n=l.length)
  (g:0<=zl/\zl<=zh/\zh<=(n:Int)) :
  EvA P ρ op H (hS false b (ver+1) w ((l.drop zl.toNat).take (zh.toNat-zl.toNat)).length) (H.set b (bE false (ver+1) w ty (((l.drop zl.toNat).take (zh.toNat-zl.toNat)).map f))):=by
 obtain ⟨g1,g2,g3⟩:=g;have hl:((l.drop zl.toNat).take (zh.toNat-zl.toNat)).length=zh.toNat-zl.toNat:=by rw [List.length_take,List.length_drop];omega
 have := EvA.trim h (rows:=l.map f) hb (by rw [llm];omega);rw [hl,List.map_take,List.map_drop];rw [Nat.zero_add] at this;exact this
inductive FzP (H:AH):AV->AV->Prop
 | fz {a a':AV} (h:Fz 0 H a a'):FzP H a a'
 | hp {b ver s j:Nat} {ty:TypeId} {r x row':List AV} (hk:H[b]? = some (some ⟨ver,s,ty,[r++x]⟩)) (h:FzL 0 H r row'):FzP H (.hp b ver s 0 j) (.fp row' j)
theorem FzP.sound {c:Cx} (hr:HRel c) {a r:AV} (h:FzP c.H a r):∀ v,c.rel a v->FRel c.w (c.all 0) r v:=by
 cases h with
 | fz h=>exact Fz.sound hr h
 | @hp b ver s j ty r x row' hk h=>
  intro u hu;have hlv:c.live b ⟨ver,s,ty,[r++x]⟩:=hk;obtain ⟨hl,h⟩:=h.spec;obtain ⟨cs,fr,hB⟩:=hr.blk b _ hlv
  cases hu with
  | fr h=>cases h
  | hp hb hh=>
   obtain ⟨fr,rfl,hat,hd⟩:=hB.cells hlv (fun x hx=>(hh x hx).1);obtain ⟨hs',rfl⟩:=hh _ hd;refine .fp (g:=(c.φ b).1) (o:=(c.φ b).2+0*s) (fun j=>(cs[(c.φ b).2+0*s+j]?).getD undef) (.inr ⟨b,_,Nat.zero_le _,hlv,rfl⟩) (hr.live_lt hlv) (fun q d hq=>?_) (fun q d hq=>?_) (fun q d hq=>?_)
   all_goals
    obtain ⟨y,hy⟩:=aM hl.symm hq;have hlt:=(ges hy).1;obtain ⟨u,g1,g2,g3⟩:=hB.rel 0 (r++x) q y rfl (by rw [gal hlt];exact hy);replace g1:cs[(c.φ b).2+0*s+q]? = some u:=g1
   ·rw [cell_of_row c.w _ _ cs ty fr hat,g1]
    rfl
   ·rw [g1];exact g2
   ·rw [g1];exact Fz.sound hr (h q y d hy hq) u g3
inductive FzPL (H:AH):List AV->List AV->Prop
 | nil:FzPL H [] []
 | cons {a b:AV} {l k:List AV} (h:FzP H a b) (t:FzPL H l k):FzPL H (a::l) (b::k)
theorem FzPL.spec {l k:List AV} (h:FzPL H l k):l.length=k.length/\∀ (i:Nat) (c d:AV),l[i]? = some c->k[i]? = some d->FzP H c d:=by
 induction h with
 | nil=>exact ⟨rfl,fun i c d h=>by simp at h⟩
 | cons h t ih=>
  refine ⟨by simp [ih.1],fun i c d h1 h2=>?_⟩
  cases i with
  | zero=>
   simp only [List.getElem?_cons_zero,sie] at h1 h2;subst h1 h2;exact h
  | succ i=>
   simp only [List.getElem?_cons_succ] at h1 h2;exact ih.2 i c d h1 h2
theorem aJ.tmpP {f:FuncId} {r:AV} {Jy as':List AV} (h:aJ P f as' r) (hl0:Jy.length=as'.length) (hz:∀ (i:Nat) (a a':AV),Jy[i]? = some a->as'[i]? = some a'->FzP H a a') (hd:dry 9 r=true):jp P f Jy H r H:=by
 refine ⟨h.1,fun c vs hH hr hall=>?_⟩;obtain ⟨hl,hrel⟩:=hall;refine (h.2 c.w (c.all 0) vs (fun g hg=>Cx.all_lt hr hg) (hl.trans hl0) (fun i a v ha hv=>?_)).mono fun e w' ⟨v,fz',he,hb,hv,h1,h2,h3⟩ => ?_
 ·obtain ⟨q,hq⟩:=aM hl0.symm ha;exact FzP.sound hr (by rw [hH];exact hz i q a hq ha) v (hrel i q v hq hv)
 ·obtain ⟨g1,g2⟩:=lW hr hb (fz':=fun _=>False) (fun g hg=>hg.elim) (fun g hg=>hg.elim) (fun b k hlv hz=>hz.elim);exact ⟨v,{ w:=w',fz:=fun g=>c.fz g\/False,H:=c.H,φ:=c.φ },he,rfl,hH,g1,g2,.fr (qY 9 r v hd hv)⟩
theorem EvA.callTP {cl:Call} {f:Operand} {g:FuncId} {Jy:List AV} {r:AV} (hc:cl.callee = .value f) (hf:ρ f = .fn (.func g) []) (h:aJ P g Jy r) (hz:FzPL H (cl.args.toList.map ρ) Jy) (hd:dry 9 r=true):EvA P ρ (.call cl) H r H:=
 EvA.call hc hf (List.append_nil _) (h.tmpP hz.spec.1 hz.spec.2 hd)
end
def G9 (r:AV) (G:Nat->AH):AV->AH->Prop:=fun r' G'=>∃ ver,r'=r/\G'=G ver
def IR:List Nat->AH->AH->AH
 | [],_,H=>H
 | b::bs,G,H=>match G with
  | []=>H
  | x::xs=>IR bs xs (H.set b x)
def GK (H:AH) (ids:List Nat) (G:AH):AH:=IR ids G H
theorem rZ {H:AH} {b:Nat} {bs:List Nat} {x:Option ABlk} {xs:AH}:GK H (b::bs) (x::xs)=GK (H.set b x) bs xs:=rfl
theorem r9:∀ (ids:List Nat) (H G:AH),(GK H ids G).length=H.length
 | [],_,_=>rfl
 | _::_,_,[]=>rfl
 | b::bs,H,x::xs=>by rw [rZ,r9 bs,List.length_set]
theorem yD {b:Nat}:∀ (ids:List Nat) (H G:AH),b∉ids->(GK H ids G)[b]? = H[b]?
 | [],_,_,_=>rfl
 | _::_,_,[],_=>rfl
 | c::bs,H,x::xs,h=>by
  rw [rZ,yD bs _ _ (fun hm=>h (.tail _ hm)),List.getElem?_set_ne (fun e=>h (by rw [e];exact List.mem_cons_self))]
theorem yE:∀ (ids:List Nat) (H G:AH) (i b:Nat),ids.Nodup->ids[i]? = some b->b<H.length->i<G.length->(GK H ids G)[b]? = G[i]?
 | [],_,_,_,_,_,h,_,_=>by simp at h
 | _::_,_,[],_,_,_,_,_,h=>by simp at h
 | c::bs,H,x::xs,i,b,hn,h,hb,hi=>by
  rw [rZ];obtain ⟨hn1,hn2⟩:=List.nodup_cons.1 hn
  cases i with
  | zero=>
   simp only [List.getElem?_cons_zero,sie] at h;subst h;rw [yD bs _ _ hn1,List.getElem?_set_self hb]
   rfl
  | succ i=>
   simp only [List.getElem?_cons_succ] at h;rw [yE bs _ xs i b hn2 h (by rw [List.length_set];exact hb) (by simpa using hi)]
   rfl
inductive OutAt (S:Nat->Nat->Prop) (H:AH):List Nat->AH->Prop
 | nil:OutAt S H [] []
 | cons {b:Nat} {k k0:ABlk} {bs:List Nat} {G:AH} (hb:H[b]? = some (some k)) (hk:RenK S k k0) (t:OutAt S H bs G):OutAt S H (b::bs) (some k0::G)
theorem OutAt.spec {S:Nat->Nat->Prop} {H:AH} {ids:List Nat} {G:AH} (h:OutAt S H ids G):ids.length=G.length/\∀ (i b:Nat),ids[i]? = some b->∃ k k0:ABlk,H[b]? = some (some k)/\G[i]? = some (some k0)/\RenK S k k0:=by
 induction h with
 | nil=>exact ⟨rfl,fun i b h=>by simp at h⟩
 | @cons b k k0 bs G hb hk t ih=>
  refine ⟨by simp [ih.1],fun i c h=>?_⟩
  cases i with
  | zero=>
   simp only [List.getElem?_cons_zero,sie] at h;subst h;exact ⟨k,k0,hb,rfl,hk⟩
  | succ i=>
   simp only [List.getElem?_cons_succ] at h ⊢;exact ih.2 i c h
section
variable {P:Program}
theorem bg.outAt {f:FuncId} {as0 Jy:List AV} {H0 H:AH} {r0 r:AV} {G0:Nat->AH} (h:bg P f as0 H0 (G9 r0 G0)) (ids:List Nat) (hn:ids.Nodup) (hin:OutAt (fun b i=>ids[i]? = some b) H ids H0) (has:RenL (fun b i=>ids[i]? = some b) Jy as0)
  {G G':Nat->AH} (N:Nat) (hN:H.length=N) (hout:∀ v,RenHL (sg ids N) (G0 v) (G v)) (hlen:∀ v,(G0 v).length=ids.length) (hr:Ren (sg ids N) r0 r) (hG:∀ v,GK H ids (G v)=G' v):bg P f Jy H (G9 r G'):=by
 subst hN;refine h.frame ids hn hin.spec.1 hin.spec.2 has.spec.1 has.spec.2 fun r1 G1 ⟨v,e1,e2⟩=>⟨r,G' v,?_,by rw [e1];exact hr,v,rfl,rfl⟩;subst e2;obtain ⟨l1,l2,l3⟩:=(hout v).spec;have hl:=hlen v;have lt:∀ {i b},ids[i]? = some b->b<H.length:=fun {i b} hi=>by
  obtain ⟨k,_,h1,_⟩:=hin.spec.2 i b hi;exact (ges h1).1
 have sgi:∀ {i b},i<(G0 v).length->sg ids H.length i b->ids[i]? = some b:=fun {i b} hi hs=>by
  rcases hs with hs | ⟨hs,_⟩
  ·exact hs
  ·omega
 refine ⟨by omega,by rw [<- hG,r9];omega,fun i b hi hs hd=>?_,fun i b k0 hs hk=>?_,fun b hb hni=>by rw [<- hG,yD _ _ _ hni]⟩
 ·have hib:=sgi hi hs;rw [<- hG,yE ids H (G v) i b hn hib (lt hib) (by omega)];have hg:i<(G v).length:=by omega
  rw [geq hg]
  cases hc:(G v)[i] with
  | none=>rfl
  | some k'=>
   obtain ⟨k,h1,_⟩:=l3 i k' (by rw [geq hg,hc]);rw [hd] at h1
   cases h1
 ·have hi:=(ges hk).1;have hib:=sgi hi hs;obtain ⟨k',h1,h2⟩:=l2 i k0 hk;refine ⟨k',?_,h2⟩;rw [<- hG,yE ids H (G v) i b hn hib (lt hib) (by omega)];exact h1
end
section
variable {P:Program} {nt b0:Nat} {Q:Exit->Env->AH->Prop} {en:List (Nat×AV)} {H:AH} {ops:Array Oper} {l:List Oper} {d:Tmp} {t:TypeId} {pos:String} {af:Array Edge}
theorem oW {cl:Call} {f:Operand} {g:FuncId} {caps Jy:List AV} {r:AV} {G:Nat->AH} (hc:cl.callee = .value f) (hf:rho (ae en) f = .fn (.func g) caps) (ha:cl.args.toList.map (rho (ae en))++caps=Jy)
  (h:bg P g Jy H (G9 r G)) (k:∀ ver,TO P nt b0 ops l Q (ae ((d,r)::en)) (G ver)):TO P nt b0 ops (⟨some d,.call cl,t,pos,af,none⟩::l) Q (ae en) H:=by
 subst ha;exact TO.runG (.free rfl) (vC rfl hc hf h) fun r' H' ⟨ver,hr,hH⟩=>by
  subst hr hH;exact k ver
end
theorem RenK.mB {K V:Type} {kn vn:Nat} {kc:K->List Value} {cv:V->List AV} {l:List (K×V)} (S:Nat->Nat->Prop) (hv:∀ v,(cv v).all (isF 9)=true):RenK S (mB kn vn kc cv l) (mB kn vn kc cv l) := .ofF fun r hr a ha=>by
 obtain ⟨p,_,rfl⟩:=List.mem_map.1 hr;rcases List.mem_append.1 ha with ha | ha
 ·obtain ⟨x,_,rfl⟩:=List.mem_map.1 ha
  rfl
 ·exact List.all_eq_true.1 (hv p.2) a ha
theorem RenK.bE' {S:Nat->Nat->Prop} {α:Type} {v w:Nat} {ty:TypeId} {f:α->List AV} {x:List α} (hf:∀ x,(f x).all (isF 9)=true):RenK S ⟨v,w,ty,x.map f⟩ ⟨v,w,ty,x.map f⟩ := .ofF fun r hr a ha=>jN hf r hr a ha
section
variable {P:Program} {K:Type} [DecidableEq K] {kn:Nat} {kc:K->List Value} {keyT t e:TypeId} {l:List (K×Bool)} {ρ:Operand->AV} {H:AH} {x y z:Operand} {b:Nat}
theorem Ef {zv:Value} (hz:(P.info? e).bind (·.zero)=some zv) (w:World):(zeroValue e).run P w = .ok zv w:=by
 cases hi:P.info? e with
 | none=>rw [hi] at hz;cases hz
 | some i=>
  rw [hi] at hz;have hz':i.zero=some zv:=hz;simp [zeroValue,typeInfo,hi,hz']
theorem EvA.lookB (q:KeyA P keyT kn kc) (ht:P.underlying t=some (.map keyT e)) (hz:(P.info? e).bind (·.zero)=some (.bool false)) (k:K)
  (hx:ρ x = .mp b (kn+1)) (hy:ρ y=mkA ((kc k).map AV.v)) (hb:H[b]? = some (some (mB kn 1 kc cB l))) :
  EvA P ρ (.lookup t x y false) H (Bo ((zw l k).getD false)) H:=
 EvA.look (vn:=1) (cv:=cB) (ok:=false) q (fun _=>rfl) false ht (Ef hz) (fun _ => .fr (.v rfl)) k hx hy hb
theorem EvA.msetB (q:KeyA P keyT kn kc) (ht:P.underlying t=some (.map keyT e)) (k:K) (v:Bool)
  (hx:ρ x = .mp b (kn+1)) (hy:ρ y=mkA ((kc k).map AV.v)) (hz:ρ z=Bo v) (hb:H[b]? = some (some (mB kn 1 kc cB l))) :
  EvA P ρ (.mapUpdate t x y z) H .top (H.set b (some (mB kn 1 kc cB (BC l k v)))):=
 EvA.mset (vn:=1) (cv:=cB) q (fun _=>rfl) ht (Nat.succ_pos kn) k v hx hy (by rw [hz];rfl) (by rw [hz];rfl) hb
omit [DecidableEq K] in
end
section
variable {P:Program}
theorem bg.mkS {f:FuncId} {fn:Func} {body:Code} {Jy:List AV} {H:AH} {R:AV->AH->Prop} (hf:P.funcs[f]? = some fn) (hb:fn.body=some body) (hcall:eP P f=true) (hn:Nat.ble Jy.length fn.ntmps=true)
 (hok:codeOk fn.ntmps body=true) {e0:Env} (hw:wF (DI Jy) e0) (h:T P fn.ntmps H.length body (SQ H.length (Fin P fn R)) e0 H):bg P f Jy H R:=bg.mkT hf hb hcall hn hok hw h.leaf
end
section
variable {P:Program} {ρ:Operand->AV} {H:AH}
theorem BZ {o:Oper} {t:TypeId} {x:Operand} {cs:List AV} {b:Nat} (ho:o.op = .box t x) (hc:(ρ x).cells=some cs) (h0:0<cs.length) (hb:H[b]? = some none):Jb P o ρ H (.hp b 0 cs.length 0 0) (H.set b (some ⟨0,cs.length,t,[cs]⟩)):=by
 intro c a K Q hH hr hx hK;have hx1:=hx x (by rw [ho];simp [Op.operands]);have hz':=lS hx1 hc;have hsz:=hz'.size;subst hH;have hrel:HRel (c.newAt b ⟨0,cs.length,t,[cs]⟩ (a.eval x).cells):=by
  refine Cx.newAt_rel hr hb h0 (by simp;omega) (fun i row h=>?_) (fun i row j a h1 h2=>?_)
  ·match i,h with
   | 0,h=>simp at h;rw [<- h]
   | i+1,h=>simp at h
  ·match i,h1 with
   | 0,h1=>
    simp only [List.getElem?_cons_zero,sie] at h1;subst h1;simpa using hz'.get h2
   | i+1,h1=>simp at h1
 have hrun:(execOp a.eval o).run P c.w = .ok (.value (.pointer (some ⟨c.w.heap.size,0,none⟩))) (c.newAt b ⟨0,cs.length,t,[cs]⟩ (a.eval x).cells).w:=by
  rw [execOp,ho];refine (?_:Sem.run P _ c.w=_);have : (Instr.box t (a.eval x)).run P c.w = .ok (.pointer (some ⟨c.w.heap.size,0,none⟩)) (c.w.alloc (.cells (a.eval x).cells t)):=by
   simp [Instr.box,newVar,newRow]
  simp only [Sem.run_bind,this,Result.andThen_ok,Sem.run_pure]
  rfl
 unfold Oper.wp;rw [hrun];have hl2:=Cx.newAt_self (c:=c) (k:=⟨0,cs.length,t,[cs]⟩) (cs:=(a.eval x).cells) hb;have hφ2:(c.newAt b ⟨0,cs.length,t,[cs]⟩ (a.eval x).cells).φ b=(c.w.heap.size,0):=if_pos rfl;refine hK _ (c.newAt b ⟨0,cs.length,t,[cs]⟩ (a.eval x).cells) rfl hrel (Cx.newAt_ext hr hb) (.hp ?_ fun q hq=>?_)
 ·unfold Cx.born;rw [show (c.newAt b ⟨0,cs.length,t,[cs]⟩ (a.eval x).cells).H[b]? = some (some _) from hl2];exact Nat.le_refl _
 ·have := Cx.hd_of hl2 (o:=.cells (a.eval x).cells t) (by rw [hφ2];exact heap_alloc_new _ _);rw [hφ2] at this;have he:=hq.symm.trans this;simp only [hdo,sie] at he;subst he;exact ⟨rfl,by simp⟩
theorem EvA.bxA {t:TypeId} {x:Operand} {cs:List AV} (b:Nat) (hx:(ρ x).cells=some cs) (hn:(Nat.blt 0 cs.length)=true) (hb:H[b]? = some none):EvA P ρ (.box t x) H (.hp b 0 cs.length 0 0) (H.set b (some ⟨0,cs.length,t,[cs]⟩)):=
 fun _ ho=>BZ ho hx (nlb hn) hb
end
def Cx.mapAt (c:Cx) (b:Nat) (k:ABlk):Cx:={ w:=c.w.alloc (.map #[] 0),fz:=c.fz,H:=c.H.set b (some k),φ:=fun q=>if q=b then (c.w.heap.size,0) else c.φ q }
section
variable {c:Cx} {b:Nat} {k:ABlk}
theorem Cx.mapAt_live {q:Nat} {k':ABlk} (h:(c.mapAt b k).live q k'):(q=b/\k'=k)\/(q≠b/\c.live q k'):=Cx.newAt_live (cs:=#[]) h
theorem Cx.mapAt_φ {q:Nat} (h:q≠b):(c.mapAt b k).φ q=c.φ q:=if_neg h
theorem Cx.mapAt_ext (hr:HRel c) (hb:c.H[b]? = some none):Ext c (c.mapAt b k) where
 os:=rfl
 tape:=rfl
 output:=rfl
 size:=by simp [Cx.mapAt]
 keep:=fun g hg _=>Below.heap_alloc _ _ _ hg
 fz:=fun _ h=>h
 fzNew:=fun _ h => .inl h
 N:=by simp [Cx.mapAt]
 born:=fun _ _ h=>(Cx.newAt_born (k:=k) (cs:=#[]) hb h).2
 hd:=fun q ver x hq hx=>by
  obtain ⟨k',hl,hv,o,hc,hx'⟩:=Cx.hd_some hx;have hne:=(Cx.newAt_born (k:=k) (cs:=#[]) hb hq).1;rcases Cx.mapAt_live hl with ⟨e,_⟩ | ⟨_,hl'⟩
  ·exact absurd e hne
  ·rw [Cx.mapAt_φ hne] at hc hx';have hh:c.w.heap[(c.φ q).1]? = some o:=by
    rw [<- hc];exact (Below.heap_alloc _ _ _ (hr.live_lt hl')).symm
   rw [<- hv];exact (Cx.hd_of hl' hh).trans hx'
 liveNew:=fun q k' hl=>by
  rcases Cx.mapAt_live hl with ⟨rfl,rfl⟩ | ⟨hne,hl'⟩
  ·left
   simp [Cx.mapAt]
  ·exact .inr ⟨q,k',hl',by rw [Cx.mapAt_φ hne]⟩
theorem Cx.mapAt_rel (hr:HRel c) (hb:c.H[b]? = some none) {kn s:Nat} (hs:0<s):HRel (c.mapAt b ⟨0,s,kn,[]⟩) where
 lt:=fun g hg=>by
  have := hr.lt g hg;simp [Cx.mapAt];omega
 blk:=fun q k' hq=>by
  rcases Cx.mapAt_live hq with ⟨rfl,rfl⟩ | ⟨hne,hl'⟩
  ·have e:(c.mapAt q ⟨0,s,kn,[]⟩).φ q=(c.w.heap.size,0):=if_pos rfl;exact ⟨#[],none,⟨by rw [e];exact (heap_alloc_new c.w (.map #[] 0)).trans (by simp [Ba]),by rw [e];exact fun hz=>Nat.lt_irrefl _ (hr.lt _ hz),hs,fun f hf=>by (cases hf),by rw [e];simp,fun i row h=>by simp at h,fun i row j a h=>by simp at h⟩⟩
  ·obtain ⟨cs',fr,hB⟩:=hr.blk q k' hl';refine ⟨cs',fr,⟨by rw [Cx.mapAt_φ hne];exact (Below.heap_alloc _ _ _ (hr.live_lt hl')).trans hB.at_,by rw [Cx.mapAt_φ hne];exact hB.nf,hB.pos,hB.free,by rw [Cx.mapAt_φ hne];exact hB.fits,hB.len,fun i row j a h1 h2=>?_⟩⟩;obtain ⟨u,h3,h4,h5⟩:=hB.rel i row j a h1 h2;exact ⟨u,by rw [Cx.mapAt_φ hne];exact h3,h4,h5.ext hr (Cx.mapAt_ext hr hb)⟩
 inj:=fun q q' k1 k2 h1 h2 hne=>by
  have lt:∀ {j kj},c.live j kj->(c.φ j).1<c.w.heap.size:=fun hl=>hr.live_lt hl;rcases Cx.mapAt_live h1 with ⟨rfl,rfl⟩ | ⟨hn1,hl1⟩
  ·rcases Cx.mapAt_live h2 with ⟨rfl,rfl⟩ | ⟨hn2,hl2⟩
   ·exact absurd rfl hne
   ·have := hr.live_lt hl2;rw [show (c.mapAt q ⟨0,s,kn,[]⟩).φ q=(c.w.heap.size,0) from if_pos rfl,Cx.mapAt_φ hn2];simp only;omega
  ·rcases Cx.mapAt_live h2 with ⟨rfl,rfl⟩ | ⟨hn2,hl2⟩
   ·have := hr.live_lt hl1;rw [show (c.mapAt q' ⟨0,s,kn,[]⟩).φ q'=(c.w.heap.size,0) from if_pos rfl,Cx.mapAt_φ hn1];simp only;omega
   ·rw [Cx.mapAt_φ hn1,Cx.mapAt_φ hn2];exact hr.inj q q' k1 k2 hl1 hl2 hne
end
section
variable {P:Program} {ρ:Operand->AV} {H:AH}
theorem B0 {o:Oper} {t:TypeId} {kn s b:Nat} (ho:o.op = .makeMap t none) (hs:0<s) (hb:H[b]? = some none):Jb P o ρ H (.mp b s) (H.set b (some ⟨0,s,kn,[]⟩)):=by
 intro c a Kk Q hH hr hxs hK;subst hH;have : (execOp a.eval o).run P c.w = .ok (.value (.map (some c.w.heap.size))) (c.mapAt b ⟨0,s,kn,[]⟩).w:=by
  rw [execOp,ho];refine (?_:Sem.run P _ c.w=_);simp [Instr.makeMap,Cx.mapAt]
 unfold Oper.wp;rw [this];have hl2:(c.mapAt b ⟨0,s,kn,[]⟩).live b ⟨0,s,kn,[]⟩:=Cx.newAt_self (k:=⟨0,s,kn,[]⟩) (cs:=#[]) hb;have e:(c.mapAt b ⟨0,s,kn,[]⟩).φ b=(c.w.heap.size,0):=if_pos rfl;refine hK _ (c.mapAt b ⟨0,s,kn,[]⟩) rfl (Cx.mapAt_rel hr hb hs) (Cx.mapAt_ext hr hb) (.mp ?_ fun x hx=>?_)
 ·unfold Cx.born;rw [show (c.mapAt b ⟨0,s,kn,[]⟩).H[b]? = some (some _) from hl2];exact Nat.le_refl _
 ·have := Cx.hd_of hl2 (o:=.map #[] 0) (by rw [e];exact heap_alloc_new _ _);rw [e] at this;have he:=hx.symm.trans this;simp only [hdo,sie] at he;subst he;exact ⟨rfl,rfl⟩
theorem EvA.mmkA {K:Type} {kn:Nat} {t:TypeId} (kc:K->List Value) (b:Nat) (hb:H[b]? = some none):EvA P ρ (.makeMap t none) H (.mp b (kn+1)) (H.set b (some (mB kn 1 kc cB ([]:List (K×Bool))))):=
 fun _ ho=>B0 (kn:=kn) ho (Nat.succ_pos kn) hb
end
section
variable {P:Program} {ρ:Operand->AV} {t e:TypeId}
theorem Je.buildZ {n w:Nat} {ag:Bool} {zs:List AV} (hu:P.underlying t=some (.array n e)) (z:TyZ P t zs) (q:TyF P e ag w):Je P ρ (.build t #[]) (.agg zs) := .mk fun K hK=>by
 show rD P t [] K;have hz:=z.z;have ho:=z.one;have hq:=q.info
 cases hi:P.info? t with
 | none=>rw [hi] at hz;cases hz
 | some i=>
  rw [hi] at hz ho
  cases hzz:i.zero with
  | none=>simp [hzz] at hz
  | some zv=>
   simp only [Option.bind_some,hzz,Option.map_some,sie] at hz ho
   cases hj:P.info? e with
   | none=>rw [hj] at hq;cases hq
   | some ie=>
    simp only [rD,hi,hu,hzz,hj,rC,hz];exact Ck.intro ho hK
end
section
variable {P:Program} {nt b0:Nat} {Q:Exit->Env->AH->Prop} {e:Env} {H:AH}
theorem T.ifH {α:Type} {q:Bool} {x:Operand} {t f:Code} {X Y:Option α} {r:α} (hc:rho e x = .v (.bool q)) (h:(bif q then X else Y)=some r) (h1:q=true->X=some r->T P nt b0 t Q e H) (h2:q=false->Y=some r->T P nt b0 f Q e H):T P nt b0 (.cond x t f) Q e H:=
 T.cond hc (fun hq=>h1 hq (Im hq h)) fun hq=>h2 hq (Io hq h)
end
theorem Jg {α:Type} {a b:α} (h:some a=some b):a=b:=osl h
def Iw (e:Env):List (Nat×AV)->List (Nat×AV)
 | []=>[]
 | p::l=>(p.1,e p.1)::Iw e l
theorem wk {e:Env}:∀ {en:List (Nat×AV)},Iw e en=en->wF e (ae en)
 | [],_=>Jc
 | (t,a)::l,h=>by
  injection h with h1 h2;injection h1 with _ h1;exact Jd h1 (wk h2)
theorem kw {b0:Nat} {e:Env} {H H0:AH} {en:List (Nat×AV)} (hH:H0=H) (h:Iw e en=en):cE b0 e H (ae en) H0:=Ec hH (wk h)
def Ha:Nat->List AV->List (Nat×AV)
 | _,[]=>[]
 | i,a::l=>(i,a)::Ha (i+1) l
theorem Ca:∀ (l:List AV) (i t:Nat),ae (Ha i l) t=if t<i then .top else l.getD (t-i) .top
 | [],i,t=>by
  show AV.top=_
  split <;> simp
 | a::l,i,t=>by
  show (bif Nat.beq t i then a else ae (Ha (i+1) l) t)=_
  cases hb:Nat.beq t i with
  | true=>
   have := Nat.eq_of_beq_eq_true hb;subst this;simp
  | false=>
   have hne:t≠i:=fun h=>by rw [h,show Nat.beq i i=true from Nat.beq_refl i] at hb;cases hb
   rw [cond_false,Ca l (i+1) t]
   by_cases h:t<i
   ·rw [if_pos h,if_pos (by omega)]
   ·rw [if_neg h,if_neg (by omega),show t-i=(t-(i+1))+1 by omega]
    rfl
theorem Eg (l:List AV):wF (DI l) (ae (Ha 0 l)):=fun t => .inr (by rw [Ca,if_neg (by omega)];rfl)
section
variable {P:Program} {f:FuncId} {fn:Func} {body:Code} {Jy:List AV} {r:AV} {H H':AH}
def okF (P:Program) (f:FuncId) (fn:Func) (body:Code):Bool:=eP P f&&codeOk fn.ntmps body
theorem E9 (h:okF P f fn body=true):eP P f=true/\codeOk fn.ntmps body=true:=by
 unfold okF at h;simpa using h
theorem pM (hf:P.funcs[f]? = some fn) (hb:fn.body=some body) (hk:okF P f fn body=true) (hn:Nat.ble Jy.length fn.ntmps=true) (h:T P fn.ntmps 0 body (Fin P fn fun r0 G=>Fz 0 G r0 r) (ae (Ha 0 Jy)) []):aJ P f Jy r:=
 aJ.mkT hf hb (E9 hk).1 hn (E9 hk).2 (Eg Jy) h
end
section
variable {α β:Type} {G:Prop} {r:β} {x:Option β}
theorem jW {k:IntKind} {n:Int} (h:gd (Jf k n) x=some r) (K:k.wrap n=n->x=some r->G):G:=K (gdW h).1 (gdW h).2
theorem jD {A:Prop} [Decidable A] (h:gd (decide A) x=some r) (K:A->x=some r->G):G:=K (gdD h).1 (gdD h).2
theorem jL {b:Bool} (h:gd b x=some r) (K:b=true->x=some r->G):G:=K (gdL h).1 (gdL h).2
theorem jB {o:Option α} {k:α->Option β} (h:o.bind k=some r) (K:∀ v,o=some v->k v=some r->G):G:=(FN h).elim fun v h=>K v h.1 h.2
end
section
variable {P:Program} {nt b0:Nat} {Q:Exit->Env->AH->Prop} {e e0:Env} {H H' H0:AH} {ops:Array Oper} {l:List Oper} {W:Type} {w:W}
theorem T.sr {i:Nat} {y:Code} (h:TO P nt b0 ops ops.toList (DJ (T P nt b0 y Q) Q) e H):T P nt b0 (.seq (.region i ops false) y) Q e H := .seq (.region h)
theorem T.jU {S:Type} {A:Option S} {K:S->Option W} {x y:Code} (h:A.bind K=some w) (slots:S->List (Nat×AV)) (heap:S->AH)
  (J:∀ s,K s=some w->T P nt b0 y Q (ae (slots s)) (heap s)) (k:∀ s,A=some s->T P nt b0 x (DJ (Ip b0 (fun _:Unit=>True) (fun _=>slots s) (fun _=>heap s)) Q) e H):T P nt b0 (.seq x y) Q e H:=
 jB h fun s h1 h2=>T.joinF (fun _:Unit=>True) (fun _=>slots s) (fun _=>heap s) (fun _ _=>J s h2) (k s h1)
theorem T.jF {S G:Type} {A:Option S} {K:S->Option W} {x y:Code} (h:A.bind K=some w) (inv:S->G->Prop) (slots:S->G->List (Nat×AV)) (heap:S->G->AH)
  (J:∀ s g,K s=some w->inv s g->T P nt b0 y Q (ae (slots s g)) (heap s g)) (k:∀ s,A=some s->T P nt b0 x (DJ (Ip b0 (inv s) (slots s) (heap s)) Q) e H):T P nt b0 (.seq x y) Q e H:=
 jB h fun s h1 h2=>T.joinF (inv s) (slots s) (heap s) (fun g hg=>J s g h2 hg) (k s h1)
theorem T.lU {S E:Type} {body:Code} {x:E} {step:S->Option (S ⊕ E)} {s0:S} (h:loopO step s0=some x) (slots:S->List (Nat×AV)) (heap:S->AH) (hs:cE b0 e H (ae (slots s0)) (heap s0))
  (round:∀ s z,step s=some z->T P nt b0 body (DJ (Ea b0 (fun _ (_:Unit)=>True) (fun s _=>slots s) (fun s _=>heap s) z) (Leave Q x z)) (ae (slots s)) (heap s)):T P nt b0 (.loop body) Q e H:=
 T.loop step (fun _ (_:Unit)=>True) (fun s _=>slots s) (fun s _=>heap s) () h trivial hs fun s _ z hz _=>round s z hz
theorem lE {S E:Type} {slots:S->List (Nat×AV)} {heap:S->AH} {a:S} {z:S ⊕ E} (h:some (Sum.inl a)=some z) (c:cE b0 e H (ae (slots a)) (heap a)):Ea b0 (fun _ (_:Unit)=>True) (fun s _=>slots s) (fun s _=>heap s) z e H:=
 ⟨a,(),(osl h).symm,trivial,c⟩
theorem lX {S E:Type} {x y:E} {z:S ⊕ E} {ex:Exit} (h:some (Sum.inr y)=some z) (K:some y=some x->Q ex e H):Leave Q x z ex e H:=⟨y,(osl h).symm,fun h=>K (congrArg some h)⟩
theorem TO.jB {S:Type} {q:Bool} {A B:Option S} {K:S->Option W} (h:(bif q then A else B).bind K=some w) (n:Nat) (slots:S->List (Nat×AV)) (heap:S->AH)
  (h1:∀ s,q=true->A=some s->(∀ e H,cE b0 e H (ae (slots s)) (heap s)->TO P nt b0 ops (l.drop n) Q e H)->TO P nt b0 ops l Q e H)
  (h2:∀ s,q=false->B=some s->(∀ e H,cE b0 e H (ae (slots s)) (heap s)->TO P nt b0 ops (l.drop n) Q e H)->TO P nt b0 ops l Q e H)
  (J:∀ s,K s=some w->TO P nt b0 ops (l.drop n) Q (ae (slots s)) (heap s)):TO P nt b0 ops l Q e H:=by
 obtain ⟨s,ha,hk⟩:=FN h;have key:∀ e H,cE b0 e H (ae (slots s)) (heap s)->TO P nt b0 ops (l.drop n) Q e H:=fun e H c=>(J s hk).cut c
 cases q with
 | true=>exact h1 s rfl ha key
 | false=>exact h2 s rfl ha key
end
section
variable {P:Program} {ρ:Operand->AV} {H H':AH} {x y:Operand} {a:AV} {t:TypeId} {ag:Bool} {n:Nat}
theorem mv:Je P ρ (.move x) (ρ x):=Je.mv _ rfl
theorem as':Je P ρ (.assign x) (ρ x):=Je.asg _ rfl
def I0:AV->Bool
 | .fp _ _=>true
 | .hp _ _ _ _ _=>true
 | _=>false
theorem nl (h:I0 (ρ x)=true):Je P ρ (.nilCheck x) (ρ x):=by
 cases e:ρ x with
 | fp row j=>exact Je.nilfp e
 | hp b v s i j=>exact Je.nilhp e
 | _=>rw [e] at h;cases h
def ldE (ag:Bool) (n:Nat):AV->Option AV
 | .fp row j=>je ag n row j
 | _=>none
theorem lf (a:AV) (ty:TyF P t ag n) (h:ldE ag n (ρ x)=some a):Je P ρ (.load t x) a:=by
 cases e:ρ x with
 | fp row j=>rw [e] at h;exact Je.loadfp a ty e h
 | _=>rw [e] at h;cases h
def faE (pl:List (Nat×Nat)) (i:Nat) (v:AV):Option AV:=match pl[i]? with
 | some (o,k+1)=>(match v with
  | .fp row j=>some (.fp row (j+o))
  | .hp b u s q j=>some (.hp b u s q (j+o))
  | _=>none)
 | _=>none
theorem zC {α β:Type} {f:α->Option β}:∀ {l:List α} {k:List β},l.mapM f=some k->∀ {i:Nat} {b:β},k[i]? = some b->∃ a,l[i]? = some a/\f a=some b
 | [],k,h,i,b,hb=>by
  simp at h;subst h;simp at hb
 | c::l,k,h,i,b,hb=>by
  simp only [List.mapM_cons] at h;obtain ⟨d,hd,h⟩:=Option.bind_eq_some_iff.1 h;obtain ⟨k',hk',h⟩:=Option.bind_eq_some_iff.1 h;obtain rfl:=osl h
  cases i with
  | zero=>
   simp at hb;subst hb;exact ⟨c,rfl,hd⟩
  | succ i=>exact zC hk' (by simpa using hb)
theorem fa {pl:List (Nat×Nat)} {i:Nat} (q:TyS P t pl) (h:faE pl i (ρ x)=some a):Je P ρ (.fieldAddr t x i) a:=by
 have hs:=q.s
 split at hs
 ·rename_i fs hu;unfold faE at h
  split at h
  ·rename_i o k hk;obtain ⟨fl,h1,h2⟩:=zC hs hk;rw [Array.getElem?_toList] at h1;obtain ⟨inf,h3,h4⟩:=Option.map_eq_some_iff.1 h2;injection h4 with h4 h5;have hc:(P.cellsOf fl.type != 0)=true:=by
    unfold Program.cellsOf;rw [h3];simp [h5]
   subst h4
   cases e:ρ x with
   | fp row j=>rw [e] at h;obtain rfl:=osl h;exact Je.fafp hu h1 hc e
   | hp b u s w j=>rw [e] at h;obtain rfl:=osl h;exact Je.fahp hu h1 hc e
   | _=>rw [e] at h;cases h
  ·cases h
 ·cases hs
theorem lh (a:AV) (ty:TyF P t ag n) {b ver s j:Nat} {ty':TypeId} {row:List AV} (h:ρ x = .hp b ver s 0 j) (hk:H[b]? = some (some ⟨ver,s,ty',[row]⟩)) (hp:je ag n row j=some a):EvA P ρ (.load t x) H a H:=EvA.loadhp a ty h hk rfl rfl rfl hp
def srE (n s j:Nat) (row cs:List AV):Option (List AV):=bif Nat.beq cs.length n&&Nat.ble (j+n) s then some (splice row j cs) else none
theorem sr (row':List AV) (ty:TyF P t ag n) {b ver s j:Nat} {ty':TypeId} {row cs:List AV} (hx:ρ x = .hp b ver s 0 j) (hy:(ρ y).cells=some cs) (hk:H[b]? = some (some ⟨ver,s,ty',[row]⟩)) (hr:srE n s j row cs=some row'):EvA P ρ (.store t x y) H .top (H.set b (some ⟨ver,s,ty',[row']⟩)):=by
 unfold srE at hr
 cases hb:(Nat.beq cs.length n&&Nat.ble (j+n) s) with
 | false=>rw [hb] at hr;cases hr
 | true=>
  rw [hb] at hr;obtain rfl:=osl hr;rw [bae] at hb;exact EvA.st (k:=⟨ver,s,ty',[row]⟩) _ ty hx hy hk rfl rfl rfl (Nat.eq_of_beq_eq_true hb.1) hb.2 rfl
end
section
variable {P:Program} {nt b0:Nat} {Q:Exit->Env->AH->Prop} {H H':AH} {ops:Array Oper} {l:List Oper} {d:Tmp} {ty:TypeId} {pos:String} {af:Array Edge} {en:List (Nat×AV)} {fp:Nat->Fp} {i:Nat} {K:Env->AH->Prop} {S W:Type} {r:W} {A:Option S} {k:S->Option W} {v:S->AV} {cl:Call} {f:Operand} {g:FuncId} {caps Jy:List AV}
theorem oC (h:A.bind k=some r) (hp:∀ s,A=some s->aJ P g Jy (v s)) (hc:cl.callee = .value f) (hf:rho (ae en) f = .fn (.func g) caps) (ha:cl.args.toList.map (rho (ae en))++caps=Jy) (hF:Jy.all (isF 9)=true)
  (J:∀ s,A=some s->k s=some r->TO P nt b0 ops l Q (ae ((d,v s)::en)) H):TO P nt b0 ops (⟨some d,.call cl,ty,pos,af,none⟩::l) Q (ae en) H:=
 jB h fun s h1 h2=>oN (Je.call hc hf ha (hp s h1) hF) (J s h1 h2)
theorem fC (h:A.bind k=some r) (hp:∀ s,A=some s->aJ P g Jy (v s)) (hc:cl.callee = .value f) (hf:rho (ae en) f = .fn (.func g) caps) (ha:cl.args.toList.map (rho (ae en))++caps=Jy) (hF:Jy.all (isF 9)=true) (h0:fp i=([],false))
  (J:∀ s,A=some s->k s=some r->TF P fp (i+1) l K (ae ((d,v s)::en)) H):TF P fp i (⟨some d,.call cl,ty,pos,af,none⟩::l) K (ae en) H:=
 jB h fun s h1 h2=>fN h0 (Je.call hc hf ha (hp s h1) hF) (J s h1 h2)
end
section
variable {P:Program} {fn:Func} {e:Env} {G:AH} {a:AV} {t:Tmp} {m:Nat}
theorem fB (h:fn.results.toList=[.tmp t]) (h1:e t=a) (h2:isF 9 a=true):Fin P fn (fun r0 G=>Fz m G r0 a) .ret e G:=Fin.ret (vs:=[a]) (by rw [h];exact .cons (.tmp h1) .nil) (.of_isF 9 _ h2)
end
section
variable {P:Program} {ρ:Operand->AV} {H:AH} {x y:Operand} {t:TypeId} {ag:Bool} {n j w:Nat} {q:Int}
theorem lf1 (V:Int->AV) (g:0<=q/\q<3) (ty:TyF P t ag n) {row:List AV} (h:ρ x = .fp row (j+q.toNat*w)) (h0:je ag n row (j+0*w)=some (V 0)) (h1:je ag n row (j+1*w)=some (V 1)) (h2:je ag n row (j+2*w)=some (V 2)):Je P ρ (.load t x) (V q):=
 Je.loadfp _ ty h (GJ (P:=fun z=>je ag n row (j+z.toNat*w)=some (V z)) g h0 h1 h2)
theorem lh1 (V:Int->AV) (g:0<=q/\q<3) (ty:TyF P t ag n) {b ver s:Nat} {ty':TypeId} {row:List AV} (h:ρ x = .hp b ver s 0 (j+q.toNat*w)) (hk:H[b]? = some (some ⟨ver,s,ty',[row]⟩)) (h0:je ag n row (j+0*w)=some (V 0)) (h1:je ag n row (j+1*w)=some (V 1)) (h2:je ag n row (j+2*w)=some (V 2)):EvA P ρ (.load t x) H (V q) H:=
 EvA.loadhp _ ty h hk rfl rfl rfl (GJ (P:=fun z=>je ag n row (j+z.toNat*w)=some (V z)) g h0 h1 h2)
theorem sr1 (R:Int->List AV) (g:0<=q/\q<3) (ty:TyF P t ag n) {b ver s:Nat} {ty':TypeId} {row cs:List AV} (hx:ρ x = .hp b ver s 0 (j+q.toNat*w)) (hy:(ρ y).cells=some cs) (hk:H[b]? = some (some ⟨ver,s,ty',[row]⟩)) (h0:srE n s (j+0*w) row cs=some (R 0)) (h1:srE n s (j+1*w) row cs=some (R 1)) (h2:srE n s (j+2*w) row cs=some (R 2)):EvA P ρ (.store t x y) H .top (H.set b (some ⟨ver,s,ty',[R q]⟩)):=
 sr _ ty hx hy hk (GJ (P:=fun z=>srE n s (j+z.toNat*w) row cs=some (R z)) g h0 h1 h2)
variable {v:Nat} {u:Int}
end
structure Jh where
 Op:Int
 Loc:Int
 Reg:Int
 Val:Int
instance:Inhabited Jh:=⟨⟨default,default,default,default⟩⟩
def Jh.c (x:Jh):List AV:=[I x.Op,I x.Loc,I x.Reg,I x.Val]
theorem Jh.len (x:Jh):(Jh.c x).length=4:=rfl
theorem Jh.isF (x:Jh):(Jh.c x).all (isF 9)=true:=rfl
structure Ji where
 From:LI
 Order:LL
instance:Inhabited Ji:=⟨⟨default,default⟩⟩
def Ji.c (x:Ji):List AV:=[eL cI x.From,eL (cL cI) x.Order]
theorem Ji.len (x:Ji):(Ji.c x).length=2:=rfl
theorem Ji.isF (x:Ji):(Ji.c x).all (isF 9)=true:=rfl
structure ZTr where
 p:List (List Jh)
 x:Ji
 number:LL
 schedule:LI
 failed:List ((Int×Int×Int)×Bool)
structure ZTv where
 p:List (List Jh)
 x:Ji
 number:LL
instance:Inhabited ZTv:=⟨⟨default,default,default⟩⟩
def ZTv.c (x:ZTv):List AV:=[eL (cL Jh.c) x.p,eL cI x.x.From,eL (cL cI) x.x.Order,eL (cL cI) x.number]
theorem ZTv.len (x:ZTv):(ZTv.c x).length=4:=rfl
theorem ZTv.isF (x:ZTv):(ZTv.c x).all (isF 9)=true:=rfl
structure dA where
 Op:Int
 Loc:Int
 Reg:Int
 Val:Int
instance:Inhabited dA:=⟨⟨default,default,default,default⟩⟩
def dA.c (x:dA):List AV:=[I x.Op,I x.Loc,I x.Reg,I x.Val]
theorem dA.len (x:dA):(dA.c x).length=4:=rfl
theorem dA.isF (x:dA):(dA.c x).all (isF 9)=true:=rfl
structure dZ where
 Thread:Int
 Index:Int
instance:Inhabited dZ:=⟨⟨default,default⟩⟩
def dZ.c (x:dZ):List AV:=[I x.Thread,I x.Index]
theorem dZ.len (x:dZ):(dZ.c x).length=2:=rfl
theorem dZ.isF (x:dZ):(dZ.c x).all (isF 9)=true:=rfl
structure eQ where
 First:dZ
 Second:dZ
instance:Inhabited eQ:=⟨⟨default,default⟩⟩
def eQ.c (x:eQ):List AV:=[I x.First.Thread,I x.First.Index,I x.Second.Thread,I x.Second.Index]
theorem eQ.len (x:eQ):(eQ.c x).length=4:=rfl
theorem eQ.isF (x:eQ):(eQ.c x).all (isF 9)=true:=rfl
structure Jj where
 Thread:Int
 Index:Int
 Loc:Int
 Reads:Bool
 Writes:Bool
instance:Inhabited Jj:=⟨⟨default,default,default,default,default⟩⟩
def Jj.c (x:Jj):List AV:=[I x.Thread,I x.Index,I x.Loc,Bo x.Reads,Bo x.Writes]
theorem Jj.len (x:Jj):(Jj.c x).length=5:=rfl
theorem Jj.isF (x:Jj):(Jj.c x).all (isF 9)=true:=rfl
structure Z3i where
 x0:Int
 x1:Int
 x2:Int
instance:Inhabited Z3i:=⟨⟨default,default,default⟩⟩
def Z3i.c (x:Z3i):List AV:=[I x.x0,I x.x1,I x.x2]
theorem Z3i.len (x:Z3i):(Z3i.c x).length=3:=rfl
theorem Z3i.isF (x:Z3i):(Z3i.c x).all (isF 9)=true:=rfl
def Z3i.get (a:Z3i) (q:Int):Int:=if q=0 then a.x0 else if q=1 then a.x1 else a.x2
def Z3i.set (a:Z3i) (q:Int) (v:Int):Z3i:=if q=0 then ⟨v,a.x1,a.x2⟩ else if q=1 then ⟨a.x0,v,a.x2⟩ else ⟨a.x0,a.x1,v⟩
structure dB where
 b:LI
 p:Int
instance:Inhabited dB:=⟨⟨default,default⟩⟩
def dB.c (x:dB):List AV:=[eL cY x.b,I x.p]
theorem dB.len (x:dB):(dB.c x).length=2:=rfl
theorem dB.isF (x:dB):(dB.c x).all (isF 9)=true:=rfl
structure Z3b where
 x0:Int
 x1:Int
 x2:Int
instance:Inhabited Z3b:=⟨⟨default,default,default⟩⟩
def Z3b.c (x:Z3b):List AV:=[Y x.x0,Y x.x1,Y x.x2]
theorem Z3b.len (x:Z3b):(Z3b.c x).length=3:=rfl
theorem Z3b.isF (x:Z3b):(Z3b.c x).all (isF 9)=true:=rfl
def Z3b.get (a:Z3b) (q:Int):Int:=if q=0 then a.x0 else if q=1 then a.x1 else a.x2
def Z3b.set (a:Z3b) (q:Int) (v:Int):Z3b:=if q=0 then ⟨v,a.x1,a.x2⟩ else if q=1 then ⟨a.x0,v,a.x2⟩ else ⟨a.x0,a.x1,v⟩
structure Z33 where
 x0:Z3b
 x1:Z3b
 x2:Z3b
instance:Inhabited Z33:=⟨⟨default,default,default⟩⟩
def Z33.c (x:Z33):List AV:=[Y x.x0.x0,Y x.x0.x1,Y x.x0.x2,Y x.x1.x0,Y x.x1.x1,Y x.x1.x2,Y x.x2.x0,Y x.x2.x1,Y x.x2.x2]
theorem Z33.len (x:Z33):(Z33.c x).length=9:=rfl
theorem Z33.isF (x:Z33):(Z33.c x).all (isF 9)=true:=rfl
def Z33.get (a:Z33) (q:Int):Z3b:=if q=0 then a.x0 else if q=1 then a.x1 else a.x2
def Z33.set (a:Z33) (q:Int) (v:Z3b):Z33:=if q=0 then ⟨v,a.x1,a.x2⟩ else if q=1 then ⟨a.x0,v,a.x2⟩ else ⟨a.x0,a.x1,v⟩
structure Jk where
 p:List (List Jh)
 pc:Z3b
 reg:Z33
 mem:Z3b
instance:Inhabited Jk:=⟨⟨default,default,default,default⟩⟩
def Jk.c (x:Jk):List AV:=[eL (cL Jh.c) x.p,Y x.pc.x0,Y x.pc.x1,Y x.pc.x2,Y x.reg.x0.x0,Y x.reg.x0.x1,Y x.reg.x0.x2,Y x.reg.x1.x0,Y x.reg.x1.x1,Y x.reg.x1.x2,Y x.reg.x2.x0,Y x.reg.x2.x1,Y x.reg.x2.x2,Y x.mem.x0,Y x.mem.x1,Y x.mem.x2]
theorem Jk.len (x:Jk):(Jk.c x).length=16:=rfl
theorem Jk.isF (x:Jk):(Jk.c x).all (isF 9)=true:=rfl
structure ZSq where
 values:Jk
instance:Inhabited ZSq:=⟨⟨default⟩⟩
def ZSq.c (x:ZSq):List AV:=[eL (cL Jh.c) x.values.p,Y x.values.pc.x0,Y x.values.pc.x1,Y x.values.pc.x2,Y x.values.reg.x0.x0,Y x.values.reg.x0.x1,Y x.values.reg.x0.x2,Y x.values.reg.x1.x0,Y x.values.reg.x1.x1,Y x.values.reg.x1.x2,Y x.values.reg.x2.x0,Y x.values.reg.x2.x1,Y x.values.reg.x2.x2,Y x.values.mem.x0,Y x.values.mem.x1,Y x.values.mem.x2]
theorem ZSq.len (x:ZSq):(ZSq.c x).length=16:=rfl
theorem ZSq.isF (x:ZSq):(ZSq.c x).all (isF 9)=true:=rfl
end
end Go.Proofs.YtlmjnhnpahicmaaGreat
