/- Texts joined. No conditions. -/
import Derived.Lib.Bytealg
import Derived.Laws.Externs
import Derived.Test.YtcmimhffgmckjaaGreatDoorV3
namespace Go.Proofs.YtcmimhffgmckjaaGreatDoor
noncomputable section
open Go.RowKit
set_option maxRecDepth 100000
section
variable {P:Program} {o:Oper} {ρ:Operand->AV} {H:AH} {x y:Operand} {t e:TypeId}
theorem Ab {lo co:Operand} {l k:Int} {z:Value} (ho:o.op = .makeSlice t lo co) (ht:P.underlying t=some (.slice e)) (hlo:ρ lo = .v (.int .i64 l)) (hco:ρ co = .v (.int .i64 k)) (hz:(P.info? e).bind (·.zero)=some z)
  (h0:0<=l) (h1:l<=k) (hb:k*(P.bytesOf e:Int)<=140737488355328) (hk:k<=140737488355328) (hs:0<P.cellsOf e) (hzs:(eC z).length=P.cellsOf e) (hz1:oJ z.cells=true) :
  Fe P o ρ H ⟨0,P.cellsOf e,e,List.replicate k.toNat (eC z)⟩ (.hs H.length 0 (P.cellsOf e) 0 l.toNat):=by
 cases hi:P.info? e with
 | none=>rw [hi] at hz;cases hz
 | some i=>
  simp only [hi,Option.bind_some] at hz;have hby:P.bytesOf e=i.bytes:=by simp [Program.bytesOf,hi]
  have hce:P.cellsOf e=i.size:=by simp [Program.cellsOf,hi]
  have hzsz:z.cells.size=P.cellsOf e:=by simpa [eC] using hzs
  refine fun c a hH hr hx=>?_;have hl1:=(ia (hlo ▸ hx lo (by rw [ho];simp [Op.operands]))).1;have hk1:=(ia (hco ▸ hx co (by rw [ho];simp [Op.operands]))).1;have hzc:=uC c hz1;have hsize:(sizeOf e).run P c.w = .ok (P.cellsOf e) c.w:=run_sizeOf c.w hi;have hzero:(zeroValue e).run P c.w = .ok z c.w:=by simp [zeroValue,typeInfo,hi,hz]
  refine ⟨(Array.range (k.toNat*P.cellsOf e)).map (z.cells[· % z.cells.size]!),.slice (some ⟨c.w.heap.size,0,none⟩) l.toNat k.toNat,?_,Cx.new_rel hr _ _ hs (by simp) (fun q row h=>?_) (fun q row j a' h1' h2=>?_),?_⟩
  ·rw [execOp,ho];refine (?_:Sem.run P _ c.w=_);have hneg : ¬ ((((decide (k<0)||decide (i.bytes*k>2 ^ 48))||decide (l<0))||decide (l>k))=true):=by
    simp only [Bool.or_eq_true,dte,not_or];rw [hby,Int.mul_comm] at hb;omega
   have : (Instr.makeSlice t (a.eval lo) (a.eval co)).run P c.w = .ok (.slice (some ⟨c.w.heap.size,0,none⟩) l.toNat k.toNat) (c.w.alloc (.cells ((Array.range (k.toNat*P.cellsOf e)).map (z.cells[· % z.cells.size]!)) e)):=by
    rw [hl1,hk1];simp only [Instr.makeSlice,Sem.run_bind,av ht,Result.andThen_ok,asInt,asIntOf,Sem.run_pure,run_typeInfo c.w hi,Bc (n:=l) h0 (by omega),Bc (n:=k) (by omega) (by omega)];rw [if_neg hneg];simp only [Sem.run_bind,run_askRoom,Result.andThen_ok,hsize]
    by_cases h00:k.toNat*P.cellsOf e=0
    ·rw [if_pos h00,h00];have h00':∀ f:Nat->Value,Array.map f (Array.range 0) = #[]:=fun f=>Array.eq_empty_of_size_eq_zero (by simp);simp [newRow,h00']
    ·rw [if_neg h00];simp [hzero,newRow]
   simp only [Sem.run_bind,this,Result.andThen_ok,Sem.run_pure]
   rfl
  ·have := List.mem_of_getElem? h;rw [List.mem_replicate] at this;rw [this.2];exact hzs
  ·have hq:q<k.toNat:=by
    have := (ges h1').1;simpa using this
   have := List.mem_of_getElem? h1';rw [List.mem_replicate] at this;rw [this.2] at h2;have hj:j<P.cellsOf e:=by
    have := (ges h2).1;omega
   have hfit:q*P.cellsOf e+j<k.toNat*P.cellsOf e:=by
    have : (q+1)*P.cellsOf e<=k.toNat*P.cellsOf e:=Nat.mul_le_mul_right _ (by omega);rw [Nat.add_mul] at this;omega
   simp only;rw [Bb _ _ _ hfit (by omega),hzsz,Nat.mul_comm,Nat.mul_add_mod,Nat.mod_eq_of_lt hj];exact hzc.get h2
  ·subst hH;have := Cx.new_hs c ⟨0,P.cellsOf e,e,List.replicate k.toNat (eC z)⟩ ((Array.range (k.toNat*P.cellsOf e)).map (z.cells[· % z.cells.size]!)) (n:=l.toNat) (cap:=k.toNat) (by simp;omega) (by omega) (by omega) (by simp);exact this
theorem FM {ag:Bool} {w m:Nat} {zs:List AV} {a b:Int} (q:SlT P t e ag w zs m) (ho:o.op = .makeSlice t x y) (hx:ρ x = .v (.int .i64 a)) (hy:ρ y = .v (.int .i64 b)) (hq:0<=a/\a<=b/\b*(m:Int)<=140737488355328/\b<=140737488355328) :
  Fe P o ρ H ⟨0,w,e,List.replicate b.toNat zs⟩ (.hs H.length 0 w 0 a.toNat):=by
 have hz:=q.z.z;have h1:=q.z.one
 cases hb:(P.info? e).bind (·.zero) with
 | none=>rw [hb] at hz;cases hz
 | some z=>
  rw [hb] at hz h1;simp only [Option.map_some,sie] at hz h1;have h:=Ab (P:=P) (o:=o) (ρ:=ρ) (H:=H) ho q.u hx hy hb hq.1 hq.2.1 (by rw [q.by_];exact hq.2.2.1) hq.2.2.2 (by rw [q.ty.cells];exact nlb q.pos) (by rw [hz,q.ty.cells];exact q.zl) h1;rw [hz,q.ty.cells] at h;exact h
theorem Mc.msF {α:Type} [Inhabited α] {c:α->List AV} {ag:Bool} {w m:Nat} {zs:List AV} {a b:Int} (v:α) (q:SlT P t e ag w zs m) (hx:ρ x = .v (.int .i64 a)) (hy:ρ y = .v (.int .i64 b)) (hq:0<=a/\a<=b/\b*(m:Int)<=140737488355328/\b<=140737488355328) (hab:a=b) (hv:zs=c v) (hF:∀ x,(c x).all (isF 9)=true) :
  Mc P ρ (.makeSlice t x y) (eL c (List.replicate a.toNat v)):=by
 subst hab hv;refine .newF ⟨0,w,e,(List.replicate a.toNat v).map c⟩ (fun b => .hs b 0 w 0 a.toNat) (fun o ho G=>?_) fun m G hG=>?_
 ·rw [List.map_replicate];exact FM q ho hx hy hq
 ·exact Fz.own (g:=false) (ver:=0) (l:=List.replicate a.toNat v) (f:=c) (ty:=e) (Nat.ble_eq_true_of_le (Nat.le_refl _)) (by rw [<- hG];simp [bE]) (by simp) nofun hF
theorem Mc.msZ {α:Type} [Inhabited α] {f:α->List AV} {ag:Bool} {w m:Nat} {a b:Int} (q:SlT P t e ag w [.nil] m) (hx:ρ x = .v (.int .i64 a)) (hy:ρ y = .v (.int .i64 b)) (hq:0<=a/\a<=b/\b*(m:Int)<=140737488355328/\b<=140737488355328) (hab:a=b) :
  Mc P ρ (.makeSlice t x y) (eL (cL f) (List.replicate a.toNat ([]:List α))):=by
 subst hab;refine .newF ⟨0,w,e,List.replicate a.toNat [.nil]⟩ (fun b => .hs b 0 w 0 a.toNat) (fun o ho G=>FM q ho hx hy hq) fun m G hG=>?_;show Fz _ _ _ (.sl (List.replicate a.toNat ([]:List α)).length _);rw [List.length_replicate];refine .hs (k:=⟨0,w,e,List.replicate a.toNat [.nil]⟩) (Nat.le_refl _) (by rw [<- hG];simp) rfl rfl (by simp) (fun i r hi hr=>?_) (fun i r j c d hi hr hc hd=>?_)
 ·have := List.mem_of_getElem? hr;rw [List.mem_replicate] at this;rw [this.2]
  rfl
 ·have := List.mem_of_getElem? hr;rw [List.mem_replicate] at this;rw [this.2] at hc;have e0:(List.replicate a.toNat ([]:List α)).getD i default=[]:=by simp [List.getElem?_replicate];split <;> rfl
  rw [e0] at hd
  match j with
  | 0=>
   obtain rfl:=osl hc;obtain rfl:=osl hd;exact .nil0
  | j+1=>simp at hc
end
section
variable {P:Program}
def OSQ (bs:List Nat) (K:AH) (r:AV):AV->AH->Prop:=fun r0 G=>
 bs.Nodup/\bs.length=K.length/\(∀ (j b:Nat),bs[j]? = some b->∃ k,tu k/\G[b]? = some (some k)/\K[j]? = some (some k))/\Ren (fun i j=>bs[j]? = some i) r0 r
theorem OSQ.reid {bs:List Nat} {K G:AH} {r r0:AV} (h:OSQ bs K r r0 G):Reid 0 (fun i j=>bs[j]? = some i) G K:=by
 obtain ⟨hnd,hl,hk,_⟩:=h;refine ⟨fun i j j' h1 h2=>?_,fun i i' j h1 h2=>?_,fun i hi=>by omega,Nat.zero_le _,fun j k0 hk0=>?_,fun i j k hS hk0=>?_⟩
 ·obtain ⟨l1,e1⟩:=ges h1;obtain ⟨l2,e2⟩:=ges h2;exact (List.getElem_inj hnd).1 (e1.trans e2.symm)
 ·rw [h1] at h2;exact osl h2
 ·have hj:j<bs.length:=by rw [hl];exact (ges hk0).1
  obtain ⟨k,h1,h2,h3⟩:=hk j bs[j] (geq hj);rw [hk0] at h3;obtain rfl:=osl (osl h3);exact ⟨bs[j],k0,geq hj,h2,.ofF h1⟩
 ·obtain ⟨k1,_,_,h3⟩:=hk j i hS;exact ⟨k1,h3⟩
theorem dz.mkOS {g:FuncId} {fn:Func} {body:Code} {ars:List AV} {r:AV} {K:AH} (hf:P.funcs[g]? = some fn) (hb:fn.body=some body) (hcall:ic P g=true) (hn:Nat.ble ars.length fn.ntmps=true)
  (hok:codeOk fn.ntmps body=true) {e0:Env} (hw:AY (Hr ars) e0) (h:T P fn.ntmps 0 body (Fin P fn fun r0 G=>∃ bs,OSQ bs K r r0 G) e0 []):dz P g ars [] r K:=by
 have hB:=dC.mkT (H:=[]) hf hb hcall hn hok hw h;refine ⟨hB.1,fun c vs hH hr hall=>(hB.2 c vs hH hr hall).mono fun e w' ⟨v,c1,r0,he,hw',⟨bs,hq⟩,hr1,hx,hv⟩ => ?_⟩;have hs:SRel c1 1 (fun t=>bif Nat.beq t 0 then r0 else .top) { tmps := #[v],defers:=[] }:=by
  refine ⟨rfl,rfl,fun t=>?_,hr1⟩
  match t with
  | 0=>exact hv
  | t+1=>exact .top
 obtain ⟨c2,h1,h2,h3,h4⟩:=hq.reid.state (e0:=fun t=>bif Nat.beq t 0 then r else .top) hx hs (by rw [hH];exact Nat.zero_le _) fun t=>by
  match t with
  | 0=>exact hq.2.2.2
  | t+1=>exact .top
 exact ⟨v,c2,he,h1.trans hw',h4,h3.heap,h2,h3.rel 0⟩
theorem dz.freshL {g:FuncId} {ars:List AV} {r r':AV} {K H:AH} (h:dz P g ars [] r K) (has:ars.all (isF 9)=true) (hK:∀ (j:Nat) (k:ABlk),K[j]? = some (some k)->tu k) (n:Nat) (hn:H.length=n) (hr:Ren (sg [] n) r r'):dz P g ars H r' (H++K):=by
 subst hn;have key:∀ {i b},sg [] H.length i b->b=H.length+i:=fun {i b} hs=>by
  rcases hs with hs | ⟨_,hs⟩
  ·simp at hs
  ·simpa using hs
 have hz:∀ i,(H++K)[H.length+i]? = K[i]? := fun i=>by rw [gar (by omega),Nat.add_sub_cancel_left]
 refine h.frame [] List.nodup_nil rfl (fun i c hi=>by simp at hi) rfl (fun i c d hc hd=>?_) ⟨Nat.zero_le _,by simp,fun i c hi hs hn=>?_,fun i c k0 hs hg=>?_,fun c hc hni=>gal hc⟩ hr
 ·obtain ⟨rfl,hm⟩:=dV hc hd;exact ax 9 c (List.all_eq_true.1 has _ hm)
 ·obtain rfl:=key hs;rw [hz];exact hn
 ·obtain rfl:=key hs;exact ⟨k0,(hz i).trans hg,.ofF (hK i k0 hg)⟩
theorem FN {n i j v w m:Nat} (h:j=n+i):Ren (sg [] n) (hS false i v w m) (hS false j v w m) := .hs (.inr ⟨Nat.zero_le _,by simpa using h⟩)
theorem FO {bs:List Nat} {i j v w m:Nat} (h:bs[j]? = some i):Ren (fun i j=>bs[j]? = some i) (hS false i v w m) (hS false j v w m) := .hs h
theorem Ren.aggL {S:Nat->Nat->Prop} {l k:List AV} (h:RenL S l k):Ren S (.agg l) (.agg k) := .agg h.spec.1 h.spec.2
inductive Lies (G:AH):List Nat->AH->Prop
 | nil:Lies G [] []
 | cons {b:Nat} {k:ABlk} {bs:List Nat} {K:AH} (h:G[b]? = some (some k)) (hk:tu k) (t:Lies G bs K):Lies G (b::bs) (some k::K)
theorem Lies.spec {G:AH} {bs:List Nat} {K:AH} (h:Lies G bs K):bs.length=K.length/\∀ (j b:Nat),bs[j]? = some b->∃ k,tu k/\G[b]? = some (some k)/\K[j]? = some (some k):=by
 induction h with
 | nil=>exact ⟨rfl,fun j b h=>by simp at h⟩
 | @cons b k bs K h hk t ih=>
  refine ⟨by simp [ih.1],fun j c hc=>?_⟩
  match j with
  | 0=>
   obtain rfl:=osl hc;exact ⟨k,hk,h,rfl⟩
  | j+1=>exact ih.2 j c hc
theorem OSQ.mk {bs:List Nat} {K G:AH} {r r0:AV} (hnd:bs.Nodup) (hl:Lies G bs K) (hr:Ren (fun i j=>bs[j]? = some i) r0 r):OSQ bs K r r0 G:=⟨hnd,hl.spec.1,hl.spec.2,hr⟩
inductive RowsF:AH->Prop
 | nil:RowsF []
 | cons {k:ABlk} {K:AH} (hk:tu k) (t:RowsF K):RowsF (some k::K)
theorem RowsF.spec {K:AH} (h:RowsF K):∀ (j:Nat) (k:ABlk),K[j]? = some (some k)->tu k:=by
 induction h with
 | nil=>intro j k h;simp at h
 | cons hk t ih=>
  intro j k h
  match j with
  | 0=>
   obtain rfl:=osl (osl h);exact hk
  | j+1=>exact ih j k h
end
def I1 (ops:Array Oper):Nat->Nat->Nat->Bool
 | 0,_,_=>false
 | n+1,j,i=>match ops[j]? with
  | some oj=>oj.after.any fun ed=>Region.binds .any ed&&(ed.on==i||I1 ops n ed.on i)
  | none=>false
def ClL (ops:Array Oper) (listed:Array Bool):Prop:=∀ (j:Nat) (oj:Oper),ops[j]? = some oj->listed.getD j false=true->∀ ed∈oj.after,Region.binds .any ed=true->listed.getD ed.on false=true
theorem FP {listed:Array Bool} {i j:Nat} (h:listed.getD i false=true):(listed.setIfInBounds j true).getD i false=true:=by
 by_cases e:j=i
 ·subst e;rcases Nat.lt_or_ge j listed.size with h' | h'
  ·simp [h']
  ·simp [Array.getElem?_eq_none h'] at h
 ·simpa [Array.getElem?_setIfInBounds_ne e] using h
theorem ClL.up {ops:Array Oper} {listed:Array Bool} {j:Nat} (h:ClL ops listed) (hj:j∈Region.ready .any ops listed):ClL ops (listed.setIfInBounds j true):=by
 intro i oi hoi hl ed he hb
 by_cases e:j=i
 ·subst e;obtain ⟨_,oj,hoj,hall⟩:=mem_ready.1 hj;rw [hoi] at hoj;injection hoj with hoj;subst hoj;exact FP (hall ed he hb)
 ·refine FP (h i oi hoi ?_ ed he hb);simpa [Array.getElem?_setIfInBounds_ne e] using hl
theorem Aw {ops:Array Oper} {listed:Array Bool} {i:Nat} (h:ClL ops listed) (hi:listed.getD i true=false):∀ (n j:Nat),(∀ oj,ops[j]? = some oj->∀ ed∈oj.after,Region.binds .any ed=true->listed.getD ed.on false=true)->I1 ops n j i=false
 | 0,_,_=>rfl
 | n+1,j,hj=>by
  unfold I1
  split
  ·rename_i oj hoj;rw [Bool.eq_false_iff];intro hany;rw [Array.any_eq_true'] at hany;obtain ⟨ed,h1,h2⟩:=hany;simp only [bae,Bool.or_eq_true,beq_iff_eq] at h2;have hl:=hj oj hoj ed h1 h2.1;rcases h2.2 with h3 | h3
   ·rw [h3] at hl;rcases Nat.lt_or_ge i listed.size with h' | h'
    ·simp [h'] at hl hi;rw [hi] at hl;cases hl
    ·simp [Array.getElem?_eq_none h'] at hl
   ·rw [Aw h hi n ed.on fun oj' hoj'=>h ed.on oj' hoj' hl] at h3
    cases h3
  ·rfl
section
variable {P:Program}
theorem De {ops:Array Oper} {fp:Nat->Fp} {Q:Env->AH->Prop} {i n:Nat} {oi:Oper} {r:AV} (hi:ops[i]? = some oi) :
  ∀ (fuel:Nat) (listed:Array Bool) (e:Env) (H Hi:AH),ClL ops listed ->
   (∀ (j:Nat) (oj:Oper),ops[j]? = some oj->j≠i->listed.getD j true=false->I1 ops (n+1) j i=false->oi.apart ops oj=true/\nW (fp i) (fp j)=true) ->
   i∈Region.ready .any ops listed->qx P oi (rho e) H r Hi (fp i).1->((fp i).2=false->Hi=H)->Ht P ops fp Q fuel (listed.setIfInBounds i true) (uQ e oi.dst r) Hi->Ht P ops fp Q (fuel+1) listed e H:=by
 intro fuel
 induction fuel with
 | zero=>
  intro listed e H Hi _ _ hr hy hro hA;refine ⟨fun h=>(by rw [h] at hr;cases hr),fun j hj=>?_⟩
  by_cases hji:j=i
  ·subst hji;exact ⟨oi,r,Hi,hi,hy,hro,hA⟩
  ·have := ready_mono hj hji;rw [hA.1] at this
   cases this
 | succ fuel ih=>
  intro listed e H Hi hcl hfree hr hy hro hA;refine ⟨fun h=>(by rw [h] at hr;cases hr),fun j hj=>?_⟩
  by_cases hji:j=i
  ·subst hji;exact ⟨oi,r,Hi,hi,hy,hro,hA⟩
  ·obtain ⟨oj,q,Hj,hoj,hsj,hroj,hAj⟩:=hA.2 j (ready_mono hj hji);obtain ⟨hjun,oj',hoj',hall⟩:=mem_ready.1 hj;rw [hoj] at hoj';injection hoj' with hoj';subst hoj';have hnot:I1 ops (n+1) j i=false:=Aw hcl (mem_ready.1 hr).1 (n+1) j fun oj' hoj'=>by
    rw [hoj] at hoj';injection hoj' with hoj';subst hoj';exact hall
   obtain ⟨hap,hcm⟩:=hfree j oj hoj hji hjun hnot;obtain ⟨h1,h2,h3⟩:=Oper.apart_spec hap;have ej:=wu (e:=e) (r:=r) h1;have ei:=wu (e:=e) (oi:=oj) (r:=q) h3;have hsj':=hsj.congr ej;have hfree':∀ (k:Nat) (ok:Oper),ops[k]? = some ok->k≠i->(listed.setIfInBounds j true).getD k true=false->I1 ops (n+1) k i=false->oi.apart ops ok=true/\nW (fp i) (fp k)=true:=fun k ok hk hki hun hno=>by
    refine hfree k ok hk hki ?_ hno
    by_cases hjk:j=k
    ·subst hjk;exact hjun
    ·rw [getD_set_ne true hjk] at hun;exact hun
   have fin:∀ Hj',qx P oj (rho e) H q Hj' (fp j).1->((fp j).2=false->Hj'=H)->qx P oi (rho e) Hj' r Hj (fp i).1->((fp i).2=false->Hj=Hj')->∃ o r' H',ops[j]? = some o/\qx P o (rho e) H r' H' (fp j).1/\((fp j).2=false->H'=H)/\Ht P ops fp Q (fuel+1) (listed.setIfInBounds j true) (uQ e o.dst r') H':=fun Hj' s1 s1' s2 s2'=>by
    refine ⟨oj,q,Hj',hoj,s1,s1',ih (listed.setIfInBounds j true) (uQ e oj.dst q) Hj' Hj (hcl.up hj) hfree' (ready_mono hr (Ne.symm hji)) (s2.congr fun x hx=>(ei x hx).symm) s2' ?_⟩;rw [Array.setIfInBounds_comm _ _ hji,zg (fun d hd=>fun hd'=>h2 d (by simpa using hd') (by simpa using hd))];exact hAj
   simp only [nW,Bool.or_eq_true,bae,Bool.not_eq_true',List.all_eq_true,List.contains_eq_mem,decide_eq_false_iff_not] at hcm;rcases hcm with hdis | ⟨w1,w2⟩
   ·have hag:agree (fp j).1 H Hi:=⟨hy.1.symm,fun b hb=>(hy.2.1 b (fun hbi=>hdis b hbi hb)).symm⟩;obtain ⟨Hj',a1,a2,a3,a4⟩:=hsj'.at_ hag;have hag2:agree (fp i).1 Hj' H:=⟨a1,fun b hb=>a3 b (hdis b hb)⟩;obtain ⟨K,b1,b2,b3,b4⟩:=hy.at_ hag2;have hKH:K=Hj:=by
     apply List.ext_getElem?;intro b
     by_cases hbi:b∈(fp i).1
     ·rw [b2 b hbi,hsj'.2.1 b (hdis b hbi)]
     ·rw [b3 b hbi]
      by_cases hbj:b∈(fp j).1
      ·exact a2 b hbj
      ·rw [a3 b hbj,hsj'.2.1 b hbj,hy.2.1 b hbi]
    subst hKH;refine fin Hj' a4 (fun hw=>?_) b4 (fun hw=>?_)
    ·apply List.ext_getElem?;intro b
     by_cases hbj:b∈(fp j).1
     ·rw [a2 b hbj,hroj hw,hy.2.1 b (fun hbi=>hdis b hbi hbj)]
     ·exact a3 b hbj
    ·apply List.ext_getElem?;intro b
     by_cases hbi:b∈(fp i).1
     ·rw [b2 b hbi,hro hw,a3 b (hdis b hbi)]
     ·exact b3 b hbi
   ·obtain rfl:=hro w1;obtain rfl:=hroj w2;exact fin _ hsj' (fun _=>rfl) hy (fun _=>rfl)
def K6 (ops:Array Oper) (fp:Nat->Fp):Bool:=
 Region.lexB .any ops&&ops.all (fun o=>o.guard.isNone) &&
 (List.range ops.size).all fun i=>(List.range ops.size).all fun j=>decide (j<=i)||nW (fp i) (fp j)||I1 ops 6 j i
theorem DR {ops:Array Oper} {fp:Nat->Fp} {Q:Env->AH->Prop} (hc:K6 ops fp=true):∀ (l:List Oper) (k:Nat) (listed:Array Bool) (e:Env) (H:AH),ClL ops listed->(∀ j,l[j]? = ops[k+j]?)->listed.size=ops.size->(∀ j,j<k->listed.getD j true=true) ->
  Region.lexFrom .any ops l.length k listed=true->TF P fp k l Q e H->Ht P ops fp Q l.length listed e H
 | [],k,listed,e,H,_,_,_,_,hB,h=>⟨by simpa [Region.lexFrom] using hB,h⟩
 | o::l,k,listed,e,H,hcl,hl,hsz,hbef,hB,h=>by
  have h0:ops[k]? = some o:=by simpa using (hl 0).symm
  have hk:k<ops.size:=(Array.getElem?_eq_some_iff.1 h0).1;simp only [llc,Region.lexFrom,bae] at hB;obtain ⟨⟨hr,hf⟩,hB'⟩:=hB;obtain ⟨r,H',hs,hro,hK⟩:=h;have hrk:k∈Region.ready .any ops listed:=by simpa using hr
  refine De (n:=5) h0 l.length listed e H H' hcl (fun j oj hj hne hun hno=>?_) hrk hs hro
   (DR hc l (k+1) _ _ _ (hcl.up hrk) (fun j=>by have := hl (j+1);simpa [Nat.add_assoc,Nat.add_comm 1 j] using this) (by simpa using hsz) (fun j hj=>?_) hB' hK)
  ·have hno1:∀ ed∈oj.after,Region.binds .any ed=true->ed.on≠k:=fun ed he hb heq=>by
    unfold I1 at hno;simp only [hj] at hno;rw [Bool.eq_false_iff] at hno;refine hno ?_;rw [Array.any_eq_true'];exact ⟨ed,he,by simp [hb,heq]⟩
   refine ⟨Region.free_spec h0 hf j oj hj hne hun hno1,?_⟩;have hjs:j<ops.size:=(Array.getElem?_eq_some_iff.1 hj).1;have hkj : ¬ j<=k:=fun hle=>by
    have := hbef j (by omega);rw [this] at hun
    cases hun
   simp only [K6,bae,List.all_eq_true,List.mem_range] at hc;have := hc.2 k hk j hjs;simp only [Bool.or_eq_true,dte,hkj,false_or] at this;rcases this with h1 | h1
   ·exact h1
   ·rw [hno] at h1
    cases h1
  ·by_cases e:j=k
   ·subst e;simp [hsz,hk]
   ·rw [getD_set_ne true (Ne.symm e)];exact hbef j (by omega)
variable {nt b0:Nat} {Q:Exit->Env->AH->Prop} {e:Env} {H:AH}
theorem T.drawH {i:Nat} {ops:Array Oper} (fp:Nat->Fp) (hm:P.follows .mixedOrders=true) (hc:K6 ops fp=true) (h:TF P fp 0 ops.toList (Q .normal) e H):T P nt b0 (.region i ops true) Q e H:=by
 intro hok c c0 a hH hb hx hs;simp only [codeOk] at hok;have hc':=hc;simp only [K6,bae,Region.lexB] at hc';refine wp_region_any hm ?_;have hlex:=DR hc ops.toList 0 (Array.replicate ops.size false) e H (fun j oj hj hl=>by
  rcases Nat.lt_or_ge j ops.size with h' | h'
  ·simp [h'] at hl
  ·simp [Array.getElem?_eq_none h'] at hj) (fun j=>by simp) (by simp) (fun j hj=>absurd hj (by omega)) (by simpa using hc'.1.1.2) h
 have := xc hok hc'.1.2 ops.toList.length _ e H hlex c.drew c0 a hH (hx.trans c.drew_ext) ⟨hs.size,hs.defers,fun t=>(hs.rel t).ext hs.heap c.drew_ext,Cx.drew_rel hs.heap⟩;rw [Array.length_toList] at this;exact this
end
section
variable {P:Program} {ρ:Operand->AV} {H H':AH}
structure MethT (P:Program) (t:TypeId) (name:String) (g:FuncId) (off:Nat):Prop where
 ex:∃ i m e,P.info? t=some i/\i.methods.find? (·.name==name)=some m/\m.func=some (g,true)/\P.underlying t=some (.pointer e) /\
  ((m.path.toList=[]/\off=0)\/∃ s k fs fl u,m.path.toList=[⟨s,k,true⟩]/\P.underlying s=some (.struct fs)/\fs[k]? = some fl/\P.cellsOf fl.type≠0/\(P.info? fl.type).isSome=true/\fl.offset=off/\P.underlying fl.type=some u/\(∀ e,u ≠ .pointer e))
def Kn (P:Program) (t:TypeId) (name:String) (g:FuncId) (off:Nat):Bool:=
 match P.info? t,P.underlying t with
 | some i,some (.pointer _)=>(match i.methods.find? (·.name==name) with
  | some m=>m.func==some (g,true)&&(match m.path.toList with
   | []=>off==0
   | [⟨s,k,true⟩]=>(match P.underlying s with
    | some (.struct fs)=>(match fs[k]? with
     | some fl=>P.cellsOf fl.type != 0&&(P.info? fl.type).isSome&&fl.offset==off&&(match P.underlying fl.type with
      | some (.pointer _) | none=>false
      | some _=>true)
     | none=>false)
    | _=>false)
   | _=>false)
  | none=>false)
 | _,_=>false
theorem MethT.of {t:TypeId} {name:String} {g off:Nat} (h:Kn P t name g off=true):MethT P t name g off:=by
 unfold Kn at h
 split at h
 ·rename_i i e hi hu
  split at h
  ·rename_i m hm;simp only [bae,beq_iff_eq] at h;obtain ⟨hf,h⟩:=h;refine ⟨i,m,e,hi,hm,hf,hu,?_⟩
   split at h
   ·rename_i hp;exact .inl ⟨hp,by simpa using h⟩
   ·rename_i s k hp
    split at h
    ·rename_i fs hs
     split at h
     ·rename_i fl hfl;simp only [bae,beq_iff_eq,bne_iff_ne,ne_eq] at h;obtain ⟨⟨⟨h1,h2⟩,h3⟩,h4⟩:=h
      cases hfu:P.underlying fl.type with
      | none=>rw [hfu] at h4;cases h4
      | some u=>exact .inr ⟨s,k,fs,fl,u,hp,hs,hfl,h1,h2,h3,hfu,fun e' he=>by subst he;rw [hfu] at h4;cases h4⟩
     ·cases h
    ·cases h
   ·cases h
  ·cases h
 ·cases h
def L8 (off:Nat):AV->AV
 | .fp row j => .fp row (j+off)
 | .hp b v s i j => .hp b v s i (j+off)
 | a=>a
theorem Ex {t:TypeId} {name:String} {g off:Nat} (hm:MethT P t name g off) (w:World) (n:Nat) {g0:Nat} {o0:Nat} (v:Value) (hv:v = .pointer (some ⟨g0,o0,none⟩)):(method (n+1) t v name).run P w = .ok (g,.pointer (some ⟨g0,o0+off,none⟩)) w:=by
 obtain ⟨i,m,e,hi,hf,hg,hu,hp⟩:=hm.ex;have e1:(typeInfo t).run P w = .ok i w:=run_typeInfo w hi;rcases hp with ⟨hp,rfl⟩ | ⟨s,k,fs,fl,u,hp,hs,hk,hc,_,rfl,hfu,hne⟩
 ·simp only [method,Sem.run_bind,e1,Result.andThen_ok,hf,hp,follow,Sem.run_pure,hg,receiverAt,av hu,Place.get,hv,Nat.add_zero]
 ·obtain ⟨i2,hi2⟩:=vX hc
  have e2 : (receiverAt fl.type (.var ⟨g0,o0 + fl.offset,none⟩) true (if m.path.isEmpty then some ((name.splitOn ".").getLastD name) else none)).run P w = .ok (.pointer (some ⟨g0,o0 + fl.offset,none⟩)) w := by
   unfold receiverAt;simp only [Sem.run_bind,av hfu,Result.andThen_ok]
   cases u <;> first | rfl | exact absurd rfl (hne _)
  simp only [method,Sem.run_bind,e1,Result.andThen_ok,hf,hp,follow,Sem.run_pure,hg,av hs,hk,Place.get,hv,asAddr,fieldPlace,run_sizeOf w hi2,hc,if_false,if_true,add0,e2]
theorem Ac {t:TypeId} {name:String} {g off:Nat} (hm:MethT P t name g off) (hcl:ic P g=true) (w:World) {g0 o0:Nat} (args:Array Value) :
  (callMethod (.iface t (.pointer (some ⟨g0,o0,none⟩))) name args).run P w = .ok (.enter g (#[.pointer (some ⟨g0,o0+off,none⟩)]++args)) w:=by
 have h0:0<Made.depth:=by decide
 obtain ⟨n,hn⟩:∃ n,P.types.size+Made.depth=n+1:=⟨P.types.size+Made.depth-1,by omega⟩;have h1:=Ex hm w n (g0:=g0) (o0:=o0) _ rfl;have h2:=tP hcl (#[.pointer (some ⟨g0,o0+off,none⟩)]++args) w;have hp:(program:Sem Program).run P w = .ok P w:=rfl;simp only [callMethod,Sem.run_bind,hp,Result.andThen_ok,hn,h1];exact h2
theorem Ey {o:Oper} {cl:Call} {x:Operand} {name:String} {t:TypeId} {row:List AV} {j:Nat} {g:FuncId} {off:Nat} {r:AV} (ho:o.op = .call cl) (hc:cl.callee = .invoke x name) (hx:ρ x = .ifc t (.fp row j)) (hm:MethT P t name g off)
  (h:dz P g (.fp row (j+off)::cl.args.toList.map ρ) H r H'):L9 P o ρ H r H':=by
 intro c a K Q hH hr hxs hK;have hf1:=hx ▸ hxs x (by rw [ho];simp [Op.operands,Call.operands,hc]);obtain ⟨y,he,hrel⟩:=wW hf1;have hfp:=sO hrel;have key:∃ g0 o0,y = .pointer (some ⟨g0,o0,none⟩)/\c.rel (.fp row (j+off)) (.pointer (some ⟨g0,o0+off,none⟩)):=by
  cases hfp with
  | fp us hg hlt hu h1 h=>
   refine ⟨_,_,rfl,?_⟩;rw [Nat.add_assoc];exact .fr (.fp us hg hlt hu h1 h)
 obtain ⟨g0,o0,hy,hrec⟩:=key;have hargs:BX c (.fp row (j+off)::cl.args.toList.map ρ) (#[.pointer (some ⟨g0,o0+off,none⟩)]++cl.args.map a.eval):=by
  refine ⟨by simp;omega,fun i q v hq hv=>?_⟩
  match i with
  | 0=>
   simp only [List.getElem?_cons_zero,sie] at hq;have : (#[Value.pointer (some ⟨g0,o0+off,none⟩)]++cl.args.map a.eval)[0]? = some (Value.pointer (some ⟨g0,o0+off,none⟩)):=by
    rw [Array.getElem?_append_left (show 0<1 by decide)]
    rfl
   rw [this] at hv;injection hv with hv;subst hq hv;exact hrec
  | i+1=>
   simp only [List.getElem?_cons_succ,List.getElem?_map,Array.getElem?_toList] at hq;have e:(#[Value.pointer (some ⟨g0,o0+off,none⟩)]++cl.args.map a.eval)[i+1]? = (cl.args.map a.eval)[i]? := by
    rw [Array.getElem?_append_right (by simp)];simp
   rw [e,Array.getElem?_map] at hv
   cases ha:cl.args[i]? with
   | none=>rw [ha] at hq;cases hq
   | some z=>
    rw [ha] at hq hv;injection hq with hq;injection hv with hv;subst hq hv;refine hxs z ?_;rw [ho];have hz:=Array.mem_of_getElem? ha;simp [Op.operands,Call.operands,hz]
 have hrun:(execOp a.eval o).run P c.w = .ok (.enter g (#[.pointer (some ⟨g0,o0+off,none⟩)]++cl.args.map a.eval)) c.w:=by
  have h3:=Ac hm h.1 c.w (g0:=g0) (o0:=o0) (cl.args.map a.eval);rw [execOp,ho];simp only [resolve,hc,he,hy,Sem.run_bind,Sem.run_pure,Result.andThen_ok,invoke];have e1:((#[Value.iface t (.pointer (some ⟨g0,o0,none⟩))]++cl.args.map a.eval)[0]? : Option Value)=some (Value.iface t (.pointer (some ⟨g0,o0,none⟩))):=by
   rw [Array.getElem?_append_left (show 0<1 by decide)]
   rfl
  have e2:(#[Value.iface t (.pointer (some ⟨g0,o0,none⟩))]++cl.args.map a.eval).extract 1 (#[Value.iface t (.pointer (some ⟨g0,o0,none⟩))]++cl.args.map a.eval).size=cl.args.map a.eval:=by
   apply Array.ext';simp;exact List.take_of_length_le (by simp)
  rw [e1,e2];exact h3
 unfold Oper.wp;rw [hrun,Oper.upon_enter];refine (h.2 c _ hH hr hargs).mono fun e w' ⟨v,c',he,hw,hH',hr',hx,hv⟩ => ?_;subst he hw;exact hK v c' hH' hr' hx hv
end
structure A3 (α:Type) where
 x0:α
 x1:α
 x2:α
section
variable {α:Type}
instance [Inhabited α]:Inhabited (A3 α):=⟨⟨default,default,default⟩⟩
def A3.get (a:A3 α) (q:Int):α:=if q=0 then a.x0 else if q=1 then a.x1 else a.x2
def A3.set (a:A3 α) (q:Int) (v:α):A3 α:=if q=0 then ⟨v,a.x1,a.x2⟩ else if q=1 then ⟨a.x0,v,a.x2⟩ else ⟨a.x0,a.x1,v⟩
theorem FQ {P:Int->Prop} {q:Int} (g:0<=q/\q<3) (h0:P 0) (h1:P 1) (h2:P 2):P q:=by
 have h:q=0\/q=1\/q=2:=by omega
 rcases h with rfl | rfl | rfl
 ·exact h0
 ·exact h1
 ·exact h2
def ifO (t:TypeId) (c:α->List AV):Option α->AV
 | some x => .ifc t (.fp (c x) 0)
 | none => .v .nilIface
theorem DT [Inhabited α] {t:TypeId} {c:α->List AV} {o:Option α} (h:o.isSome=true):ifO t c o = .ifc t (.fp (c (o.getD default)) 0):=by
 cases o with
 | none=>cases h
 | some x=>rfl
end
section
variable {P:Program} {ρ:Operand->AV} {H H':AH} {x y:Operand} {t e:TypeId}
theorem Mc.ixafp {ag:Bool} {n w:Nat} {row:List AV} {j:Nat} {k:IntKind} {q:Int} (hu:P.underlying t=some (.array n e)) (ty:TyF P e ag w) (hx:ρ x = .fp row j) (hy:ρ y = .v (.int k q)) (hq:0<=q/\q<n):Mc P ρ (.indexAddr t x y) (.fp row (j+q.toNat*w)) := .mk fun K hK=>by
 show gu P t (ρ x) (ρ y) K;simp only [gu,hu,hx,hy,ty.cells];exact ⟨hq,Ck.intro ty.info hK⟩
theorem Mc.ixahp {ag:Bool} {n w:Nat} {b ver s i j:Nat} {k:IntKind} {q:Int} (hu:P.underlying t=some (.array n e)) (ty:TyF P e ag w) (hx:ρ x = .hp b ver s i j) (hy:ρ y = .v (.int k q)) (hq:0<=q/\q<n):Mc P ρ (.indexAddr t x y) (.hp b ver s i (j+q.toNat*w)) := .mk fun K hK=>by
 show gu P t (ρ x) (ρ y) K;simp only [gu,hu,hx,hy,ty.cells];exact ⟨hq,Ck.intro ty.info hK⟩
theorem Mc.ixag {ag:Bool} {n w:Nat} {cs:List AV} {k:IntKind} {q:Int} (a:AV) (hu:P.underlying t=some (.array n e)) (ty:TyF P e ag w) (hx:ρ x = .agg cs) (hy:ρ y = .v (.int k q)) (hq:0<=q/\q<n) (hp:nL ag w cs (q.toNat*w)=some a):Mc P ρ (.index t x y) a := .mk fun K hK=>by
 show yQ P t (ρ x) (ρ y) K;simp only [yQ,hu,hx,hy,ty.cells];exact ⟨hq,Ck.intro ty.info (yK ty hp hK)⟩
theorem Mc.mkifc {u:TypeDesc} (a:AV) (hu:P.underlying t=some u) (hn:∀ m,u ≠ .interface m) (hx:ρ x=a):Mc P ρ (.makeInterface t x) (.ifc t a) := .mk fun K hK=>by
 show wU P ρ (.makeInterface t x) K;simp only [wU,hu,hx]
 cases u <;> first | exact absurd rfl (hn _) | (rw [AV.force_iff];exact hK)
end
def up (m:Nat) (gh:NG):NG:=fun i=>((gh i).1,(gh i).2.1+m,(gh i).2.2)
section
variable {α:Type}
def Me (m:Nat) (gh:NG) (w:Nat) (l:List (List α)):List (List AV):=cg (up m gh) w l
theorem zn {m:Nat} {gh:NG} {w:Nat} {l:List (List α)} {i:Nat} (h:i<l.length):(Me m gh w l)[i]? = some [hS (gh i).1 ((gh i).2.1+m) (gh i).2.2 w (l.getD i []).length]:=cA h
theorem I2 (m:Nat) (gh:NG) (i:Nat) (g:Bool) (k v:Nat):(up m gh).put i (g,k+m,v)=up m (gh.put i (g,k,v)):=by
 funext j
 show (bif Nat.beq j i then (g,k+m,v) else ((gh j).1,(gh j).2.1+m,(gh j).2.2))=((bif Nat.beq j i then (g,k,v) else gh j).1,(bif Nat.beq j i then (g,k,v) else gh j).2.1+m,(bif Nat.beq j i then (g,k,v) else gh j).2.2)
 cases Nat.beq j i <;> rfl
theorem Ju {m:Nat} {gh:NG} {w:Nat} {l:List (List α)} {i:Nat} {g:Bool} {k v:Nat} {r:List α} (h:i<l.length):(Me m gh w l).set i [hS g (k+m) v w r.length]=Me m (gh.put i (g,k,v)) w (l.set i r):=by
 unfold Me;rw [rq h,I2]
theorem Ic {m:Nat} {gh:NG} {w:Nat} {l:List (List α)} {g:Bool} {k v:Nat} {r:List α}:Me m gh w l++[[hS g (k+m) v w r.length]]=Me m (gh.put l.length (g,k,v)) w (l++[r]):=by
 unfold Me;rw [xd,I2]
theorem Jv (m w n:Nat):List.replicate n [AV.nil]=Me m (fun i=>(true,i,0)) w (List.replicate n ([]:List α)):=by
 apply List.ext_getElem
 ·simp [Me,cg]
 ·intro i h1 h2;simp [Me,cg,BM,hS,up]
theorem lJ {m:Nat} {gh:NG} {w:Nat} {l:List (List α)}:(Me m gh w l).length=l.length:=dD _ _ _
structure NN (K:AH) (gh:NG) (w:Nat) (ty:TypeId) (f:α->List AV) (l:List (List α)):Prop where
 nk:NK 0 K gh w ty f l
 kf:KF K
variable {K:AH} {gh:NG} {w:Nat} {ty:TypeId} {f:α->List AV} {l:List (List α)}
theorem NN.at_ (h:NN K gh w ty f l) {i:Nat} (hi:i<l.length):K[(gh i).2.1]? = some (bE (gh i).1 (gh i).2.2 w ty ((l.getD i []).map f)):=(h.nk.at_ i hi).2
theorem NN.lt (h:NN K gh w ty f l) {i:Nat} (hi:i<l.length):(gh i).2.1<K.length:=(ges (h.at_ hi)).1
theorem NN.zY (h:NN K gh w ty f l) {i:Nat} (hi:i<l.length):(gh i).1=true->l.getD i []=[]:=h.nk.zY i hi
theorem KF.set {k:Nat} {x:Option ABlk} (h:KF K) (hx:∀ b,x=some b->tu b):KF (K.set k x):=fun i b hb=>by
 by_cases e:k=i
 ·subst e;have hl:=(ges hb).1;rw [List.getElem?_set_self (by simpa using hl)] at hb;exact hx b (osl hb)
 ·rw [List.getElem?_set_ne e] at hb;exact h i b hb
theorem KF.cons {x:Option ABlk} (h:KF K) (hx:∀ b,x=some b->tu b):KF (x::K):=fun i b hb=>by
 match i,hb with
 | 0,hb=>exact hx b (osl hb)
 | i+1,hb=>exact h i b hb
theorem yM {g:Bool} {v:Nat} {l:List α} (hf:∀ x,(f x).all (isF 9)=true):∀ b,bE g v w ty (l.map f)=some b->tu b:=fun b hb=>by
 cases g with
 | true=>cases hb
 | false=>
  obtain rfl:=osl hb;exact fun r hr a ha=>wz hf r hr a ha
theorem NN.set (h:NN K gh w ty f l) {i:Nat} (hi:i<l.length) {g:Bool} {ver:Nat} {r:List α} (hg:g=true->r=[]) (hf:∀ x,(f x).all (isF 9)=true):NN (K.set (gh i).2.1 (bE g ver w ty (r.map f))) (gh.put i (g,(gh i).2.1,ver)) w ty f (l.set i r):=
 ⟨h.nk.set hi hg,h.kf.set (yM hf)⟩
theorem NN.push (h:NN K gh w ty f l) {x:Option ABlk} (hx:∀ b,x=some b->tu b):NN (x::K) (up 1 gh) w ty f l:=
 ⟨⟨fun i hi=>⟨Nat.zero_le _,h.at_ hi⟩,fun i hi=>h.zY hi,fun i j hi hj hne he=>h.nk.sep i j hi hj hne (by simpa [up] using he)⟩,h.kf.cons hx⟩
theorem NN.snoc (h:NN K gh w ty f l) {g:Bool} {ver:Nat} {r:List α} (hg:g=true->r=[]) (hf:∀ x,(f x).all (isF 9)=true):NN (bE g ver w ty (r.map f)::K) ((up 1 gh).put l.length (g,0,ver)) w ty f (l++[r]):=by
 have h0:=h.push (yM (w:=w) (ty:=ty) (g:=g) (v:=ver) (l:=r) hf);refine ⟨⟨fun i hi=>⟨Nat.zero_le _,?_⟩,fun i hi hn=>?_,fun i j hi hj hne he=>?_⟩,h0.kf⟩
 ·by_cases e:i=l.length
  ·subst e;rw [fD];simp
  ·have hi':i<l.length:=by simp at hi;omega
   rw [bO _ e,h0.at_ hi'];simp [gal hi']
 ·by_cases e:i=l.length
  ·subst e;rw [fD] at hn;simp [hg hn]
  ·have hi':i<l.length:=by simp at hi;omega
   rw [bO _ e] at hn;have := h0.zY hi' hn;simpa [gal hi'] using this
 ·simp only [lla,llc,List.length_nil] at hi hj
  by_cases e:i=l.length
  ·by_cases e2:j=l.length
   ·exact hne (e.trans e2.symm)
   ·subst e;rw [fD,bO _ e2] at he;simp [up] at he
  ·by_cases e2:j=l.length
   ·subst e2;rw [fD,bO _ e] at he;simp [up] at he
   ·rw [bO _ e,bO _ e2] at he;exact h0.nk.sep i j (by omega) (by omega) hne he
theorem NN.nil:NN ([]:AH) gh w ty f []:=⟨⟨fun i hi=>by simp at hi,fun i hi=>by simp at hi,fun i j hi=>by simp at hi⟩,fun i k hk=>by simp at hk⟩
theorem NN.rep (n:Nat):NN (List.replicate n none) (fun i=>(true,i,0)) w ty f (List.replicate n []):=by
 refine ⟨⟨fun i hi=>⟨Nat.zero_le _,?_⟩,fun i hi _=>?_,fun i j _ _ hne=>hne⟩,fun i k hk=>?_⟩
 ·simp only [List.length_replicate] at hi;simp [hi,bE]
 ·simp only [List.length_replicate] at hi;simp [hi]
 ·have := List.mem_of_getElem? hk;rw [List.mem_replicate] at this
  cases this.2
theorem NN.fz [Inhabited α] (h:NN K gh w ty f l) (S:AH) {b ver n:Nat} {to:TypeId} (hb:(S++K)[b]? = some (bE false ver 1 to (Me S.length gh w l))) (hn:n=l.length) (hf:∀ x,(f x).all (isF 9)=true):Fz 0 (S++K) (hS false b ver 1 n) (eL (cL f) l):=by
 have hk:NK 0 (S++K) (up S.length gh) w ty f l:=⟨fun i hi=>⟨Nat.zero_le _,by
  show (S++K)[(gh i).2.1+S.length]? = _;rw [gar (by omega),Nat.add_sub_cancel];exact h.at_ hi⟩,fun i hi=>h.zY hi,fun i j hi hj hne he=>h.nk.sep i j hi hj hne (by simpa [up] using he)⟩
 exact hk.fz hb hn hf
end
def Mf (m N:Nat) (i j:Nat):Prop:=(i<m/\j=i)\/(m<=i/\i<N+m/\j=i+1)\/(i=N+m/\j=m)
theorem Mf.low {m N i:Nat} (h:Nat.blt i m=true):Mf m N i i := .inl ⟨nlb h,rfl⟩
theorem Mf.up {m N k:Nat} (h:k<N):Mf m N (k+m) (k+(m+1)) := .inr (.inl ⟨by omega,by omega,rfl⟩)
theorem Mf.new {m N:Nat}:Mf m N (N+m) m := .inr (.inr ⟨rfl,rfl⟩)
inductive RenHL (S:Nat->Nat->Prop):AH->AH->Prop
 | nil:RenHL S [] []
 | none {l l':AH} (t:RenHL S l l'):RenHL S (none::l) (none::l')
 | some {k k':ABlk} {l l':AH} (h:RenK S k k') (t:RenHL S l l'):RenHL S (some k::l) (some k'::l')
theorem RenHL.bE {S:Nat->Nat->Prop} {α:Type} {g:Bool} {v w:Nat} {ty:TypeId} {f:α->List AV} {x:List α} {l l':AH} (hf:∀ x,(f x).all (isF 9)=true) (t:RenHL S l l'):RenHL S (bE g v w ty (x.map f)::l) (Go.Proofs.YtcmimhffgmckjaaGreatDoor.bE g v w ty (x.map f)::l'):=by
 cases g with
 | true=>exact .none t
 | false=>exact .some (.ofF fun r hr a ha=>wz hf r hr a ha) t
theorem RenHL.spec {S:Nat->Nat->Prop} {l l':AH} (h:RenHL S l l'):l.length=l'.length/\(∀ (i:Nat) (k:ABlk),l[i]? = Option.some (Option.some k)->∃ k',l'[i]? = Option.some (Option.some k')/\RenK S k k')/\∀ (i:Nat) (k':ABlk),l'[i]? = Option.some (Option.some k')->∃ k,l[i]? = Option.some (Option.some k)/\RenK S k k':=by
 induction h with
 | nil=>exact ⟨rfl,fun i k hk=>by simp at hk,fun i k hk=>by simp at hk⟩
 | none t ih=>
  refine ⟨by simp [ih.1],fun i k hk=>?_,fun i k hk=>?_⟩
  ·match i,hk with
   | i+1,hk=>exact ih.2.1 i k hk
  ·match i,hk with
   | i+1,hk=>exact ih.2.2 i k hk
 | some h t ih=>
  refine ⟨by simp [ih.1],fun i k hk=>?_,fun i k hk=>?_⟩
  ·match i,hk with
   | 0,hk=>
    obtain rfl:=osl (osl hk);exact ⟨_,rfl,h⟩
   | i+1,hk=>exact ih.2.1 i k hk
  ·match i,hk with
   | 0,hk=>
    obtain rfl:=osl (osl hk);exact ⟨_,rfl,h⟩
   | i+1,hk=>exact ih.2.2 i k hk
theorem Reid.rot {b0 m N:Nat} {S S' K:AH} {x x':Option ABlk} (hm:S.length=m) (hN:K.length=N) (hb:Nat.ble b0 m=true) (hS:RenHL (Mf m N) S S') (hK:KF K) (hx:RenHL (Mf m N) [x] [x']):Reid b0 (Mf m N) (S++K++[x]) (S'++x'::K):=by
 have hb:=nlb hb;obtain ⟨h1,h2,h3⟩:=hS.spec;obtain ⟨_,h5,h6⟩:=hx.spec;have hm':S'.length=m:=h1.symm.trans hm;have a1:∀ i,i<m->(S++K++[x])[i]? = S[i]? := fun i hi=>by rw [List.append_assoc,gal (by omega)]
 have a2:∀ k,k<N->(S++K++[x])[k+m]? = K[k]? := fun k hk=>by
  rw [List.append_assoc,gar (by omega),gal (by omega)]
  congr 1
  omega
 have a3:(S++K++[x])[N+m]? = some x:=by
  rw [List.append_assoc,gar (by omega),gar (by omega)];have : N+m-S.length-K.length=0:=by omega
  rw [this]
  rfl
 have c1:∀ i,i<m->(S'++x'::K)[i]? = S'[i]? := fun i hi=>gal (by omega);have c2:(S'++x'::K)[m]? = some x':=by
  rw [gar (by omega)];have : m-S'.length=0:=by omega
  rw [this]
  rfl
 have c3:∀ k,(S'++x'::K)[k+m+1]? = K[k]? := fun k=>by
  rw [gar (by omega)];have : k+m+1-S'.length=k+1:=by omega
  rw [this]
  rfl
 refine ⟨fun i j j' e1 e2=>?_,fun i i' j e1 e2=>?_,fun i hi => .inl ⟨by omega,rfl⟩,by simp;omega,fun j k0 hk=>?_,fun i j k hS hk=>?_⟩
 ·rcases e1 with ⟨_,rfl⟩ | ⟨_,_,rfl⟩ | ⟨_,rfl⟩ <;> rcases e2 with ⟨_,rfl⟩ | ⟨_,_,rfl⟩ | ⟨_,rfl⟩ <;> omega
 ·rcases e1 with ⟨_,e1⟩ | ⟨_,_,e1⟩ | ⟨_,e1⟩ <;> rcases e2 with ⟨_,e2⟩ | ⟨_,_,e2⟩ | ⟨_,e2⟩ <;> omega
 ·rcases Nat.lt_trichotomy j m with hj | hj | hj
  ·rw [c1 j hj] at hk;obtain ⟨k,g1,g2⟩:=h3 j k0 hk;exact ⟨j,k,.inl ⟨hj,rfl⟩,by rw [a1 j hj];exact g1,g2⟩
  ·subst hj;rw [c2] at hk;obtain rfl:=osl hk;obtain ⟨k,g1,g2⟩:=h6 0 k0 rfl;obtain rfl:=osl g1;exact ⟨_,k,.new,a3,g2⟩
  ·obtain ⟨q,rfl⟩:∃ q,j=q+m+1:=⟨j-m-1,by omega⟩;rw [c3 q] at hk;have hq:q<N:=by rw [<- hN];exact (ges hk).1
   exact ⟨q+m,k0,.inr (.inl ⟨by omega,by omega,rfl⟩),by rw [a2 q hq];exact hk,.ofF (hK q k0 hk)⟩
 ·rcases hS with ⟨e1,rfl⟩ | ⟨e1,e2,rfl⟩ | ⟨rfl,rfl⟩
  ·rw [a1 _ e1] at hk;obtain ⟨k',g1,_⟩:=h2 _ k hk;exact ⟨k',by rw [c1 _ e1];exact g1⟩
  ·obtain ⟨q,rfl⟩:∃ q,i=q+m:=⟨i-m,by omega⟩;rw [a2 q (by omega)] at hk;exact ⟨k,by rw [c3 q];exact hk⟩
  ·rw [a3] at hk;obtain rfl:=osl hk;obtain ⟨k',g1,_⟩:=h5 0 k rfl;obtain rfl:=osl g1;exact ⟨k',c2⟩
theorem aS {S:Nat->Nat->Prop} {g:Bool} {i j v w n:Nat} (h:S i j):Ren S (hS g i v w n) (hS g j v w n):=by
 cases g with
 | true=>exact .nil
 | false=>exact .hs h
theorem NN.renK {α:Type} {K:AH} {gh:NG} {w ver m N:Nat} {ty to:TypeId} {f:α->List AV} {l:List (List α)} (h:NN K gh w ty f l) (hN:K.length=N):RenK (Mf m N) ⟨ver,1,to,Me m gh w l⟩ ⟨ver,1,to,Me (m+1) gh w l⟩:=by
 refine ⟨rfl,rfl,rfl,by simp [lJ],fun i r r' hr hr' => ?_⟩;have hi:i<l.length:=by
  have := (ges hr).1
  rwa [lJ] at this
 rw [zn hi] at hr hr';obtain rfl:=osl hr;obtain rfl:=osl hr';refine ⟨rfl,fun j a a' ha ha' => ?_⟩
 match j with
 | 0=>
  obtain rfl:=osl ha;obtain rfl:=osl ha';exact aS (.up (by rw [<- hN];exact h.lt hi))
 | j+1=>simp at ha
theorem iL {S:Nat->Nat->Prop} {e:Env}:∀ t,Ren S (e t) (au [] t):=fun _ => .top
theorem aB {S:Nat->Nat->Prop} {e:Env} {t:Nat} {a a0:AV} {l:List (Nat×AV)} (he:e t=a0) (h:Ren S a0 a) (w:∀ q,Ren S (e q) (au l q)):∀ q,Ren S (e q) (au ((t,a)::l) q):=by
 intro q;rcases wX t a l q with ⟨rfl,h1⟩ | h1
 ·rw [h1,he];exact h
 ·rw [h1];exact w q
theorem aT {S:Nat->Nat->Prop} {e:Env} {t:Nat} {a:AV} {l:List (Nat×AV)} (he:e t=a) (h:isF 9 a=true) (w:∀ q,Ren S (e q) (au l q)):∀ q,Ren S (e q) (au ((t,a)::l) q):=aB he (ax 9 a h) w
theorem Ay {c:Cx} {row row2:List AV} {j n:Nat} {v:Value} (hs:(row.drop j).take n=row2) (h:c.rel (.fp row j) v):c.rel (.fp row2 0) v:=by
 have h:=sO h
 cases h with
 | @fp _ _ g o us hg hlt hu h1 hr=>
  subst hs;have key:∀ (q:Nat) (a:AV),((row.drop j).take n)[q]? = some a->row[j+q]? = some a:=fun q a hq=>by
   rw [List.getElem?_take] at hq
   split at hq
   ·rwa [List.getElem?_drop] at hq
   ·cases hq
  exact .fr (.fp (g:=g) (o:=o+j) (j:=0) (fun q=>us (j+q)) hg hlt (fun q a hq=>by rw [Nat.add_assoc];exact hu _ _ (key q a hq)) (fun q a hq=>h1 _ _ (key q a hq)) (fun q a hq=>hr _ _ (key q a hq)))
section
variable {P:Program} {ρ:Operand->AV} {H H':AH} {x y:Operand} {t e:TypeId}
theorem Mc.fafpS (n:Nat) {fs:Array Field} {f:Nat} {fl:Field} {row row2:List AV} {j:Nat} (hu:P.underlying t=some (.struct fs)) (hf:fs[f]? = some fl) (hc:(P.cellsOf fl.type != 0)=true) (hx:ρ x = .fp row j) (hs:(row.drop (j+fl.offset)).take n=row2):Mc P ρ (.fieldAddr t x f) (.fp row2 0):=
 (Mc.fafp hu hf hc hx).res fun _ _ h=>Ay hs h
theorem dz.argw {g:FuncId} {as' as2:List AV} {r:AV} (h:dz P g as2 H r H') (hl:as2.length=as'.length) (hw:∀ c:Cx,∀ (i:Nat) (a b:AV) (v:Value),as'[i]? = some a->as2[i]? = some b->c.rel a v->c.rel b v):dz P g as' H r H':=
 ⟨h.1,fun c vs hH hr hall=>h.2 c vs hH hr ⟨by rw [hall.1,hl],fun i q v hq hv=>by
  obtain ⟨a,ha⟩:=bD hl hq;exact hw c i a q v ha hq (hall.2 i a v ha hv)⟩⟩
theorem Mc.invS (n:Nat) {cl:Call} {name:String} {t:TypeId} {row row2:List AV} {j:Nat} {g:FuncId} {off:Nat} {ars:List AV} {r:AV} (hc:cl.callee = .invoke x name) (hx:ρ x = .ifc t (.fp row j)) (hm:MethT P t name g off) (ha:cl.args.toList.map ρ=ars)
  (hs:(row.drop (j+off)).take n=row2) (h:aA P g (.fp row2 0::ars) r) (hF:ars.all (isF 9)=true):Mc P ρ (.call cl) r:=fun o ho G=>by
 subst ha;refine Ey ho hc hx hm ((h.acall ?_ G).argw rfl fun c i a b v h1 h2 hr=>?_)
 ·simp only [List.all_cons,hF,Bool.and_true]
  rfl
 ·match i with
  | 0=>
   obtain rfl:=osl h1;obtain rfl:=osl h2;exact Ay hs hr
  | i+1=>
   simp only [List.getElem?_cons_succ] at h1 h2;rw [h1] at h2;obtain rfl:=osl h2;exact hr
variable {nt b0:Nat} {Q:Exit->Env->AH->Prop} {en:Env} {ops:Array Oper}
theorem TO.reserve {l:List Oper} (h:TO P nt b0 ops l Q en (H++[none])):TO P nt b0 ops l Q en H:=by
 intro hd k hl hn c c0 a hH hb hx hr;subst hH;exact h hd k hl hn c.res c0 a rfl hb (hx.trans c.res_ext) ⟨hr.size,hr.defers,fun t=>(hr.rel t).ext hr.heap c.res_ext,Cx.res_heap hr.heap⟩
theorem TO.reserveN {l:List Oper}:∀ (n:Nat) {H:AH},TO P nt b0 ops l Q en (H++List.replicate n none)->TO P nt b0 ops l Q en H
 | 0,H,h=>by simpa using h
 | n+1,H,h=>by
  refine TO.reserve (TO.reserveN n ?_);rw [List.append_assoc];exact h
end
inductive RenRows (S:Nat->Nat->Prop):List (List AV)->List (List AV)->Prop
 | nil:RenRows S [] []
 | cons {a b:List AV} {l k:List (List AV)} (h:RenL S a b) (t:RenRows S l k):RenRows S (a::l) (b::k)
theorem RenRows.spec {S:Nat->Nat->Prop} {l k:List (List AV)} (h:RenRows S l k):l.length=k.length/\∀ (i:Nat) (c d:List AV),l[i]? = some c->k[i]? = some d->RenL S c d:=by
 induction h with
 | nil=>exact ⟨rfl,fun i c d hc=>by simp at hc⟩
 | cons h t ih=>
  refine ⟨by simp [ih.1],fun i c d hc hd=>?_⟩
  match i,hc,hd with
  | 0,hc,hd=>
   obtain rfl:=osl hc;obtain rfl:=osl hd;exact h
  | i+1,hc,hd=>exact ih.2 i c d hc hd
theorem RenK.rowsL {S:Nat->Nat->Prop} {v s:Nat} {ty:TypeId} {r r':List (List AV)} (h:RenRows S r r'):RenK S ⟨v,s,ty,r⟩ ⟨v,s,ty,r'⟩:=
 ⟨rfl,rfl,rfl,h.spec.1,fun i a b ha hb=>(h.spec.2 i a b ha hb).spec⟩
theorem RenK.rowL {S:Nat->Nat->Prop} {v s:Nat} {ty:TypeId} {r r':List AV} (h:RenL S r r'):RenK S ⟨v,s,ty,[r]⟩ ⟨v,s,ty,[r']⟩ := .rowsL (.cons h .nil)
section
variable {α:Type} {K:AH} {gh:NG} {w:Nat} {ty:TypeId} {f:α->List AV} {l:List (List α)}
theorem RenHL.nest {S:Nat->Nat->Prop} {g:Bool} {ver s:Nat} {to:TypeId} {rows rows':List (List AV)} {H H':AH} (h:RenK S ⟨ver,s,to,rows⟩ ⟨ver,s,to,rows'⟩) (t:RenHL S H H'):RenHL S (Go.Proofs.YtcmimhffgmckjaaGreatDoor.bE g ver s to rows::H) (Go.Proofs.YtcmimhffgmckjaaGreatDoor.bE g ver s to rows'::H'):=by
 cases g with
 | true=>exact .none t
 | false=>exact .some h t
theorem NN.lit (L:List (List α)) (hf:∀ x,(f x).all (isF 9)=true):NN (L.map fun r=>bE false 0 w ty (r.map f)) (fun i=>(false,i,0)) w ty f L:=by
 refine ⟨⟨fun i hi=>⟨Nat.zero_le _,?_⟩,fun i hi hn=>(by cases hn),fun i j _ _ hne=>hne⟩,fun i k hk=>?_⟩
 ·simp [hi]
 ·rw [List.getElem?_map] at hk
  cases hL:L[i]? with
  | none=>rw [hL] at hk;cases hk
  | some r=>
   rw [hL] at hk;exact yM hf k (osl hk)
def Tk (a:Nat) (i j:Nat):Prop:=(i<=a/\j=i)\/(a+2<=i/\j+1=i)
theorem Tk.low {a i:Nat} (h:Nat.ble i a=true):Tk a i i := .inl ⟨nlb h,rfl⟩
theorem Tk.up {a k:Nat}:Tk a (k+(a+2)) (k+1+a) := .inr ⟨by omega,by omega⟩
theorem Reid.take {b0 a:Nat} {S S' K:AH} {x2 x2' x3:Option ABlk} (hm:S.length=a) (hb:Nat.ble b0 a=true) (hS:RenHL (Tk a) S S') (hK:KF K) (hx:RenHL (Tk a) [x2] [x2']):Reid b0 (Tk a) (S++x2::x3::K) (S'++x2'::K):=by
 have hb:=nlb hb;obtain ⟨h1,h2,h3⟩:=hS.spec;obtain ⟨_,h5,h6⟩:=hx.spec;have hm':S'.length=a:=h1.symm.trans hm;have a1:∀ i,i<a->(S++x2::x3::K)[i]? = S[i]? := fun i hi=>gal (by omega);have a2:(S++x2::x3::K)[a]? = some x2:=by
  rw [gar (by omega)];have : a-S.length=0:=by omega
  rw [this]
  rfl
 have a3:∀ k,(S++x2::x3::K)[k+a+2]? = K[k]? := fun k=>by
  rw [gar (by omega)];have : k+a+2-S.length=k+1+1:=by omega
  rw [this]
  rfl
 have c1:∀ i,i<a->(S'++x2'::K)[i]? = S'[i]? := fun i hi=>gal (by omega);have c2:(S'++x2'::K)[a]? = some x2':=by
  rw [gar (by omega)];have : a-S'.length=0:=by omega
  rw [this]
  rfl
 have c3:∀ k,(S'++x2'::K)[k+a+1]? = K[k]? := fun k=>by
  rw [gar (by omega)];have : k+a+1-S'.length=k+1:=by omega
  rw [this]
  rfl
 refine ⟨fun i j j' e1 e2=>?_,fun i i' j e1 e2=>?_,fun i hi => .inl ⟨by omega,rfl⟩,by simp;omega,fun j k0 hk=>?_,fun i j k hS hk=>?_⟩
 ·rcases e1 with ⟨_,rfl⟩ | ⟨_,e1⟩ <;> rcases e2 with ⟨_,rfl⟩ | ⟨_,e2⟩ <;> omega
 ·rcases e1 with ⟨_,e1⟩ | ⟨_,e1⟩ <;> rcases e2 with ⟨_,e2⟩ | ⟨_,e2⟩ <;> omega
 ·rcases Nat.lt_trichotomy j a with hj | hj | hj
  ·rw [c1 j hj] at hk;obtain ⟨k,g1,g2⟩:=h3 j k0 hk;exact ⟨j,k,.inl ⟨by omega,rfl⟩,by rw [a1 j hj];exact g1,g2⟩
  ·subst hj;rw [c2] at hk;obtain rfl:=osl hk;obtain ⟨k,g1,g2⟩:=h6 0 k0 rfl;obtain rfl:=osl g1;exact ⟨_,k,.inl ⟨by omega,rfl⟩,a2,g2⟩
  ·obtain ⟨q,rfl⟩:∃ q,j=q+a+1:=⟨j-a-1,by omega⟩;rw [c3 q] at hk;exact ⟨q+a+2,k0,.inr ⟨by omega,by omega⟩,by rw [a3 q];exact hk,.ofF (hK q k0 hk)⟩
 ·rcases hS with ⟨e1,rfl⟩ | ⟨e1,e2⟩
  ·rcases Nat.lt_or_ge j a with hj | hj
   ·rw [a1 _ hj] at hk;obtain ⟨k',g1,_⟩:=h2 _ k hk;exact ⟨k',by rw [c1 _ hj];exact g1⟩
   ·obtain rfl:j=a:=by omega
    rw [a2] at hk;obtain rfl:=osl hk;obtain ⟨k',g1,_⟩:=h5 0 k rfl;obtain rfl:=osl g1;exact ⟨k',c2⟩
  ·obtain ⟨q,rfl⟩:∃ q,i=q+a+2:=⟨i-a-2,by omega⟩;obtain rfl:j=q+a+1:=by omega
   rw [a3 q] at hk;exact ⟨k,by rw [c3 q];exact hk⟩
theorem NN.renTk {a ver v:Nat} {to:TypeId} {r:List α}:RenK (Tk a) ⟨ver,1,to,Me (a+2) gh w l++[[hS false a v w r.length]]⟩ ⟨ver,1,to,Me a ((up 1 gh).put l.length (false,0,v)) w (l++[r])⟩:=by
 have e:Me a ((up 1 gh).put l.length (false,0,v)) w (l++[r])=Me a (up 1 gh) w l++[[hS false (0+a) v w r.length]]:=Ic.symm;rw [e];refine ⟨rfl,rfl,rfl,by simp [lJ],fun i q q' hq hq' => ?_⟩
 by_cases hi:i<l.length
 ·rw [gal (by rw [lJ];exact hi),zn hi] at hq hq';obtain rfl:=osl hq;obtain rfl:=osl hq';refine ⟨rfl,fun j c d hc hd=>?_⟩
  match j with
  | 0=>
   obtain rfl:=osl hc;obtain rfl:=osl hd;exact aS .up
  | j+1=>simp at hc
 ·rw [gar (by rw [lJ];omega),lJ] at hq hq'
  by_cases e:i-l.length=0
  ·rw [e] at hq hq';obtain rfl:=osl hq;obtain rfl:=osl hq';refine ⟨rfl,fun j c d hc hd=>?_⟩
   match j with
   | 0=>
    obtain rfl:=osl hc;obtain rfl:=osl hd;exact aS (.inl ⟨Nat.le_refl _,by omega⟩)
   | j+1=>simp at hc
  ·rw [gen (by simp;omega)] at hq
   cases hq
theorem NN.fzG [Inhabited α] (h:NN K gh w ty f l) (S:AH) {g:Bool} {b ver n:Nat} {to:TypeId} (hb:(S++K)[b]? = some (bE g ver 1 to (Me S.length gh w l))) (hn:n=l.length) (hg:g=true->l=[]) (hf:∀ x,(f x).all (isF 9)=true):Fz 0 (S++K) (hS g b ver 1 n) (eL (cL f) l):=by
 cases g with
 | true=>
  rw [hg rfl];exact .nil0
 | false=>exact h.fz S hb hn hf
structure NX (K:AH) (gh:NG) (w:Nat) (ty:TypeId) (f:α->List AV) (l:List (List α)) (i:Nat):Prop where
 hi:i<l.length
 at_:∀ j,j<l.length->j≠i->K[(gh j).2.1]? = some (bE (gh j).1 (gh j).2.2 w ty ((l.getD j []).map f))
 zY:∀ j,j<l.length->j≠i->(gh j).1=true->l.getD j []=[]
 sep:∀ j k,j<l.length->k<l.length->j≠i->k≠i->j≠k->(gh j).2.1≠(gh k).2.1
 kf:KF K
theorem NN.opened (h:NN K gh w ty f l) {i:Nat} (hi:i<l.length):NX (K.set (gh i).2.1 none) gh w ty f l i:=
 ⟨hi,fun j hj hne=>by rw [List.getElem?_set_ne (h.nk.sep i j hi hj (Ne.symm hne))];exact h.at_ hj,fun j hj _=>h.zY hj,fun j k hj hk _ _ hne=>h.nk.sep j k hj hk hne,h.kf.set nofun⟩
theorem NX.close {i:Nat} (h:NX K gh w ty f l i) {g:Bool} {v:Nat} {r:List α} (hg:g=true->r=[]) (hf:∀ x,(f x).all (isF 9)=true):NN (bE g v w ty (r.map f)::K) ((up 1 gh).put i (g,0,v)) w ty f (l.set i r):=by
 refine ⟨⟨fun j hj=>⟨Nat.zero_le _,?_⟩,fun j hj hn=>?_,fun j k hj hk hne he=>?_⟩,h.kf.cons (yM hf)⟩
 ·have hj':j<l.length:=by simpa using hj
  by_cases e:j=i
  ·subst e;rw [fD];simp [hj']
  ·rw [bO _ e];have : (l.set i r).getD j []=l.getD j []:=by simp [List.getElem?_set_ne (Ne.symm e)]
   rw [this];exact h.at_ j hj' e
 ·have hj':j<l.length:=by simpa using hj
  by_cases e:j=i
  ·subst e;rw [fD] at hn;simp [hj',hg hn]
  ·rw [bO _ e] at hn;have : (l.set i r).getD j []=l.getD j []:=by simp [List.getElem?_set_ne (Ne.symm e)]
   rw [this];exact h.zY j hj' e hn
 ·have hj':j<l.length:=by simpa using hj
  have hk':k<l.length:=by simpa using hk
  by_cases e:j=i
  ·by_cases e2:k=i
   ·exact hne (e.trans e2.symm)
   ·subst e;rw [fD,bO _ e2] at he;simp [up] at he
  ·by_cases e2:k=i
   ·subst e2;rw [fD,bO _ e] at he;simp [up] at he
   ·rw [bO _ e,bO _ e2] at he;exact h.sep j k hj' hk' e e2 hne (by simpa [up] using he)
def nxs (m:Nat) (gh:NG) (w:Nat) (l:List (List α)) (i:Nat) (g:Bool) (q v n:Nat):List (List AV):=(Me m gh w l).set i [hS g q v w n]
theorem ru {m:Nat} {i:Nat} {g:Bool} {v:Nat} {r:List α} (hi:i<l.length):nxs m (up 1 gh) w l i g (0+m) v r.length=Me m ((up 1 gh).put i (g,0,v)) w (l.set i r):=Ju hi
theorem rT {m i q v n:Nat} {g:Bool} (hi:i<l.length):(nxs m gh w l i g q v n)[i]? = some [hS g q v w n]:=by
 unfold nxs;rw [List.getElem?_set_self (by rw [lJ];exact hi)]
theorem Bm {m i q v n q' v' n':Nat} {g g':Bool}:(nxs m gh w l i g q v n).set i [hS g' q' v' w n']=nxs m gh w l i g' q' v' n':=by
 unfold nxs;rw [List.set_set]
theorem Jw {m i q v n:Nat} {g:Bool}:(nxs m gh w l i g q v n).length=l.length:=by
 unfold nxs;rw [List.length_set,lJ]
def Opn (m k:Nat) (i j:Nat):Prop:=(i<m/\j=i)\/(i=k+m/\j=m)\/(m<=i/\i≠k+m/\j=i+1)
theorem Opn.low {m k i:Nat} (h:Nat.blt i m=true):Opn m k i i := .inl ⟨nlb h,rfl⟩
theorem Reid.open {b0 m:Nat} {S S' K:AH} {k:Nat} {x:Option ABlk} (hm:S.length=m) (hk:K[k]? = some x) (hb:Nat.ble b0 m=true) (hS:RenHL (Opn m k) S S') (hK:KF K):Reid b0 (Opn m k) (S++K) (S'++x::K.set k none):=by
 have hb:=nlb hb;obtain ⟨h1,h2,h3⟩:=hS.spec;have hm':S'.length=m:=h1.symm.trans hm;have hkl:=(ges hk).1;have a1:∀ i,i<m->(S++K)[i]? = S[i]? := fun i hi=>gal (by omega);have a2:∀ q,(S++K)[q+m]? = K[q]? := fun q=>by
  rw [gar (by omega)]
  congr 1
  omega
 have c1:∀ i,i<m->(S'++x::K.set k none)[i]? = S'[i]? := fun i hi=>gal (by omega);have c2:(S'++x::K.set k none)[m]? = some x:=by
  rw [gar (by omega)];have : m-S'.length=0:=by omega
  rw [this]
  rfl
 have c3:∀ q,(S'++x::K.set k none)[q+m+1]? = (K.set k none)[q]? := fun q=>by
  rw [gar (by omega)];have : q+m+1-S'.length=q+1:=by omega
  rw [this]
  rfl
 refine ⟨fun i j j' e1 e2=>?_,fun i i' j e1 e2=>?_,fun i hi => .inl ⟨by omega,rfl⟩,by simp;omega,fun j k0 hk0=>?_,fun i j k1 hS1 hk1=>?_⟩
 ·rcases e1 with ⟨_,rfl⟩ | ⟨_,rfl⟩ | ⟨_,_,rfl⟩ <;> rcases e2 with ⟨_,rfl⟩ | ⟨_,rfl⟩ | ⟨_,_,rfl⟩ <;> omega
 ·rcases e1 with ⟨_,e1⟩ | ⟨_,e1⟩ | ⟨_,_,e1⟩ <;> rcases e2 with ⟨_,e2⟩ | ⟨_,e2⟩ | ⟨_,_,e2⟩ <;> omega
 ·rcases Nat.lt_trichotomy j m with hj | hj | hj
  ·rw [c1 j hj] at hk0;obtain ⟨k1,g1,g2⟩:=h3 j k0 hk0;exact ⟨j,k1,.inl ⟨hj,rfl⟩,by rw [a1 j hj];exact g1,g2⟩
  ·subst hj;rw [c2] at hk0;obtain rfl:=osl hk0;exact ⟨k+j,k0,.inr (.inl ⟨rfl,rfl⟩),by rw [a2];exact hk,.ofF (hK k k0 hk)⟩
  ·obtain ⟨q,rfl⟩:∃ q,j=q+m+1:=⟨j-m-1,by omega⟩;rw [c3 q] at hk0;have hq:q≠k:=fun e=>by
    subst e;rw [List.getElem?_set_self hkl] at hk0
    cases hk0
   rw [List.getElem?_set_ne (Ne.symm hq)] at hk0;exact ⟨q+m,k0,.inr (.inr ⟨by omega,by omega,by omega⟩),by rw [a2];exact hk0,.ofF (hK q k0 hk0)⟩
 ·rcases hS1 with ⟨e1,rfl⟩ | ⟨rfl,rfl⟩ | ⟨e1,e2,rfl⟩
  ·rw [a1 _ e1] at hk1;obtain ⟨k',g1,_⟩:=h2 _ k1 hk1;exact ⟨k',by rw [c1 _ e1];exact g1⟩
  ·rw [a2,hk] at hk1;obtain rfl:=osl hk1;exact ⟨k1,c2⟩
  ·obtain ⟨q,rfl⟩:∃ q,i=q+m:=⟨i-m,by omega⟩;rw [a2] at hk1;exact ⟨k1,by rw [c3 q,List.getElem?_set_ne (by omega)];exact hk1⟩
theorem NN.renOpn {ver m i:Nat} {to:TypeId} (h:NN K gh w ty f l) (hi:i<l.length):RenK (Opn m (gh i).2.1) ⟨ver,1,to,Me m gh w l⟩ ⟨ver,1,to,nxs (m+1) gh w l i (gh i).1 m (gh i).2.2 (l.getD i []).length⟩:=by
 refine ⟨rfl,rfl,rfl,by rw [lJ,Jw],fun j r r' hr hr' => ?_⟩;have hj:j<l.length:=by
  have := (ges hr).1
  rwa [lJ] at this
 by_cases e:j=i
 ·subst e;rw [zn hj] at hr;rw [rT hj] at hr';obtain rfl:=osl hr;obtain rfl:=osl hr';refine ⟨rfl,fun p a a' ha ha' => ?_⟩
  match p with
  | 0=>
   obtain rfl:=osl ha;obtain rfl:=osl ha';exact aS (.inr (.inl ⟨rfl,rfl⟩))
  | p+1=>simp at ha
 ·unfold nxs at hr';rw [List.getElem?_set_ne (Ne.symm e),zn hj] at hr';rw [zn hj] at hr;obtain rfl:=osl hr;obtain rfl:=osl hr';refine ⟨rfl,fun p a a' ha ha' => ?_⟩
  match p with
  | 0=>
   obtain rfl:=osl ha;obtain rfl:=osl ha';exact aS (.inr (.inr ⟨by omega,fun e2=>h.nk.sep j i hj hi e (by omega),by omega⟩))
  | p+1=>simp at ha
end
section
variable {P:Program} {H:AH} {s:Nat}
def CH (P:Program) (H:AH) (s:Nat) (a:AV) (news:List (List AV)):Prop:=∀ (c:Cx) (u:Value),c.H=H->HRel c->c.rel a u ->
 (∀ w,(Builtin.lenOf u).run P w = .ok news.length w)/\(∀ (i:Nat) (row:List AV),news[i]? = some row->row.length=s) /\
 ∀ n,n<=news.length->∃ vs:List Value,(∀ w,w.heap=c.w.heap->(Builtin.firstCells s n u).run P w = .ok vs.toArray w)/\Ap c s (news.take n) vs
theorem CH.of {a:AV} {news:List (List AV)} (len:Nat) (hl:news.length=len) (h:∀ (c:Cx) (u:Value),c.H=H->HRel c->c.rel a u->∃ A cap,u = .slice A len cap/\∀ n,n<=len->∃ vs,SrcIs P c s (.slice A n cap) (news.take n) vs):CH P H s a news:=fun c u hH hr hu=>by
 obtain ⟨A,cap,rfl,h1⟩:=h c u hH hr hu;refine ⟨fun w=>by rw [hl];simp [Builtin.lenOf],fun i row hi=>?_,fun n hn=>?_⟩
 ·obtain ⟨vs,h2⟩:=h1 len (Nat.le_refl _);refine h2.rows i row ?_;rw [List.take_of_length_le (by omega)];exact hi
 ·obtain ⟨vs,h2⟩:=h1 n (by omega);refine ⟨vs,fun w hw=>?_,h2.is⟩;have h3:=h2.cells w hw;rw [List.length_take,Nat.min_eq_left hn] at h3;rw [<- h3]
  cases A <;> rfl
theorem CH.own {b ver off len:Nat} {k:ABlk} (hk:H[b]? = some (some k)) (hv:k.ver=ver) (hs:k.s=s) (hn:off+len<=k.rows.length):CH P H s (.hs b ver s off len) ((k.rows.drop off).take len):=
 .of len (by simp;omega) fun c u hH hr hu=>by
  cases hu with
  | fr h=>cases h
  | @hs _ _ _ _ _ cap A hb hc hm h0 hx=>
   refine ⟨A,cap,rfl,fun n hn' => ?_⟩;rw [List.take_take,Nat.min_eq_left hn'];exact bG.own hk hv hs (by omega) rfl c _ hH hr (.hs hb (by omega) hm h0 fun x hx'=>⟨(hx x hx').1,by have := (hx x hx').2.1;omega,(hx x hx').2.2.1,(hx x hx').2.2.2⟩)
theorem CH.fz {α:Type} [Inhabited α] {f:α->List AV} {l:List α} (hf:∀ x,(f x).length=s):CH P H s (eL f l) (l.map f):=
 .of l.length (by simp) fun c u hH hr hu=>by
  have h:=sN hu
  cases h with
  | @sl _ cap sz g o _ a us hc hm ha hs hu2 h1 h=>
   refine ⟨a,cap,rfl,fun n hn=>?_⟩;have e:(l.map f).take n=(List.range n).map fun i=>f (l.getD i default):=by
    rw [<- List.map_take,<- uU f (l.take n),List.length_take,Nat.min_eq_left hn];apply List.map_congr_left;intro i hi;have hi':i<n:=by simpa using hi
    simp [List.getElem?_take,hi']
   rw [e];refine bG.sl (H:=c.H) (n:=n) (row:=fun i=>f (l.getD i default)) (fun i _=>hf _) c _ rfl hr (.fr (.sl (s:=sz) (g:=g) (o:=o) us (by omega) hm (fun h0=>ha (by omega)) (fun i hi=>hs i (by omega)) (fun i j a hi=>hu2 i j a (by omega)) (fun i j a hi=>h1 i j a (by omega)) (fun i j a hi=>h i j a (by omega))))
variable {o:Oper} {ρ:Operand->AV}
theorem Ie {cl:Call} {x y:Operand} {t u e:TypeId} {b ver off len:Nat} {k:ABlk} {news:List (List AV)} (ho:o.op = .call cl) (h1:cl.callee = .builtin .copy) (h2:cl.args.toList=[x,y]) (h3:cl.argTypes.toList=[t,u])
  (ht:P.underlying t=some (.slice e)) (hi:(P.info? e).isSome=true) (hse:P.cellsOf e=s) (hx:ρ x = .hs b ver s off len) (hb:H[b]? = some (some k)) (hv:k.ver=ver) (hs:k.s=s) (hoff:off+len<=k.rows.length) (hsrc:CH P H s (ρ y) news) :
  L9 P o ρ H (.v (.int .i64 (min news.length len:Nat))) (H.set b (some { k with rows:=k.rows.take off++news.take (min news.length len)++k.rows.drop (off+min news.length len) })):=by
 intro c a K Q hH hr hxs hK;obtain ⟨callee,args,ts⟩:=cl;simp only at h1 h2 h3;obtain rfl:args = #[x,y]:=by cases args;simp_all
 obtain rfl:ts = #[t,u]:=by cases ts;simp_all
 subst h1;have hx1:=hx ▸ hxs x (by rw [ho];simp [Op.operands,Call.operands]);obtain ⟨hlen,hrl,hfirst⟩:=hsrc c _ hH hr (hxs y (by rw [ho];simp [Op.operands,Call.operands]));generalize hn:min news.length len=n at hK ⊢;obtain ⟨vs,hvs,his⟩:=hfirst n (by omega);obtain ⟨hvl,hv1,hvr⟩:=his;rw [List.length_take,Nat.min_eq_left (by omega)] at hvl;have hl:c.live b k:=by unfold Cx.live;rw [hH];exact hb
 generalize hux:a.eval x=ux at hx1
 cases hx1 with
 | fr h=>cases h
 | @hs _ _ _ _ _ cap A hbn hcl hcm h0 hh=>
  obtain ⟨cur,fr,hB⟩:=hr.blk b k hl;obtain ⟨fr,rfl,hat,hd⟩:=hB.cells hl (fun x hx=>(hh x (hv ▸ hx)).1.trans hs.symm);rw [hv] at hd;obtain ⟨_,_,hA,hcf⟩:=hh _ hd;simp only at hA hcf;obtain ⟨ti,hti⟩:=kr hi;have hsize:(sizeOf e).run P c.w = .ok s c.w:=by rw [run_sizeOf c.w hti,<- hse]
  have hexec:∀ w',(match A with | some ad=>(storeCells ad vs).run P c.w | none => .ok () c.w) = .ok () w'->(execOp a.eval o).run P c.w = .ok (.value (.int .i64 (n:Int))) w':=fun w' hw=>by
   have e1:(Builtin.copy_ #[t,u] o.type #[.slice A len cap,a.eval y]).run P c.w = .ok (.int .i64 (n:Int)) w':=by
    have hm:Nat.min news.length len=n:=hn
    cases A with
    | none=>
     simp only at hw;injection hw with _ hw;subst hw;simp [Builtin.copy_,Sem.run_bind,av ht,hlen,hsize,hm,hvs c.w rfl,goInt]
    | some ad=>
     simp only at hw;simp [Builtin.copy_,Sem.run_bind,av ht,hlen,hsize,hm,hvs c.w rfl,hw,goInt]
   simp [execOp,ho,resolve,invoke,builtin,hux,e1]
  unfold Oper.wp;rcases Nat.eq_zero_or_pos n with h00 | hpos
  ·-- nothing is copied
   have hv0:vs=[]:=List.eq_nil_of_length_eq_zero (by rw [hvl,h00,Nat.zero_mul]);have hk0:({ k with rows:=k.rows.take off++news.take n++k.rows.drop (off+n) }:ABlk)=k:=by
    rw [h00];simp
   rw [hexec c.w (by subst hv0;cases A <;> rfl)];refine hK _ c ?_ hr (Ext.refl c) (cT rfl);rw [hk0,Bh H b _ hb,hH]
  ·have h0':0<cap:=by omega
   obtain rfl:=hA h0';have hfit:=hB.fits;have hsp:=hB.pos;have hle:(c.φ b).2+off*s+vs.length<=cur.toList.length:=by
    have h5:(off+len)*s<=k.rows.length*s:=Nat.mul_le_mul_right _ hoff;have h6:n*s<=len*s:=Nat.mul_le_mul_right _ (by omega);rw [Nat.add_mul] at h5;have hct:cur.toList.length=cur.size:=Array.length_toList;rw [hs] at hfit;rw [hvl,hct];omega
   have hst:=jo (P:=P) (c.φ b).1 ((c.φ b).2+off*s) k.ty fr vs 0 cur c.w hat (hB.free fr rfl) (by simpa using hle) hv1;rw [Nat.add_zero] at hst;have hg2:=fun q=>Be cur.toList _ _ hle q;have hs2:=Bf cur.toList _ _ hle;generalize hcs2:(cur.toList.take ((c.φ b).2+off*s)++vs++cur.toList.drop ((c.φ b).2+off*s+vs.length))=ls at *;have hsz2:ls.toArray.size=cur.size:=by simpa using hs2
   have hget:∀ q,ls.toArray[q]? = if (c.φ b).2+off*s<=q/\q<(c.φ b).2+off*s+vs.length then vs[q-((c.φ b).2+off*s)]? else cur[q]? := fun q=>by
    rw [List.getElem?_toArray,hg2,Array.getElem?_toList (xs:=cur)]
   have hrl2:(k.rows.take off++news.take n++k.rows.drop (off+n)).length=k.rows.length:=by
    simp only [lla,List.length_take,List.length_drop];omega
   have hrow:∀ (i:Nat) (row:List AV),(k.rows.take off++news.take n++k.rows.drop (off+n))[i]? = some row->(off<=i/\i<off+n/\news[i-off]? = some row)\/((i<off\/off+n<=i)/\k.rows[i]? = some row):=fun i row h=>by
    have hnl:(news.take n).length=n:=by simp;omega
    have e:=Be k.rows off (news.take n) (by rw [hnl];omega) i;rw [hnl] at e;rw [e] at h
    split at h
    ·rename_i h2;refine .inl ⟨h2.1,h2.2,?_⟩;rw [List.getElem?_take,if_pos (by omega)] at h;exact h
    ·rename_i h2;exact .inr ⟨by omega,h⟩
   have hlen2:∀ (i:Nat) (row:List AV),(k.rows.take off++news.take n++k.rows.drop (off+n))[i]? = some row->row.length=k.s:=fun i row h=>by
    rcases hrow i row h with ⟨_,_,h2⟩ | ⟨_,h2⟩
    ·rw [hrl _ row h2,hs]
    ·exact hB.len i row h2
   have hext:=Cx.upd_ext (k:={ k with rows:=k.rows.take off++news.take n++k.rows.drop (off+n) }) (o:=(c.φ b).2) (cs:=ls.toArray) hr hl hB hsz2 (.inl ⟨rfl,rfl,hrl2,rfl⟩);have hrel:=Cx.upd_rel (k:={ k with rows:=k.rows.take off++news.take n++k.rows.drop (off+n) }) (o:=(c.φ b).2) (cs:=ls.toArray) hr hl hB hsz2 rfl hext hsp (by simp only;rw [hrl2,hsz2];exact hfit) hlen2 (fun i row j a' h h'=>by
    have hj:j<s:=by
     have := (ges h').1;rw [hlen2 i row h,hs] at this;exact this
    simp only;rw [hget,hs,hvl];rcases hrow i row h with ⟨g1,g2,g3⟩ | ⟨g1,g3⟩
    ·have hf:=uE (s:=s) (show i-off<n by omega) (j:=j+1) hj;have e:i*s=(i-off)*s+off*s:=by
      rw [<- Nat.add_mul]
      congr 1
      omega
     rw [if_pos (by omega)];obtain ⟨u',q1,q2,q3⟩:=hvr (i-off) row j a' (by rw [List.getElem?_take,if_pos (by omega)];exact g3) h';refine ⟨u',?_,q2,q3⟩;rw [<- q1]
     congr 1
     omega
    ·have hi':=(ges g3).1;rw [if_neg (fun hq=>?_)]
     ·have := hB.rel i row j a' g3 h';rw [hs] at this;exact this
     ·rcases g1 with g1 | g1
      ·have hf:=uE (s:=s) g1 (j:=j+1) hj;omega
      ·have hf:(off+n)*s<=i*s:=Nat.mul_le_mul_right _ g1;rw [Nat.add_mul] at hf;omega)
   rw [hexec _ hst];exact hK _ _ (by rw [<- hH];rfl) hrel hext (cT rfl)
variable {α:Type} {c:α->List AV} {l k:List α} {x y:Operand} {t u e:TypeId} {ag:Bool} {w m b ver off len:Nat} {zs:List AV}
def cpy (l:List α) (off:Nat) (k:List α) (len:Nat):List α:=if off+len<=l.length then l.take off++k.take (min k.length len)++l.drop (off+min k.length len) else l
theorem Az (l:List α) (off:Nat) (k:List α) (len:Nat):(cpy l off k len).length=l.length:=by
 unfold cpy
 split
 ·simp only [lla,List.length_take,List.length_drop];omega
 ·rfl
theorem I3 {lo hi:Int} {n:Nat} (h:0<=lo/\lo<=hi/\hi<=(n:Int)) (hn:n=l.length):(0+lo.toNat)+(hi.toNat-lo.toNat)<=l.length:=by omega
theorem EvA.copyO (k:List α) (q:SlT P t e ag w zs m) (hx:ρ x = .hs b ver w off len) (hk:H[b]? = some (bE false ver w e (l.map c))) (ho:off+len<=l.length) (hsrc:CH P H w (ρ y) (k.map c)) :
  EvA P ρ (.call ⟨.builtin .copy,#[x,y],#[t,u]⟩) H (I (min k.length len:Nat)) (H.set b (bE false ver w e ((cpy l off k len).map c))):=fun o ho'=>by
 have h:=Ie (o:=o) (P:=P) (ρ:=ρ) (H:=H) (k:=⟨ver,w,e,l.map c⟩) ho' rfl rfl rfl q.u q.ty.info q.ty.cells hx hk rfl rfl (by simpa using ho) hsrc;unfold cpy;rw [if_pos ho];simpa [bE,List.map_take,List.map_drop] using h
theorem CH.ow {b ver:Nat} {ty:TypeId} (lo n:Nat) (hx:ρ y = .hs b ver w lo n) (hk:H[b]? = some (bE false ver w ty (l.map c))) (h:lo+n<=l.length):CH P H w (ρ y) (((l.drop lo).take n).map c):=by
 rw [hx];have := CH.own (P:=P) (k:=⟨ver,w,ty,l.map c⟩) hk rfl rfl (off:=lo) (len:=n) (by simpa using h);simpa [List.map_take,List.map_drop] using this
theorem CH.el [Inhabited α] (hx:ρ y=eL c l) (hc:∀ x,(c x).length=w):CH P H w (ρ y) (l.map c):=by
 rw [hx];exact CH.fz hc
end
section
variable {P:Program} {K V:Type} [DecidableEq K] {kn vn:Nat} {kc:K->List Value} {cv:V->List AV} {keyT t e:TypeId} {l:List (K×V)} {ρ:Operand->AV} {H:AH} {x y z:Operand} {b:Nat}
theorem EvA.look (q:KeyA P keyT kn kc) (hv:∀ v,(cv v).length=vn) (d:V) {zv:Value} {ok:Bool} (ht:P.underlying t=some (.map keyT e)) (hz:∀ w,(zeroValue e).run P w = .ok zv w) (hzr:∀ c:Cx,c.rel (mkA (cv d)) zv) (k:K)
 (hx:ρ x = .mp b (kn+vn)) (hy:ρ y=mkA ((kc k).map AV.v)) (hb:H[b]? = some (some (mB kn vn kc cv l))) :
 EvA P ρ (.lookup t x y ok) H (bif ok then .tup [mkA (cv ((EU l k).getD d)),.v (.bool (EU l k).isSome)] else mkA (cv ((EU l k).getD d))) H:=fun _ ho=>Ev q hv d ho ht hz hzr k hx hy hb
end
section
variable {K V:Type} {kn vn:Nat} {kc:K->List Value} {cv:V->List AV} {l:List (K×V)} {H:AH}
theorem StayB.mp {m:Nat} (hv:∀ v,(cv v).all (isF 9)=true):StayB m H (some (mB kn vn kc cv l)) (some (mB kn vn kc cv l)) := .keep fun r hr a ha=>by
 obtain ⟨p,_,rfl⟩:=List.mem_map.1 hr;rcases List.mem_append.1 ha with ha | ha
 ·obtain ⟨x,_,rfl⟩:=List.mem_map.1 ha
  rfl
 ·exact xa 9 m a (List.all_eq_true.1 (hv p.2) a ha)
end
section
variable {P:Program} {K V:Type} {kn vn:Nat} {kc:K->List Value} {cv:V->List AV} {keyT t e:TypeId} {l:List (K×V)} {ρ:Operand->AV} {H:AH} {x:Operand} {b:Nat}
end
section
variable {P:Program} {kn:Nat} {t:TypeId} {ρ:Operand->AV} {H:AH}
end
section
variable {P:Program} {keyT e:TypeId} {i:TypeInfo}
end
section
variable {P:Program} {ρ:Operand->AV} {H:AH}
inductive FzP (H:AH):AV->AV->Prop
 | fz {a a':AV} (h:Fz 0 H a a'):FzP H a a'
 | hp {b ver s j:Nat} {ty:TypeId} {r x row':List AV} (hk:H[b]? = some (some ⟨ver,s,ty,[r++x]⟩)) (h:FzL 0 H r row'):FzP H (.hp b ver s 0 j) (.fp row' j)
inductive FzPL (H:AH):List AV->List AV->Prop
 | nil:FzPL H [] []
 | cons {a b:AV} {l k:List AV} (h:FzP H a b) (t:FzPL H l k):FzPL H (a::l) (b::k)
theorem FzPL.spec {l k:List AV} (h:FzPL H l k):l.length=k.length/\∀ (i:Nat) (c d:AV),l[i]? = some c->k[i]? = some d->FzP H c d:=by
 induction h with
 | nil=>exact ⟨rfl,fun i c d h=>by simp at h⟩
 | cons h t ih=>
  refine ⟨by simp [ih.1],fun i c d h1 h2=>?_⟩
  cases i with
  | zero=>
   simp only [List.getElem?_cons_zero,sie] at h1 h2;subst h1 h2;exact h
  | succ i=>
   simp only [List.getElem?_cons_succ] at h1 h2;exact ih.2 i c d h1 h2
end
def J5 (r:AV) (G:Nat->AH):AV->AH->Prop:=fun r' G'=>∃ ver,r'=r/\G'=G ver
def LK:List Nat->AH->AH->AH
 | [],_,H=>H
 | b::bs,G,H=>match G with
  | []=>H
  | x::xs=>LK bs xs (H.set b x)
def J6 (H:AH) (ids:List Nat) (G:AH):AH:=LK ids G H
theorem zo {H:AH} {b:Nat} {bs:List Nat} {x:Option ABlk} {xs:AH}:J6 H (b::bs) (x::xs)=J6 (H.set b x) bs xs:=rfl
theorem zq:∀ (ids:List Nat) (H G:AH),(J6 H ids G).length=H.length
 | [],_,_=>rfl
 | _::_,_,[]=>rfl
 | b::bs,H,x::xs=>by rw [zo,zq bs,List.length_set]
theorem Df {b:Nat}:∀ (ids:List Nat) (H G:AH),b∉ids->(J6 H ids G)[b]? = H[b]?
 | [],_,_,_=>rfl
 | _::_,_,[],_=>rfl
 | c::bs,H,x::xs,h=>by
  rw [zo,Df bs _ _ (fun hm=>h (.tail _ hm)),List.getElem?_set_ne (fun e=>h (by rw [e];exact List.mem_cons_self))]
theorem Dg:∀ (ids:List Nat) (H G:AH) (i b:Nat),ids.Nodup->ids[i]? = some b->b<H.length->i<G.length->(J6 H ids G)[b]? = G[i]?
 | [],_,_,_,_,_,h,_,_=>by simp at h
 | _::_,_,[],_,_,_,_,_,h=>by simp at h
 | c::bs,H,x::xs,i,b,hn,h,hb,hi=>by
  rw [zo];obtain ⟨hn1,hn2⟩:=List.nodup_cons.1 hn
  cases i with
  | zero=>
   simp only [List.getElem?_cons_zero,sie] at h;subst h;rw [Df bs _ _ hn1,List.getElem?_set_self hb]
   rfl
  | succ i=>
   simp only [List.getElem?_cons_succ] at h;rw [Dg bs _ xs i b hn2 h (by rw [List.length_set];exact hb) (by simpa using hi)]
   rfl
inductive OutAt (S:Nat->Nat->Prop) (H:AH):List Nat->AH->Prop
 | nil:OutAt S H [] []
 | cons {b:Nat} {k k0:ABlk} {bs:List Nat} {G:AH} (hb:H[b]? = some (some k)) (hk:RenK S k k0) (t:OutAt S H bs G):OutAt S H (b::bs) (some k0::G)
 | none {b:Nat} {bs:List Nat} {G:AH} (hb:H[b]? = some Option.none) (t:OutAt S H bs G):OutAt S H (b::bs) (Option.none::G)
theorem OutAt.bE {S:Nat->Nat->Prop} {H:AH} {α:Type} {g:Bool} {v w b:Nat} {ty:TypeId} {f:α->List AV} {x:List α} {bs:List Nat} {G:AH} (hb:H[b]? = some (bE g v w ty (x.map f))) (hf:∀ x,(f x).all (isF 9)=true) (t:OutAt S H bs G):OutAt S H (b::bs) (Go.Proofs.YtcmimhffgmckjaaGreatDoor.bE g v w ty (x.map f)::G):=by
 cases g with
 | true=>exact .none hb t
 | false=>exact .cons hb (.ofF fun r hr a ha=>wz hf r hr a ha) t
theorem OutAt.spec {S:Nat->Nat->Prop} {H:AH} {ids:List Nat} {G:AH} (h:OutAt S H ids G):ids.length=G.length/\∀ (i b:Nat),ids[i]? = some b->(H[b]? = some Option.none/\G[i]? = some Option.none)\/∃ k k0:ABlk,H[b]? = some (some k)/\G[i]? = some (some k0)/\RenK S k k0:=by
 induction h with
 | nil=>exact ⟨rfl,fun i b h=>by simp at h⟩
 | @none b bs G hb t ih=>
  refine ⟨by simp [ih.1],fun i c h=>?_⟩
  cases i with
  | zero=>
   simp only [List.getElem?_cons_zero,sie] at h;subst h;exact .inl ⟨hb,rfl⟩
  | succ i=>
   simp only [List.getElem?_cons_succ] at h ⊢;exact ih.2 i c h
 | @cons b k k0 bs G hb hk t ih=>
  refine ⟨by simp [ih.1],fun i c h=>?_⟩
  cases i with
  | zero=>
   simp only [List.getElem?_cons_zero,sie] at h;subst h;exact .inr ⟨k,k0,hb,rfl,hk⟩
  | succ i=>
   simp only [List.getElem?_cons_succ] at h ⊢;exact ih.2 i c h
section
variable {P:Program}
theorem dC.outAt {f:FuncId} {as0 MC:List AV} {H0 H:AH} {r0 r:AV} {G0:Nat->AH} (h:dC P f as0 H0 (J5 r0 G0)) (ids:List Nat) (hn:ids.Nodup) (hin:OutAt (fun b i=>ids[i]? = some b) H ids H0) (has:RenL (fun b i=>ids[i]? = some b) MC as0)
  {G G':Nat->AH} (N:Nat) (hN:H.length=N) (hout:∀ v,RenHL (sg ids N) (G0 v) (G v)) (hlen:∀ v,(G0 v).length=ids.length) (hr:Ren (sg ids N) r0 r) (hG:∀ v,J6 H ids (G v)=G' v):dC P f MC H (J5 r G'):=by
 subst hN;refine h.frameN ids hn hin.spec.1 hin.spec.2 has.spec.1 has.spec.2 fun r1 G1 ⟨v,e1,e2⟩=>⟨r,G' v,?_,by rw [e1];exact hr,v,rfl,rfl⟩;subst e2;obtain ⟨l1,l2,l3⟩:=(hout v).spec;have hl:=hlen v;have lt:∀ {i b},ids[i]? = some b->b<H.length:=fun {i b} hi=>by
  rcases hin.spec.2 i b hi with ⟨h1,_⟩ | ⟨k,_,h1,_⟩
  ·exact (ges h1).1
  ·exact (ges h1).1
 have sgi:∀ {i b},i<(G0 v).length->sg ids H.length i b->ids[i]? = some b:=fun {i b} hi hs=>by
  rcases hs with hs | ⟨hs,_⟩
  ·exact hs
  ·omega
 refine ⟨by omega,by rw [<- hG,zq];omega,fun i b hi hs hd=>?_,fun i b k0 hs hk=>?_,fun b hb hni=>by rw [<- hG,Df _ _ _ hni]⟩
 ·have hib:=sgi hi hs;rw [<- hG,Dg ids H (G v) i b hn hib (lt hib) (by omega)];have hg:i<(G v).length:=by omega
  rw [geq hg]
  cases hc:(G v)[i] with
  | none=>rfl
  | some k'=>
   obtain ⟨k,h1,_⟩:=l3 i k' (by rw [geq hg,hc]);rw [hd] at h1
   cases h1
 ·have hi:=(ges hk).1;have hib:=sgi hi hs;obtain ⟨k',h1,h2⟩:=l2 i k0 hk;refine ⟨k',?_,h2⟩;rw [<- hG,Dg ids H (G v) i b hn hib (lt hib) (by omega)];exact h1
end
section
variable {P:Program} {nt b0:Nat} {Q:Exit->Env->AH->Prop} {en:List (Nat×AV)} {H:AH} {ops:Array Oper} {l:List Oper} {d:Tmp} {t:TypeId} {pos:String} {af:Array Edge}
theorem oW {cl:Call} {f:Operand} {g:FuncId} {qq MC:List AV} {r:AV} {G:Nat->AH} (hc:cl.callee = .value f) (hf:rho (au en) f = .fn (.func g) qq) (ha:cl.args.toList.map (rho (au en))++qq=MC)
  (h:dC P g MC H (J5 r G)) (k:∀ ver,TO P nt b0 ops l Q (au ((d,r)::en)) (G ver)):TO P nt b0 ops (⟨some d,.call cl,t,pos,af,none⟩::l) Q (au en) H:=by
 subst ha;exact TO.runG (.free rfl) (Bj rfl hc hf h) fun r' H' ⟨ver,hr,hH⟩=>by
  subst hr hH;exact k ver
end
theorem RenK.mB {K V:Type} {kn vn:Nat} {kc:K->List Value} {cv:V->List AV} {l:List (K×V)} (S:Nat->Nat->Prop) (hv:∀ v,(cv v).all (isF 9)=true):RenK S (mB kn vn kc cv l) (mB kn vn kc cv l) := .ofF fun r hr a ha=>by
 obtain ⟨p,_,rfl⟩:=List.mem_map.1 hr;rcases List.mem_append.1 ha with ha | ha
 ·obtain ⟨x,_,rfl⟩:=List.mem_map.1 ha
  rfl
 ·exact List.all_eq_true.1 (hv p.2) a ha
theorem RenK.bE' {S:Nat->Nat->Prop} {α:Type} {v w:Nat} {ty:TypeId} {f:α->List AV} {x:List α} (hf:∀ x,(f x).all (isF 9)=true):RenK S ⟨v,w,ty,x.map f⟩ ⟨v,w,ty,x.map f⟩ := .ofF fun r hr a ha=>wz hf r hr a ha
section
variable {P:Program} {K:Type} [DecidableEq K] {kn:Nat} {kc:K->List Value} {keyT t e:TypeId} {l:List (K×Bool)} {ρ:Operand->AV} {H:AH} {x y z:Operand} {b:Nat}
omit [DecidableEq K] in
end
section
variable {P:Program}
theorem dC.mkS {f:FuncId} {fn:Func} {body:Code} {MC:List AV} {H:AH} {R:AV->AH->Prop} (hf:P.funcs[f]? = some fn) (hb:fn.body=some body) (hcall:ic P f=true) (hn:Nat.ble MC.length fn.ntmps=true)
 (hok:codeOk fn.ntmps body=true) {e0:Env} (hw:AY (Hr MC) e0) (h:T P fn.ntmps H.length body (SQ H.length (Fin P fn R)) e0 H):dC P f MC H R:=dC.mkT hf hb hcall hn hok hw h.leaf
end
section
variable {P:Program} {ρ:Operand->AV} {H:AH}
theorem FR {o:Oper} {t:TypeId} {x:Operand} {cs:List AV} {b:Nat} (ho:o.op = .box t x) (hc:(ρ x).cells=some cs) (h0:0<cs.length) (hb:H[b]? = some none):L9 P o ρ H (.hp b 0 cs.length 0 0) (H.set b (some ⟨0,cs.length,t,[cs]⟩)):=by
 intro c a K Q hH hr hx hK;have hx1:=hx x (by rw [ho];simp [Op.operands]);have hz':=vY hx1 hc;have hsz:=hz'.size;subst hH;have hrel:HRel (c.newAt b ⟨0,cs.length,t,[cs]⟩ (a.eval x).cells):=by
  refine Cx.newAt_rel hr hb h0 (by simp;omega) (fun i row h=>?_) (fun i row j a h1 h2=>?_)
  ·match i,h with
   | 0,h=>simp at h;rw [<- h]
   | i+1,h=>simp at h
  ·match i,h1 with
   | 0,h1=>
    simp only [List.getElem?_cons_zero,sie] at h1;subst h1;simpa using hz'.get h2
   | i+1,h1=>simp at h1
 have hrun:(execOp a.eval o).run P c.w = .ok (.value (.pointer (some ⟨c.w.heap.size,0,none⟩))) (c.newAt b ⟨0,cs.length,t,[cs]⟩ (a.eval x).cells).w:=by
  rw [execOp,ho];refine (?_:Sem.run P _ c.w=_);have : (Instr.box t (a.eval x)).run P c.w = .ok (.pointer (some ⟨c.w.heap.size,0,none⟩)) (c.w.alloc (.cells (a.eval x).cells t)):=by
   simp [Instr.box,newVar,newRow]
  simp only [Sem.run_bind,this,Result.andThen_ok,Sem.run_pure]
  rfl
 unfold Oper.wp;rw [hrun];have hl2:=Cx.newAt_self (c:=c) (k:=⟨0,cs.length,t,[cs]⟩) (cs:=(a.eval x).cells) hb;have hφ2:(c.newAt b ⟨0,cs.length,t,[cs]⟩ (a.eval x).cells).φ b=(c.w.heap.size,0):=if_pos rfl;refine hK _ (c.newAt b ⟨0,cs.length,t,[cs]⟩ (a.eval x).cells) rfl hrel (Cx.newAt_ext hr hb) (.hp ?_ fun q hq=>?_)
 ·unfold Cx.born;rw [show (c.newAt b ⟨0,cs.length,t,[cs]⟩ (a.eval x).cells).H[b]? = some (some _) from hl2];exact Nat.le_refl _
 ·have := Cx.hd_of hl2 (o:=.cells (a.eval x).cells t) (by rw [hφ2];exact heap_alloc_new _ _);rw [hφ2] at this;have he:=hq.symm.trans this;simp only [hdo,sie] at he;subst he;exact ⟨rfl,by simp⟩
theorem EvA.bxA {t:TypeId} {x:Operand} {cs:List AV} (b:Nat) (hx:(ρ x).cells=some cs) (hn:(Nat.blt 0 cs.length)=true) (hb:H[b]? = some none):EvA P ρ (.box t x) H (.hp b 0 cs.length 0 0) (H.set b (some ⟨0,cs.length,t,[cs]⟩)):=
 fun _ ho=>FR ho hx (nlb hn) hb
end
section
variable {c:Cx} {b:Nat} {k:ABlk}
end
section
variable {P:Program} {ρ:Operand->AV} {H:AH}
end
section
variable {P:Program} {ρ:Operand->AV} {t e:TypeId}
end
section
variable {P:Program} {nt b0:Nat} {Q:Exit->Env->AH->Prop} {e:Env} {H:AH}
theorem T.ifH {α:Type} {q:Bool} {x:Operand} {t f:Code} {X Y:Option α} {r:α} (hc:rho e x = .v (.bool q)) (h:(bif q then X else Y)=some r) (h1:q=true->X=some r->T P nt b0 t Q e H) (h2:q=false->Y=some r->T P nt b0 f Q e H):T P nt b0 (.cond x t f) Q e H:=
 T.cond hc (fun hq=>h1 hq (CY hq h)) fun hq=>h2 hq (CZ hq h)
end
theorem Mg {α:Type} {a b:α} (h:some a=some b):a=b:=osl h
def Lh (e:Env):List (Nat×AV)->List (Nat×AV)
 | []=>[]
 | p::l=>(p.1,e p.1)::Lh e l
theorem wk {e:Env}:∀ {en:List (Nat×AV)},Lh e en=en->AY e (au en)
 | [],_=>Ma
 | (t,a)::l,h=>by
  injection h with h1 h2;injection h1 with _ h1;exact Mb h1 (wk h2)
theorem kw {b0:Nat} {e:Env} {H H0:AH} {en:List (Nat×AV)} (hH:H0=H) (h:Lh e en=en):ig b0 e H (au en) H0:=yc hH (wk h)
def J7:Nat->List AV->List (Nat×AV)
 | _,[]=>[]
 | i,a::l=>(i,a)::J7 (i+1) l
theorem FT:∀ (l:List AV) (i t:Nat),au (J7 i l) t=if t<i then .top else l.getD (t-i) .top
 | [],i,t=>by
  show AV.top=_
  split <;> simp
 | a::l,i,t=>by
  show (bif Nat.beq t i then a else au (J7 (i+1) l) t)=_
  cases hb:Nat.beq t i with
  | true=>
   have := Nat.eq_of_beq_eq_true hb;subst this;simp
  | false=>
   have hne:t≠i:=fun h=>by rw [h,show Nat.beq i i=true from Nat.beq_refl i] at hb;cases hb
   rw [cond_false,FT l (i+1) t]
   by_cases h:t<i
   ·rw [if_pos h,if_pos (by omega)]
   ·rw [if_neg h,if_neg (by omega),show t-i=(t-(i+1))+1 by omega]
    rfl
theorem DU (l:List AV):AY (Hr l) (au (J7 0 l)):=fun t => .inr (by rw [FT,if_neg (by omega)];rfl)
section
variable {P:Program} {f:FuncId} {fn:Func} {body:Code} {MC:List AV} {r:AV} {H H':AH}
def okF (P:Program) (f:FuncId) (fn:Func) (body:Code):Bool:=ic P f&&codeOk fn.ntmps body
theorem DV (h:okF P f fn body=true):ic P f=true/\codeOk fn.ntmps body=true:=by
 unfold okF at h;simpa using h
theorem pM (hf:P.funcs[f]? = some fn) (hb:fn.body=some body) (hk:okF P f fn body=true) (hn:Nat.ble MC.length fn.ntmps=true) (h:T P fn.ntmps 0 body (Fin P fn fun r0 G=>Fz 0 G r0 r) (au (J7 0 MC)) []):aA P f MC r:=
 aA.mkT hf hb (DV hk).1 hn (DV hk).2 (DU MC) h
theorem aM (hf:P.funcs[f]? = some fn) (hb:fn.body=some body) (hk:okF P f fn body=true) (hn:Nat.ble MC.length fn.ntmps=true) (h:T P fn.ntmps H.length body (SQ H.length (Fin P fn fun r0 G=>r0=r/\G=H')) (au (J7 0 MC)) H):dz P f MC H r H':=
 dz.mkT hf hb (DV hk).1 hn (DV hk).2 (DU MC) h
end
section
variable {α β:Type} {G:Prop} {r:β} {x:Option β}
theorem jW {k:IntKind} {n:Int} (h:gd (Md k n) x=some r) (K:k.wrap n=n->x=some r->G):G:=K (gdW h).1 (gdW h).2
theorem jD {A:Prop} [Decidable A] (h:gd (decide A) x=some r) (K:A->x=some r->G):G:=K (gdD h).1 (gdD h).2
theorem jL {b:Bool} (h:gd b x=some r) (K:b=true->x=some r->G):G:=K (gdL h).1 (gdL h).2
theorem jB {o:Option α} {k:α->Option β} (h:o.bind k=some r) (K:∀ v,o=some v->k v=some r->G):G:=(Cb h).elim fun v h=>K v h.1 h.2
end
section
variable {P:Program} {nt b0:Nat} {Q:Exit->Env->AH->Prop} {e e0:Env} {H H' H0:AH} {ops:Array Oper} {l:List Oper} {W:Type} {w:W}
theorem T.sr {i:Nat} {y:Code} (h:TO P nt b0 ops ops.toList (Hs (T P nt b0 y Q) Q) e H):T P nt b0 (.seq (.region i ops false) y) Q e H := .seq (.region h)
theorem T.jU {S:Type} {A:Option S} {K:S->Option W} {x y:Code} (h:A.bind K=some w) (slots:S->List (Nat×AV)) (heap:S->AH)
  (J:∀ s,K s=some w->T P nt b0 y Q (au (slots s)) (heap s)) (k:∀ s,A=some s->T P nt b0 x (Hs (Ld b0 (fun _:Unit=>True) (fun _=>slots s) (fun _=>heap s)) Q) e H):T P nt b0 (.seq x y) Q e H:=
 jB h fun s h1 h2=>T.joinF (fun _:Unit=>True) (fun _=>slots s) (fun _=>heap s) (fun _ _=>J s h2) (k s h1)
theorem T.jF {S G:Type} {A:Option S} {K:S->Option W} {x y:Code} (h:A.bind K=some w) (inv:S->G->Prop) (slots:S->G->List (Nat×AV)) (heap:S->G->AH)
  (J:∀ s g,K s=some w->inv s g->T P nt b0 y Q (au (slots s g)) (heap s g)) (k:∀ s,A=some s->T P nt b0 x (Hs (Ld b0 (inv s) (slots s) (heap s)) Q) e H):T P nt b0 (.seq x y) Q e H:=
 jB h fun s h1 h2=>T.joinF (inv s) (slots s) (heap s) (fun g hg=>J s g h2 hg) (k s h1)
theorem T.lU {S E:Type} {body:Code} {x:E} {step:S->Option (S ⊕ E)} {s0:S} (h:aV step s0=some x) (slots:S->List (Nat×AV)) (heap:S->AH) (hs:ig b0 e H (au (slots s0)) (heap s0))
  (round:∀ s z,step s=some z->T P nt b0 body (Hs (Ia b0 (fun _ (_:Unit)=>True) (fun s _=>slots s) (fun s _=>heap s) z) (Leave Q x z)) (au (slots s)) (heap s)):T P nt b0 (.loop body) Q e H:=
 T.loop step (fun _ (_:Unit)=>True) (fun s _=>slots s) (fun s _=>heap s) () h trivial hs fun s _ z hz _=>round s z hz
theorem lE {S E:Type} {slots:S->List (Nat×AV)} {heap:S->AH} {a:S} {z:S ⊕ E} (h:some (Sum.inl a)=some z) (c:ig b0 e H (au (slots a)) (heap a)):Ia b0 (fun _ (_:Unit)=>True) (fun s _=>slots s) (fun s _=>heap s) z e H:=
 ⟨a,(),(osl h).symm,trivial,c⟩
theorem lX {S E:Type} {x y:E} {z:S ⊕ E} {ex:Exit} (h:some (Sum.inr y)=some z) (K:some y=some x->Q ex e H):Leave Q x z ex e H:=⟨y,(osl h).symm,fun h=>K (congrArg some h)⟩
theorem TO.jB {S:Type} {q:Bool} {A B:Option S} {K:S->Option W} (h:(bif q then A else B).bind K=some w) (n:Nat) (slots:S->List (Nat×AV)) (heap:S->AH)
  (h1:∀ s,q=true->A=some s->(∀ e H,ig b0 e H (au (slots s)) (heap s)->TO P nt b0 ops (l.drop n) Q e H)->TO P nt b0 ops l Q e H)
  (h2:∀ s,q=false->B=some s->(∀ e H,ig b0 e H (au (slots s)) (heap s)->TO P nt b0 ops (l.drop n) Q e H)->TO P nt b0 ops l Q e H)
  (J:∀ s,K s=some w->TO P nt b0 ops (l.drop n) Q (au (slots s)) (heap s)):TO P nt b0 ops l Q e H:=by
 obtain ⟨s,ha,hk⟩:=Cb h;have key:∀ e H,ig b0 e H (au (slots s)) (heap s)->TO P nt b0 ops (l.drop n) Q e H:=fun e H c=>(J s hk).cut c
 cases q with
 | true=>exact h1 s rfl ha key
 | false=>exact h2 s rfl ha key
end
section
variable {P:Program} {ρ:Operand->AV} {H H':AH} {x y:Operand} {a:AV} {t:TypeId} {ag:Bool} {n:Nat}
theorem mv:Mc P ρ (.move x) (ρ x):=Mc.mv _ rfl
theorem as':Mc P ρ (.assign x) (ρ x):=Mc.asg _ rfl
def LR:AV->Bool
 | .fp _ _=>true
 | .hp _ _ _ _ _=>true
 | _=>false
theorem nl (h:LR (ρ x)=true):Mc P ρ (.nilCheck x) (ρ x):=by
 cases e:ρ x with
 | fp row j=>exact Mc.nilfp e
 | hp b v s i j=>exact Mc.nilhp e
 | _=>rw [e] at h;cases h
def ldE (ag:Bool) (n:Nat):AV->Option AV
 | .fp row j=>nL ag n row j
 | _=>none
theorem lf (a:AV) (ty:TyF P t ag n) (h:ldE ag n (ρ x)=some a):Mc P ρ (.load t x) a:=by
 cases e:ρ x with
 | fp row j=>rw [e] at h;exact Mc.loadfp a ty e h
 | _=>rw [e] at h;cases h
def faE (pl:List (Nat×Nat)) (i:Nat) (v:AV):Option AV:=match pl[i]? with
 | some (o,k+1)=>(match v with
  | .fp row j=>some (.fp row (j+o))
  | .hp b u s q j=>some (.hp b u s q (j+o))
  | _=>none)
 | _=>none
theorem DW {α β:Type} {f:α->Option β}:∀ {l:List α} {k:List β},l.mapM f=some k->∀ {i:Nat} {b:β},k[i]? = some b->∃ a,l[i]? = some a/\f a=some b
 | [],k,h,i,b,hb=>by
  simp at h;subst h;simp at hb
 | c::l,k,h,i,b,hb=>by
  simp only [List.mapM_cons] at h;obtain ⟨d,hd,h⟩:=Option.bind_eq_some_iff.1 h;obtain ⟨k',hk',h⟩:=Option.bind_eq_some_iff.1 h;obtain rfl:=osl h
  cases i with
  | zero=>
   simp at hb;subst hb;exact ⟨c,rfl,hd⟩
  | succ i=>exact DW hk' (by simpa using hb)
theorem fa {pl:List (Nat×Nat)} {i:Nat} (q:TyS P t pl) (h:faE pl i (ρ x)=some a):Mc P ρ (.fieldAddr t x i) a:=by
 have hs:=q.s
 split at hs
 ·rename_i fs hu;unfold faE at h
  split at h
  ·rename_i o k hk;obtain ⟨fl,h1,h2⟩:=DW hs hk;rw [Array.getElem?_toList] at h1;obtain ⟨inf,h3,h4⟩:=Option.map_eq_some_iff.1 h2;injection h4 with h4 h5;have hc:(P.cellsOf fl.type != 0)=true:=by
    unfold Program.cellsOf;rw [h3];simp [h5]
   subst h4
   cases e:ρ x with
   | fp row j=>rw [e] at h;obtain rfl:=osl h;exact Mc.fafp hu h1 hc e
   | hp b u s w j=>rw [e] at h;obtain rfl:=osl h;exact Mc.fahp hu h1 hc e
   | _=>rw [e] at h;cases h
  ·cases h
 ·cases hs
theorem lh (a:AV) (ty:TyF P t ag n) {b ver s j:Nat} {ty':TypeId} {row:List AV} (h:ρ x = .hp b ver s 0 j) (hk:H[b]? = some (some ⟨ver,s,ty',[row]⟩)) (hp:nL ag n row j=some a):EvA P ρ (.load t x) H a H:=EvA.loadhp a ty h hk rfl rfl rfl hp
def srE (n s j:Nat) (row cs:List AV):Option (List AV):=bif Nat.beq cs.length n&&Nat.ble (j+n) s then some (splice row j cs) else none
theorem sr (row':List AV) (ty:TyF P t ag n) {b ver s j:Nat} {ty':TypeId} {row cs:List AV} (hx:ρ x = .hp b ver s 0 j) (hy:(ρ y).cells=some cs) (hk:H[b]? = some (some ⟨ver,s,ty',[row]⟩)) (hr:srE n s j row cs=some row'):EvA P ρ (.store t x y) H .top (H.set b (some ⟨ver,s,ty',[row']⟩)):=by
 unfold srE at hr
 cases hb:(Nat.beq cs.length n&&Nat.ble (j+n) s) with
 | false=>rw [hb] at hr;cases hr
 | true=>
  rw [hb] at hr;obtain rfl:=osl hr;rw [bae] at hb;exact EvA.st (k:=⟨ver,s,ty',[row]⟩) _ ty hx hy hk rfl rfl rfl (Nat.eq_of_beq_eq_true hb.1) hb.2 rfl
end
section
variable {P:Program} {nt b0:Nat} {Q:Exit->Env->AH->Prop} {H H':AH} {ops:Array Oper} {l:List Oper} {d:Tmp} {ty:TypeId} {pos:String} {af:Array Edge} {en:List (Nat×AV)} {fp:Nat->Fp} {i:Nat} {K:Env->AH->Prop} {S W:Type} {r:W} {A:Option S} {k:S->Option W} {v:S->AV} {cl:Call} {f:Operand} {g:FuncId} {qq MC:List AV}
theorem oC (h:A.bind k=some r) (hp:∀ s,A=some s->aA P g MC (v s)) (hc:cl.callee = .value f) (hf:rho (au en) f = .fn (.func g) qq) (ha:cl.args.toList.map (rho (au en))++qq=MC) (hF:MC.all (isF 9)=true)
  (J:∀ s,A=some s->k s=some r->TO P nt b0 ops l Q (au ((d,v s)::en)) H):TO P nt b0 ops (⟨some d,.call cl,ty,pos,af,none⟩::l) Q (au en) H:=
 jB h fun s h1 h2=>oN (Mc.call hc hf ha (hp s h1) hF) (J s h1 h2)
theorem fC (h:A.bind k=some r) (hp:∀ s,A=some s->aA P g MC (v s)) (hc:cl.callee = .value f) (hf:rho (au en) f = .fn (.func g) qq) (ha:cl.args.toList.map (rho (au en))++qq=MC) (hF:MC.all (isF 9)=true) (h0:fp i=([],false))
  (J:∀ s,A=some s->k s=some r->TF P fp (i+1) l K (au ((d,v s)::en)) H):TF P fp i (⟨some d,.call cl,ty,pos,af,none⟩::l) K (au en) H:=
 jB h fun s h1 h2=>fN h0 (Mc.call hc hf ha (hp s h1) hF) (J s h1 h2)
end
section
variable {P:Program} {fn:Func} {e:Env} {G:AH} {a:AV} {t:Tmp} {m:Nat}
theorem bP (h:fn.results.toList=[.tmp t]) (h1:e t=a) (h2:isF 9 a=true):Fin P fn (fun r0 G=>Fz m G r0 a) .ret e G:=Fin.ret (vs:=[a]) (by rw [h];exact .cons (.tmp h1) .nil) (.of_isF 9 _ h2)
end
section
variable {P:Program} {ρ:Operand->AV} {H:AH} {x y:Operand} {t:TypeId} {ag:Bool} {n j w:Nat} {q:Int}
theorem lf1 (V:Int->AV) (g:0<=q/\q<3) (ty:TyF P t ag n) {row:List AV} (h:ρ x = .fp row (j+q.toNat*w)) (h0:nL ag n row (j+0*w)=some (V 0)) (h1:nL ag n row (j+1*w)=some (V 1)) (h2:nL ag n row (j+2*w)=some (V 2)):Mc P ρ (.load t x) (V q):=
 Mc.loadfp _ ty h (FQ (P:=fun z=>nL ag n row (j+z.toNat*w)=some (V z)) g h0 h1 h2)
theorem lh1 (V:Int->AV) (g:0<=q/\q<3) (ty:TyF P t ag n) {b ver s:Nat} {ty':TypeId} {row:List AV} (h:ρ x = .hp b ver s 0 (j+q.toNat*w)) (hk:H[b]? = some (some ⟨ver,s,ty',[row]⟩)) (h0:nL ag n row (j+0*w)=some (V 0)) (h1:nL ag n row (j+1*w)=some (V 1)) (h2:nL ag n row (j+2*w)=some (V 2)):EvA P ρ (.load t x) H (V q) H:=
 EvA.loadhp _ ty h hk rfl rfl rfl (FQ (P:=fun z=>nL ag n row (j+z.toNat*w)=some (V z)) g h0 h1 h2)
theorem sr1 (R:Int->List AV) (g:0<=q/\q<3) (ty:TyF P t ag n) {b ver s:Nat} {ty':TypeId} {row cs:List AV} (hx:ρ x = .hp b ver s 0 (j+q.toNat*w)) (hy:(ρ y).cells=some cs) (hk:H[b]? = some (some ⟨ver,s,ty',[row]⟩)) (h0:srE n s (j+0*w) row cs=some (R 0)) (h1:srE n s (j+1*w) row cs=some (R 1)) (h2:srE n s (j+2*w) row cs=some (R 2)):EvA P ρ (.store t x y) H .top (H.set b (some ⟨ver,s,ty',[R q]⟩)):=
 sr _ ty hx hy hk (FQ (P:=fun z=>srE n s (j+z.toNat*w) row cs=some (R z)) g h0 h1 h2)
variable {v:Nat} {u:Int}
theorem LM {Q:Int->Int->Prop} (g:0<=q/\q<3) (g':0<=u/\u<3) (h:Q 0 0/\Q 0 1/\Q 0 2/\Q 1 0/\Q 1 1/\Q 1 2/\Q 2 0/\Q 2 1/\Q 2 2):Q q u:=
 FQ (P:=fun z=>Q z u) g (FQ (P:=fun z=>Q 0 z) g' h.1 h.2.1 h.2.2.1) (FQ (P:=fun z=>Q 1 z) g' h.2.2.2.1 h.2.2.2.2.1 h.2.2.2.2.2.1) (FQ (P:=fun z=>Q 2 z) g' h.2.2.2.2.2.2.1 h.2.2.2.2.2.2.2.1 h.2.2.2.2.2.2.2.2)
def P9 (Q:Nat->Nat->Int->Int->Prop):Prop:=Q 0 0 0 0/\Q 0 1 0 1/\Q 0 2 0 2/\Q 1 0 1 0/\Q 1 1 1 1/\Q 1 2 1 2/\Q 2 0 2 0/\Q 2 1 2 1/\Q 2 2 2 2
theorem lf2 (V:Int->Int->AV) (g:0<=q/\q<3) (g':0<=u/\u<3) (ty:TyF P t ag n) {row:List AV} (h:ρ x = .fp row ((j+q.toNat*w)+u.toNat*v)) (h9:P9 fun a b y z=>nL ag n row ((j+a*w)+b*v)=some (V y z)):Mc P ρ (.load t x) (V q u):=
 Mc.loadfp _ ty h (LM (Q:=fun y z=>nL ag n row ((j+y.toNat*w)+z.toNat*v)=some (V y z)) g g' h9)
theorem sr2 (R:Int->Int->List AV) (g:0<=q/\q<3) (g':0<=u/\u<3) (ty:TyF P t ag n) {b ver s:Nat} {ty':TypeId} {row cs:List AV} (hx:ρ x = .hp b ver s 0 ((j+q.toNat*w)+u.toNat*v)) (hy:(ρ y).cells=some cs) (hk:H[b]? = some (some ⟨ver,s,ty',[row]⟩)) (h9:P9 fun a b y z=>srE n s ((j+a*w)+b*v) row cs=some (R y z)):EvA P ρ (.store t x y) H .top (H.set b (some ⟨ver,s,ty',[R q u]⟩)):=
 sr _ ty hx hy hk (LM (Q:=fun y z=>srE n s ((j+y.toNat*w)+z.toNat*v) row cs=some (R y z)) g g' h9)
end
section
variable {P:Program} {H:AH} {s:Nat} {o:Oper} {ρ:Operand->AV}
variable {α:Type} {c:α->List AV} {l:List α} {x y:Operand} {t e:TypeId} {ag:Bool} {w m b ver off len:Nat} {zs:List AV}
end
section
variable {P:Program} {H:AH}
theorem dz.oneE {f:FuncId} {as0 MC:List AV} {b:Nat} {g:Bool} {ver w:Nat} {ty:TypeId} {zX rows:List (List AV)} {r:AV} (h:dz P f as0 [bE g ver w ty zX] r [bE g ver w ty rows]) (hb:H[b]? = some (bE g ver w ty zX))
  (has:RenL (fun c i=>[b][i]? = some c) MC as0) (hk0:∀ r∈zX,∀ a∈r,isF 9 a=true) (hk:∀ r∈rows,∀ a∈r,isF 9 a=true) (hr:isF 9 r=true):dz P f MC H r (H.set b (bE g ver w ty rows)):=by
 have hlt:b<H.length:=(ges hb).1;have h0:dC P f as0 [bE g ver w ty zX] (fun r' G=>r'=r/\G=[bE g ver w ty rows]):=⟨h.1,fun c vs hH hr hall=>(h.2 c vs hH hr hall).mono fun e w' ⟨v,c',h1,h2,h3,h4,h5,h6⟩=>⟨v,c',r,h1,h2,⟨rfl,h3⟩,h4,h5,h6⟩⟩;refine dC.acall (h0.frameN [b] (by simp) rfl (fun i c hi=>?_) has.spec.1 has.spec.2 fun r0 G0 ⟨hr0,hG0⟩ => ?_)
 ·match i with
  | 0=>
   obtain rfl:b=c:=by simpa using hi
   cases g with
   | true=>exact .inl ⟨hb,rfl⟩
   | false=>exact .inr ⟨_,_,hb,rfl,.ofF hk0⟩
  | i+1=>simp at hi
 ·subst hr0 hG0;have key:∀ i c,sg [b] H.length i c->i<1->c=b:=fun i c hs hi=>by
   rcases hs with hs | ⟨hs,_⟩
   ·obtain rfl:i=0:=by omega
    simpa using hs.symm
   ·simp at hs;omega
  refine ⟨_,_,⟨by simp,by simp,fun i c hi hs hn=>?_,fun i c k0 hs hk0=>?_,fun c hc hne=>List.getElem?_set_ne (fun e=>hne (by simp [e]))⟩,ax 9 _ hr,rfl,rfl⟩
  ·simp only [List.length_singleton] at hi;obtain rfl:=key i c hs hi;obtain rfl:i=0:=by omega
   simp only [List.getElem?_cons_zero,sie] at hn;rw [List.getElem?_set_self hlt,hn]
  ·have hi:i<1:=by
    have := (ges hk0).1;simpa using this
   obtain rfl:=key i c hs hi;obtain rfl:i=0:=by omega
   simp only [List.getElem?_cons_zero,sie] at hk0;refine ⟨k0,by rw [List.getElem?_set_self hlt,hk0],.ofF fun r hr a ha=>?_⟩
   cases g with
   | true=>cases hk0
   | false=>
    obtain rfl:=osl hk0;exact hk r hr a ha
theorem Ig {S:Nat->Nat->Prop} {g:Bool} {i j v w n n':Nat} (h:S i j) (hn:n=n'):Ren S (hS g i v w n) (hS g j v w n'):=hn ▸ aS h
variable {nt b0:Nat} {Q:Exit->Env->AH->Prop} {en:List (Nat×AV)} {ops:Array Oper} {l:List Oper} {d:Tmp} {t:TypeId} {pos:String} {af:Array Edge}
end
section
variable {P:Program} {ρ:Operand->AV} {H:AH} {x y z:Operand} {t e keyT:TypeId} {ag:Bool} {w j b kn:Nat}
variable {K:Type} [DecidableEq K] {kc:K->List Value} {l:List (K×Bool)}
omit [DecidableEq K] in
end
section
variable {P:Program} {o:Oper} {ρ ρ':Operand->AV} {H:AH} {K K':AV->AH->Prop}
theorem OpG.congr {R:AV->AH->Prop} (h:OpG P o ρ H R) (he:∀ x∈o.op.operands,ρ x=ρ' x):OpG P o ρ' H R:=
 fun c a K Q hH hr hxs hK=>h c a K Q hH hr (fun x hx=>by rw [he x hx];exact hxs x hx) hK
abbrev Xc:=Bool×List Nat
def agr (F:List Nat) (G H:AH):Prop:=∀ b∈F,G[b]? = H[b]?
def Jy (W:List Nat) (H H':AH):Prop:=∀ b,b<H.length->b∉W->H'[b]? = H[b]?
def Ih (P:Program) (o:Oper) (ρ:Operand->AV) (H:AH) (b:Xc) (K:AV->AH->Prop):Prop:=match b.1 with
 | false=>∃ r,(∀ c∈b.2,c<H.length)/\(∀ G,agr b.2 G H->L9 P o ρ G r G)/\K r H
 | true=>OpG P o ρ H fun r H'=>Jy b.2 H H'/\K r H'
theorem Ih.congr {b:Xc} (h:Ih P o ρ H b K) (he:∀ x∈o.op.operands,ρ x=ρ' x):Ih P o ρ' H b K:=by
 obtain ⟨b,F⟩:=b
 cases b with
 | false=>
  obtain ⟨r,h0,h1,h2⟩:=h;exact ⟨r,h0,fun G hG=>(h1 G hG).congr he,h2⟩
 | true=>
  show OpG P o ρ' H fun r H'=>Jy F H H'/\K r H';exact OpG.congr (R:=fun r H'=>Jy F H H'/\K r H') h he
def TX (P:Program) (ops:Array Oper) (cls:Nat->Xc):List Nat->(Env->AH->Prop)->Env->AH->Prop
 | [],K,e,H=>K e H
 | i::l,K,e,H=>∃ o,ops[i]? = some o/\Ih P o (rho e) H (cls i) fun r H'=>TX P ops cls l K (uQ e o.dst r) H'
end
section
variable {P:Program} {nt b0:Nat} {Q:Exit->Env->AH->Prop} {e:Env} {H H':AH} {r:AV}
variable {d:Tmp} {op:Op} {ty:TypeId} {pos:String} {af:Array Edge} {en:List (Nat×AV)} {cls:Nat->Xc} {ops:Array Oper} {i:Nat} {K:Env->AH->Prop} {l:List Nat}
theorem TX.nil (h:K e H):TX P ops cls [] K e H:=h
end
def EqS (a b:AV):Prop:=∀ (w:World) (fz:Nat->Prop) (v:Value),FRel w fz a v->FRel w fz b v
def BN:List AV->List AV->Prop
 | [],[]=>True
 | a::r,b::q=>EqS a b/\BN r q
 | _,_=>False
theorem EqS.refl (a:AV):EqS a a:=fun _ _ _ h=>h
theorem BN.refl:∀ r:List AV,BN r r
 | []=>trivial
 | a::r=>⟨EqS.refl a,BN.refl r⟩
theorem BN.len:∀ {r q:List AV},BN r q->r.length=q.length
 | [],[],_=>rfl
 | a::r,b::q,h=>by rw [llc,llc,BN.len h.2]
 | [],_::_,h=>h.elim
 | _::_,[],h=>h.elim
theorem BN.get:∀ {r q:List AV},BN r q->∀ {j:Nat} {b:AV},q[j]? = some b->∃ a,r[j]? = some a/\EqS a b
 | [],[],_,j,b,h=>by simp at h
 | a::r,b::q,h,0,c,hc=>by
  simp only [List.getElem?_cons_zero,sie] at hc;subst hc;exact ⟨a,rfl,h.1⟩
 | a::r,b::q,h,j+1,c,hc=>by
  simp only [List.getElem?_cons_succ] at hc ⊢;exact h.2.get hc
 | [],_::_,h,_,_,_=>h.elim
 | _::_,[],h,_,_,_=>h.elim
theorem EqS.sl {n:Nat} {row row':Nat->List AV} (he:∀ i,i<n->BN (row i) (row' i)):EqS (.sl n row) (.sl n row'):=fun w fz v h=>by
 cases h with
 | @sl _ cap s g o _ a us hc hm ha hs hu h1 h3=>
  refine .sl (s:=s) (g:=g) (o:=o) us hc hm ha (fun i hi=>?_) (fun i j b hi hj=>?_) (fun i j b hi hj=>?_) (fun i j b hi hj=>?_)
  ·rw [<- (he i hi).len];exact hs i hi
  ·obtain ⟨a',ha',_⟩:=(he i hi).get hj;exact hu i j a' hi ha'
  ·obtain ⟨a',ha',_⟩:=(he i hi).get hj;exact h1 i j a' hi ha'
  ·obtain ⟨a',ha',e⟩:=(he i hi).get hj;exact e _ _ _ (h3 i j a' hi ha')
theorem EqS.fp {row row':List AV} (he:BN row row') {j:Nat}:EqS (.fp row j) (.fp row' j):=fun w fz v h=>by
 cases h with
 | fp us hg hlt hu h1 h3=>
  refine .fp us hg hlt (fun j b hj=>?_) (fun j b hj=>?_) (fun j b hj=>?_)
  ·obtain ⟨a',ha',_⟩:=he.get hj;exact hu j a' ha'
  ·obtain ⟨a',ha',_⟩:=he.get hj;exact h1 j a' ha'
  ·obtain ⟨a',ha',e⟩:=he.get hj;exact e _ _ _ (h3 j a' ha')
theorem Jz {c:Cx} {n:Nat} {row:Nat->List AV} {b:AV} {v:Value} (he:EqS (.sl n row) b) (h:c.rel (.sl n row) v):c.rel b v := .fr (he _ _ _ (sN h))
theorem xe {c:Cx} {row row':List AV} {v:Value} {j:Nat} (he:BN row row') (h:c.rel (.fp row j) v):c.rel (.fp row' j) v := .fr (EqS.fp he _ _ _ (sO h))
theorem EqS.eL {α β:Type} [Inhabited α] [Inhabited β] {f:α->List AV} {g:β->List AV} {i:α->β} (h:∀ x,BN (f x) (g (i x))) (l:List α):EqS (eL f l) (eL g (l.map i)):=by
 unfold Go.Proofs.YtcmimhffgmckjaaGreatDoor.eL;rw [llm];refine .sl fun k hk=>?_;have e1:l.getD k default=l[k]:=by rw [gdq,geq hk];rfl
 have e2:(l.map i).getD k default=i l[k]:=by rw [gdq,List.getElem?_map,geq hk];rfl
 rw [e1,e2];exact h _
theorem Dh {α β:Type} [Inhabited α] [Inhabited β] {f:α->List AV} {g:β->List AV} {i:α->β} {c:Cx} {v:Value} (h:∀ x,BN (f x) (g (i x))) {l:List α} (hv:c.rel (eL f l) v):c.rel (eL g (l.map i)) v:=Jz (EqS.eL h l) hv
theorem row_in {α:Type} [Inhabited α] {f:α->List AV} {r:List α->Nat->List AV} (h0:∀ x l,r (x::l) 0=f x) (h1:∀ x l i,r (x::l) (i+1)=r l i):∀ (l:List α) (i:Nat),i<l.length->r l i=f (l.getD i default)
 | [],i,h=>by simp at h
 | x::l,0,_=>h0 x l
 | x::l,i+1,h=>by
  rw [h1,row_in h0 h1 l i (by simpa using h)]
  rfl
theorem EqS.slr {α:Type} [Inhabited α] {f:α->List AV} {r:List α->Nat->List AV} (h0:∀ x l,r (x::l) 0=f x) (h1:∀ x l i,r (x::l) (i+1)=r l i) (l:List α):EqS (.sl l.length (r l)) (Go.Proofs.YtcmimhffgmckjaaGreatDoor.eL f l):=
 .sl fun i hi=>by rw [row_in h0 h1 l i hi];exact BN.refl _
theorem EqS.slr' {α:Type} [Inhabited α] {f:α->List AV} {r:List α->Nat->List AV} (h0:∀ x l,r (x::l) 0=f x) (h1:∀ x l i,r (x::l) (i+1)=r l i) (l:List α):EqS (Go.Proofs.YtcmimhffgmckjaaGreatDoor.eL f l) (.sl l.length (r l)):=
 .sl fun i hi=>by rw [row_in h0 h1 l i hi];exact BN.refl _
section
variable {P:Program} {ρ:Operand->AV} {x:Operand} {t e:TypeId} {ag:Bool}
theorem Mc.slG {α:Type} [Inhabited α] {c:α->List AV} (l:List α) {n w:Nat} {row:List AV} (hu:P.underlying t=some (.array n e)) (ty:TyF P e ag w) (hx:ρ x = .fp row 0) (hl:l.length=n) (hn:(Nat.ble n 16777216)=true) (hr:row.length=n*w/\∀ i,i<n->(row.drop (i*w)).take w=c (l.getD i default)) :
  Mc P ρ (.slice t x none none none) (eL c l):=by
 have hn':=nlb hn;have key:Mc P ρ (.slice t x none none none) (.sl n (fun i=>(row.drop (0+i*w)).take w)) := .mk fun K hK=>by
  show wU P ρ (.slice t x none none none) K;simp only [wU,uR,hu,hx,Option.map_none];show (0<=(0:Int)/\(0:Int)<=(n:Int)/\(n:Int)<=(n:Int)/\0+n*P.cellsOf e<=row.length/\(P.info? e).isSome=true/\n<=9223372036854775807)/\_;rw [ty.cells];exact ⟨⟨by omega,by omega,by omega,by omega,ty.info,by omega⟩,hK⟩
 refine key.res fun C v hv=>?_;unfold Go.Proofs.YtcmimhffgmckjaaGreatDoor.eL;rw [hl];exact Ce (fun i hi=>by rw [Nat.zero_add];exact hr.2 i hi) hv
theorem Mc.ldG {α:Type} [Inhabited α] {c:α->List AV} {l:List α} (a:AV) {row:List AV} {q:Nat} (tt:TyF P t ag 1) (hx:ρ x = .fp row (0+q*1)) (hr:∀ q,q<l.length->[row.getD q .top]=c (l.getD q default)/\q<row.length) (hq:q<l.length) (ha:c (l.getD q default)=[a]) (hag:ag=false):Mc P ρ (.load t x) a:=by
 subst hag;refine Mc.loadfp a tt hx ?_;obtain ⟨h1,h2⟩:=hr q hq;show row[0+q*1]? = some a;rw [Nat.zero_add,Nat.mul_one,geq h2];rw [ha,gdq,geq h2] at h1;injection h1 with h1;exact congrArg some h1
end
section
variable {P:Program} {ρ:Operand->AV} {H:AH}
theorem Mc.extB {cl:Call} {f x y:Operand} {g:FuncId} {fn:Func} {e:Array Value->Sem Value} {s:ByteArray} {c n:Int} (hc:cl.callee = .value f) (hf:ρ f = .fn (.func g) []) (ha:cl.args = #[x,y]) (hx:ρ x=St s) (hy:ρ y=Y c)
  (h1 : P.funcs[g]? = some fn) (h2 : (fn.name == "runtime.NumGoroutine") = false) (h3 : fn.body.isNone = true) (h4 : Extern.findNext fn = none) (h5 : Extern.find fn = some e)
  (hr:∀ w:World,(e #[.string s,.int .u8 c]).run P w = .ok (.int .i64 n) w):Mc P ρ (.call cl) (I n):=fun o ho G=>by
 intro C a K Q hH hrel hxs hK;have hf1:=hf ▸ hxs f (by rw [ho];simp [Op.operands,Call.operands,hc]);obtain ⟨vs,he,hl,_⟩:=xY hf1;obtain rfl:vs = #[]:=by
  cases vs with
  | mk l=>cases l with
   | nil=>rfl
   | cons a l=>simp at hl
 have hx1:=hx ▸ hxs x (by rw [ho];simp [Op.operands,Call.operands,ha]);have hy1:=hy ▸ hxs y (by rw [ho];simp [Op.operands,Call.operands,ha]);obtain ⟨ex,_⟩:=ia hx1;obtain ⟨ey,_⟩:=ia hy1;have hrun:(execOp a.eval o).run P C.w = .ok (.value (.int .i64 n)) C.w:=by
  rw [execOp,ho];simp only [resolve,hc,he,Deferred.ofValue,Sem.run_bind,Sem.run_pure,Result.andThen_ok,invoke];have := run_callFunc_extern h1 h2 h3 h4 h5 (cl.args.map a.eval ++ #[]) C.w;have e2:cl.args.map a.eval ++ #[] = #[.string s,.int .u8 c]:=by rw [ha];simp [ex,ey]
  rw [e2] at this;rw [show #[]++Array.map a.eval cl.args ++ #[] = #[.string s,.int .u8 c] by rw [ha];simp [ex,ey],this,hr]
  rfl
 unfold Oper.wp;rw [hrun,Oper.upon_value];exact hK _ C hH hrel (Ext.refl C) (.fr (.v rfl))
def Li (s:ByteArray) (c:Int):Int:=((Lib.countByte s.data.toList c.toNat.toUInt8:Nat):Int)
def Lj (s:ByteArray) (c:Int):Int:=Lib.indexByte s.data.toList c.toNat.toUInt8
theorem Mc.extCount {cl:Call} {f x y:Operand} {g:FuncId} {fn:Func} {s:ByteArray} {c:Int} (hc:cl.callee = .value f) (hf:ρ f = .fn (.func g) []) (ha:cl.args = #[x,y]) (hx:ρ x=St s) (hy:ρ y=Y c)
  (h1 : P.funcs[g]? = some fn) (h2 : (fn.name == "runtime.NumGoroutine") = false) (h3 : fn.body.isNone = true) (h4 : Extern.findNext fn = none) (h5 : Extern.find fn = some Extern.BytealgCount.count) : Mc P ρ (.call cl) (I (Li s c)) :=
 Mc.extB hc hf ha hx hy h1 h2 h3 h4 h5 fun w=>Lib.run_countString s c w
theorem Mc.extIndex {cl:Call} {f x y:Operand} {g:FuncId} {fn:Func} {s:ByteArray} {c:Int} (hc:cl.callee = .value f) (hf:ρ f = .fn (.func g) []) (ha:cl.args = #[x,y]) (hx:ρ x=St s) (hy:ρ y=Y c)
  (h1 : P.funcs[g]? = some fn) (h2 : (fn.name == "runtime.NumGoroutine") = false) (h3 : fn.body.isNone = true) (h4 : Extern.findNext fn = none) (h5 : Extern.find fn = some Extern.BytealgIndexByte.indexByte) : Mc P ρ (.call cl) (I (Lj s c)) :=
 Mc.extB hc hf ha hx hy h1 h2 h3 h4 h5 fun w=>Lib.run_indexByteString s c w
end
def zZ:List ByteArray:=[(⟨#[]⟩:ByteArray),(⟨#[97,99,121,99,108,105,99]⟩:ByteArray),(⟨#[105,114,114,101,102]⟩:ByteArray),(⟨#[101,109,112,116,121]⟩:ByteArray)]
def K7:List AV:=[St (⟨#[]⟩:ByteArray),St (⟨#[97,99,121,99,108,105,99]⟩:ByteArray),St (⟨#[105,114,114,101,102]⟩:ByteArray),St (⟨#[101,109,112,116,121]⟩:ByteArray)]
theorem JA:∀ q,q<zZ.length->[K7.getD q .top]=cS (zZ.getD q default)/\q<K7.length
 | 0,_=>⟨rfl,by decide⟩
 | 1,_=>⟨rfl,by decide⟩
 | 2,_=>⟨rfl,by decide⟩
 | 3,_=>⟨rfl,by decide⟩
 | q+4,h=>absurd h (Nat.not_lt.2 (Nat.le_add_left 4 q))
theorem Ii:K7.length=4*1/\∀ i,i<4->(K7.drop (i*1)).take 1=cS (zZ.getD i default):=⟨rfl,fun i h=>by
 match i,h with
 | 0,_=>rfl
 | 1,_=>rfl
 | 2,_=>rfl
 | 3,_=>rfl
 | q+4,h=>exact absurd h (Nat.not_lt.2 (Nat.le_add_left 4 q))⟩
def Cg:List ByteArray:=[(⟨#[112,111]⟩:ByteArray),(⟨#[108,111,99]⟩:ByteArray),(⟨#[101,120,116]⟩:ByteArray),(⟨#[114,102]⟩:ByteArray),(⟨#[99,111]⟩:ByteArray),(⟨#[102,114]⟩:ByteArray),(⟨#[102,101,110,99,101]⟩:ByteArray),(⟨#[119,114]⟩:ByteArray),(⟨#[119,119]⟩:ByteArray),(⟨#[105,100]⟩:ByteArray)]
def LN:List AV:=[St (⟨#[112,111]⟩:ByteArray),St (⟨#[108,111,99]⟩:ByteArray),St (⟨#[101,120,116]⟩:ByteArray),St (⟨#[114,102]⟩:ByteArray),St (⟨#[99,111]⟩:ByteArray),St (⟨#[102,114]⟩:ByteArray),St (⟨#[102,101,110,99,101]⟩:ByteArray),St (⟨#[119,114]⟩:ByteArray),St (⟨#[119,119]⟩:ByteArray),St (⟨#[105,100]⟩:ByteArray)]
theorem Ij:LN.length=10*1/\∀ i,i<10->(LN.drop (i*1)).take 1=cS (Cg.getD i default):=⟨rfl,fun i h=>by
 match i,h with
 | 0,_=>rfl
 | 1,_=>rfl
 | 2,_=>rfl
 | 3,_=>rfl
 | 4,_=>rfl
 | 5,_=>rfl
 | 6,_=>rfl
 | 7,_=>rfl
 | 8,_=>rfl
 | 9,_=>rfl
 | q+10,h=>exact absurd h (Nat.not_lt.2 (Nat.le_add_left 10 q))⟩
structure Mh where
 Op:Int
 Loc:Int
 Reg:Int
 Val:Int
instance:Inhabited Mh:=⟨⟨default,default,default,default⟩⟩
def Mh.c (x:Mh):List AV:=[I x.Op,I x.Loc,I x.Reg,I x.Val]
theorem Mh.len (x:Mh):(Mh.c x).length=4:=rfl
theorem Mh.isF (x:Mh):(Mh.c x).all (isF 9)=true:=rfl
structure Mi where
 From:LI
 Order:LL
instance:Inhabited Mi:=⟨⟨default,default⟩⟩
def Mi.c (x:Mi):List AV:=[eL cI x.From,eL (cL cI) x.Order]
theorem Mi.len (x:Mi):(Mi.c x).length=2:=rfl
theorem Mi.isF (x:Mi):(Mi.c x).all (isF 9)=true:=rfl
structure ZTv where
 p:List (List Mh)
 x:Mi
 number:LL
instance:Inhabited ZTv:=⟨⟨default,default,default⟩⟩
def ZTv.c (x:ZTv):List AV:=[eL (cL Mh.c) x.p,eL cI x.x.From,eL (cL cI) x.x.Order,eL (cL cI) x.number]
theorem ZTv.len (x:ZTv):(ZTv.c x).length=4:=rfl
theorem ZTv.isF (x:ZTv):(ZTv.c x).all (isF 9)=true:=rfl
structure Mj where
 Thread:Int
 Index:Int
 Loc:Int
 Reads:Bool
 db:Bool
instance:Inhabited Mj:=⟨⟨default,default,default,default,default⟩⟩
def Mj.c (x:Mj):List AV:=[I x.Thread,I x.Index,I x.Loc,Bo x.Reads,Bo x.db]
theorem Mj.len (x:Mj):(Mj.c x).length=5:=rfl
theorem Mj.isF (x:Mj):(Mj.c x).all (isF 9)=true:=rfl
structure az where
 p:List (List Mh)
 x:Mi
 events:List Mj
 values:LI
 busy:List Bool
structure XV_impl_valuer where
 p:List (List Mh)
 x:Mi
 events:List Mj
instance:Inhabited XV_impl_valuer:=⟨⟨default,default,default⟩⟩
def XV_impl_valuer.c (x:XV_impl_valuer):List AV:=[eL (cL Mh.c) x.p,eL cI x.x.From,eL (cL cI) x.x.Order,eL Mj.c x.events]
theorem XV_impl_valuer.len (x:XV_impl_valuer):(XV_impl_valuer.c x).length=4:=rfl
theorem XV_impl_valuer.isF (x:XV_impl_valuer):(XV_impl_valuer.c x).all (isF 9)=true:=rfl
inductive TXimpl_RelExpr where
 | mk (Op:Int) (Name:ByteArray) (Kids:List TXimpl_RelExpr)
structure aa where
 Op:Int
 Name:ByteArray
 Kids:List TXimpl_RelExpr
instance:Inhabited TXimpl_RelExpr:=⟨.mk default default []⟩
instance:Inhabited aa:=⟨⟨default,default,[]⟩⟩
def TXimpl_RelExpr.out:TXimpl_RelExpr->aa
 | .mk a0 a1 a2=>⟨a0,a1,a2⟩
def aa.inn (x:aa):TXimpl_RelExpr := .mk x.Op x.Name x.Kids
mutual
def TXimpl_RelExpr.c:TXimpl_RelExpr->List AV
 | .mk a0 a1 a2=>[I a0,St a1,.sl a2.length (TXimpl_RelExpr.r a2)]
def TXimpl_RelExpr.r:List TXimpl_RelExpr->Nat->List AV
 | []=>fun _=>[.nil,.nil,.nil]
 | x::l=>fun i=>match i with
  | 0=>TXimpl_RelExpr.c x
  | i+1=>TXimpl_RelExpr.r l i
end
theorem TXimpl_RelExpr.len (x:TXimpl_RelExpr):(TXimpl_RelExpr.c x).length=3:=by
 cases x;simp only [TXimpl_RelExpr.c];rfl
theorem TXimpl_RelExpr.isF (x:TXimpl_RelExpr):(TXimpl_RelExpr.c x).all (isF 9)=true:=by
 cases x;simp only [TXimpl_RelExpr.c];rfl
theorem TXimpl_RelExpr.r0 (x:TXimpl_RelExpr) (l:List TXimpl_RelExpr):TXimpl_RelExpr.r (x::l) 0=TXimpl_RelExpr.c x:=by simp only [TXimpl_RelExpr.r]
theorem TXimpl_RelExpr.r1 (x:TXimpl_RelExpr) (l:List TXimpl_RelExpr) (i:Nat):TXimpl_RelExpr.r (x::l) (i+1)=TXimpl_RelExpr.r l i:=by simp only [TXimpl_RelExpr.r]
def aa.c (x:aa):List AV:=[I x.Op,St x.Name,eL TXimpl_RelExpr.c x.Kids]
theorem aa.len (x:aa):(aa.c x).length=3:=rfl
theorem aa.isF (x:aa):(aa.c x).all (isF 9)=true:=rfl
theorem TXimpl_RelExpr.out_c (x:TXimpl_RelExpr):BN (TXimpl_RelExpr.c x) (aa.c x.out):=by
 cases x;simp only [TXimpl_RelExpr.c];exact ⟨EqS.refl _,⟨EqS.refl _,⟨EqS.slr TXimpl_RelExpr.r0 TXimpl_RelExpr.r1 _,trivial⟩⟩⟩
theorem aa.inn_c (x:aa):BN (aa.c x) (TXimpl_RelExpr.c x.inn):=by
 cases x;simp only [aa.inn,TXimpl_RelExpr.c];exact ⟨EqS.refl _,⟨EqS.refl _,⟨EqS.slr' TXimpl_RelExpr.r0 TXimpl_RelExpr.r1 _,trivial⟩⟩⟩
structure ai where
 Kind:Int
 Expr:aa
instance:Inhabited ai:=⟨⟨default,default⟩⟩
def ai.c (x:ai):List AV:=[I x.Kind,I x.Expr.Op,St x.Expr.Name,eL TXimpl_RelExpr.c x.Expr.Kids]
theorem ai.len (x:ai):(ai.c x).length=4:=rfl
theorem ai.isF (x:ai):(ai.c x).all (isF 9)=true:=rfl
structure Z3i where
 x0:Int
 x1:Int
 x2:Int
instance:Inhabited Z3i:=⟨⟨default,default,default⟩⟩
def Z3i.c (x:Z3i):List AV:=[I x.x0,I x.x1,I x.x2]
theorem Z3i.len (x:Z3i):(Z3i.c x).length=3:=rfl
theorem Z3i.isF (x:Z3i):(Z3i.c x).all (isF 9)=true:=rfl
def Z3i.get (a:Z3i) (q:Int):Int:=if q=0 then a.x0 else if q=1 then a.x1 else a.x2
def Z3i.set (a:Z3i) (q:Int) (v:Int):Z3i:=if q=0 then ⟨v,a.x1,a.x2⟩ else if q=1 then ⟨a.x0,v,a.x2⟩ else ⟨a.x0,a.x1,v⟩
structure Mk where
 at_:LI
 regs:LI
 mem:LI
 buf:LL
instance:Inhabited Mk:=⟨⟨default,default,default,default⟩⟩
def Mk.c (x:Mk):List AV:=[eL cI x.at_,eL cI x.regs,eL cI x.mem,eL (cL cI) x.buf]
theorem Mk.len (x:Mk):(Mk.c x).length=4:=rfl
theorem Mk.isF (x:Mk):(Mk.c x).all (isF 9)=true:=rfl
structure Z3b where
 x0:Int
 x1:Int
 x2:Int
instance:Inhabited Z3b:=⟨⟨default,default,default⟩⟩
def Z3b.c (x:Z3b):List AV:=[Y x.x0,Y x.x1,Y x.x2]
theorem Z3b.len (x:Z3b):(Z3b.c x).length=3:=rfl
theorem Z3b.isF (x:Z3b):(Z3b.c x).all (isF 9)=true:=rfl
def Z3b.get (a:Z3b) (q:Int):Int:=if q=0 then a.x0 else if q=1 then a.x1 else a.x2
def Z3b.set (a:Z3b) (q:Int) (v:Int):Z3b:=if q=0 then ⟨v,a.x1,a.x2⟩ else if q=1 then ⟨a.x0,v,a.x2⟩ else ⟨a.x0,a.x1,v⟩
structure Z33 where
 x0:Z3b
 x1:Z3b
 x2:Z3b
instance:Inhabited Z33:=⟨⟨default,default,default⟩⟩
def Z33.c (x:Z33):List AV:=[Y x.x0.x0,Y x.x0.x1,Y x.x0.x2,Y x.x1.x0,Y x.x1.x1,Y x.x1.x2,Y x.x2.x0,Y x.x2.x1,Y x.x2.x2]
theorem Z33.len (x:Z33):(Z33.c x).length=9:=rfl
theorem Z33.isF (x:Z33):(Z33.c x).all (isF 9)=true:=rfl
def Z33.get (a:Z33) (q:Int):Z3b:=if q=0 then a.x0 else if q=1 then a.x1 else a.x2
def Z33.set (a:Z33) (q:Int) (v:Z3b):Z33:=if q=0 then ⟨v,a.x1,a.x2⟩ else if q=1 then ⟨a.x0,v,a.x2⟩ else ⟨a.x0,a.x1,v⟩
structure Ml where
 p:List (List Mh)
 pc:Z3b
 reg:Z33
 mem:Z3b
instance:Inhabited Ml:=⟨⟨default,default,default,default⟩⟩
def Ml.c (x:Ml):List AV:=[eL (cL Mh.c) x.p,Y x.pc.x0,Y x.pc.x1,Y x.pc.x2,Y x.reg.x0.x0,Y x.reg.x0.x1,Y x.reg.x0.x2,Y x.reg.x1.x0,Y x.reg.x1.x1,Y x.reg.x1.x2,Y x.reg.x2.x0,Y x.reg.x2.x1,Y x.reg.x2.x2,Y x.mem.x0,Y x.mem.x1,Y x.mem.x2]
theorem Ml.len (x:Ml):(Ml.c x).length=16:=rfl
theorem Ml.isF (x:Ml):(Ml.c x).all (isF 9)=true:=rfl
structure Mm where
 values:Ml
instance:Inhabited Mm:=⟨⟨default⟩⟩
def Mm.c (x:Mm):List AV:=[eL (cL Mh.c) x.values.p,Y x.values.pc.x0,Y x.values.pc.x1,Y x.values.pc.x2,Y x.values.reg.x0.x0,Y x.values.reg.x0.x1,Y x.values.reg.x0.x2,Y x.values.reg.x1.x0,Y x.values.reg.x1.x1,Y x.values.reg.x1.x2,Y x.values.reg.x2.x0,Y x.values.reg.x2.x1,Y x.values.reg.x2.x2,Y x.values.mem.x0,Y x.values.mem.x1,Y x.values.mem.x2]
theorem Mm.len (x:Mm):(Mm.c x).length=16:=rfl
theorem Mm.isF (x:Mm):(Mm.c x).all (isF 9)=true:=rfl
structure ah where
 b:LI
 p:Int
instance:Inhabited ah:=⟨⟨default,default⟩⟩
def ah.c (x:ah):List AV:=[eL cY x.b,I x.p]
theorem ah.len (x:ah):(ah.c x).length=2:=rfl
theorem ah.isF (x:ah):(ah.c x).all (isF 9)=true:=rfl
structure ae where
 rest:ByteArray
 failed:Bool
instance:Inhabited ae:=⟨⟨default,default⟩⟩
def ae.c (x:ae):List AV:=[St x.rest,Bo x.failed]
theorem ae.len (x:ae):(ae.c x).length=2:=rfl
theorem ae.isF (x:ae):(ae.c x).all (isF 9)=true:=rfl
structure Xutf8_acceptRange where
 lo:Int
 hi:Int
instance:Inhabited Xutf8_acceptRange:=⟨⟨default,default⟩⟩
def Xutf8_acceptRange.c (x:Xutf8_acceptRange):List AV:=[Y x.lo,Y x.hi]
theorem Xutf8_acceptRange.len (x:Xutf8_acceptRange):(Xutf8_acceptRange.c x).length=2:=rfl
theorem Xutf8_acceptRange.isF (x:Xutf8_acceptRange):(Xutf8_acceptRange.c x).all (isF 9)=true:=rfl
end
end Go.Proofs.YtcmimhffgmckjaaGreatDoor
