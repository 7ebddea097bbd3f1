/- Texts joined. No conditions. -/
import Derived.Test.YtdmahcaohkplcaaGreatDoorC3
namespace Go.Proofs.YtdmahcaohkplcaaGreatDoor
noncomputable section
open _root_.Inhabited renaming default -> Uo
open _root_.Bool renaming true -> Uq
open _root_.Bool renaming false -> Ur
open _root_.Option renaming some -> Us
open _root_.Option renaming none -> Ut
open _root_.Decidable renaming decide -> Uu
open _root_.List renaming replicate -> V9, getElem?_set_ne -> Wd, length_take -> Wm, all_eq_true -> Wn, getElem?_cons_zero -> Wo, getElem?_set_self -> Wq, getElem?_take -> Ws, range -> Wt, mem_replicate -> Wx, length_replicate -> WE, map_take -> WG, length_drop -> WH, mem_map -> WI, range_succ -> WJ, mem_of_getElem? -> WK, contains_eq_mem -> WN, ext_getElem? -> WO, map_drop -> WR, nil_append -> WU, getElem?_cons_succ -> WY, eq_nil_of_length_eq_zero -> WZ, length_singleton -> W7
open _root_.Nat renaming mul_le_mul_right -> We, add_mul -> Wh, beq -> Wi, ble -> Wj, zero_le -> Wp, le_refl -> Wu, mul_comm -> Wy, min_eq_left -> WF, lt_or_ge -> WL, add_zero -> WQ
open _root_.Array renaming range -> Wv, getElem?_eq_some_iff -> Wz, length_toList -> WA, getElem?_toList -> WB, mem_of_getElem? -> WC, any_eq_true' -> WM, replicate -> WP, getElem?_eq_none -> WV, setIfInBounds_comm -> WW, getElem?_append_left -> WX, getElem?_eq_getElem -> W6
open _root_.Bool renaming or_eq_true -> Ww, false_eq_true -> WS
open _root_.Option renaming bind_eq_some_iff -> WT, map_eq_some_iff -> W5
open Go.RowKit
set_option maxRecDepth 100000
section
variable {P:Program} {o:Oper} {ρ:Operand->AV} {H:AH} {x y:Operand} {t e:TypeId}
theorem EP {lo co:Operand} {l k:Int} {z:Value} (ho:o.op = .makeSlice t lo co) (ht:P.underlying t=Us (.slice e)) (hlo:ρ lo = .v (.int .i64 l)) (hco:ρ co = .v (.int .i64 k)) (hz:(P.info? e).bind (·.zero)=Us z)
  (h0:0<=l) (h1:l<=k) (hb:k*(P.bytesOf e:Int)<=140737488355328) (hk:k<=140737488355328) (hs:0<P.cellsOf e) (hzs:(dV z).length=P.cellsOf e) (hz1:nD z.cells=Uq) :
  Lj P o ρ H ⟨0,P.cellsOf e,e,V9 k.toNat<|dV z⟩ (.hs H.length 0 (P.cellsOf e) 0 l.toNat):=by
 cases hi:P.info? e with
 | none=>simp_all
 | some i=>
  simp only [hi,Option.bind_some] at hz;have hby:P.bytesOf e=i.bytes:=by simp [Program.bytesOf,hi]
  have hce:P.cellsOf e=i.size:=by simp [Program.cellsOf,hi]
  have hzsz:z.cells.size=P.cellsOf e:=by simpa [dV] using hzs
  refine λc a hH hr hx=>?_;have hl1:=(gL<|hlo ▸ hx lo (by rw [ho];simp [Op.operands])).1;have hk1:=(gL<|hco ▸ hx co (by rw [ho];simp [Op.operands])).1;have hzc:=vu c hz1;have hsize:(sizeOf e).run P c.w = .ok (P.cellsOf e) c.w:=run_sizeOf c.w hi;have hzero:(zeroValue e).run P c.w = .ok z c.w:=by simp [zeroValue,typeInfo,hi,hz]
  refine ⟨(Wv<|k.toNat*P.cellsOf e).map (z.cells[· % z.cells.size]!),.slice (Us ⟨c.w.heap.size,0,Ut⟩) l.toNat k.toNat,?_,Cx.new_rel hr _ _ hs (by simp) (λq row h=>?_) λq row j a' h1' h2=>?_,?_⟩
  ·rw [execOp,ho];refine (?_:Sem.run P _ c.w=_);have hneg : ¬ ((((Uu (k<0)||Uu (i.bytes*k>2 ^ 48))||Uu (l<0))||Uu (l>k))=Uq):=by
    simp only [Ww,dte,not_or];rw [hby,Int.mul_comm] at hb;omega
   have : (Instr.makeSlice t (a.eval lo)<|a.eval co).run P c.w = .ok (.slice (Us ⟨c.w.heap.size,0,Ut⟩) l.toNat k.toNat) (c.w.alloc (.cells ((Wv<|k.toNat*P.cellsOf e).map (z.cells[· % z.cells.size]!)) e)):=by
    rw [hl1,hk1];simp only [Instr.makeSlice,Sem.run_bind,av ht,Result.andThen_ok,asInt,asIntOf,Sem.run_pure,run_typeInfo c.w hi,F4 (n:=l) h0 (by omega),F4 (n:=k) (by omega) (by omega)];rw [if_neg hneg];simp only [Sem.run_bind,run_askRoom,Result.andThen_ok,hsize]
    by_cases h00:k.toNat*P.cellsOf e=0
    ·rw [if_pos h00,h00];have h00':∀ f:Nat->Value,Array.map f (Wv 0) = #[]:=λf=>Array.eq_empty_of_size_eq_zero (by simp);simp [newRow,h00']
    rw [if_neg h00];simp [hzero,newRow]
   simp only [Sem.run_bind,this,Result.andThen_ok,Sem.run_pure]
   rfl
  ·grind
  ·have hq:q<k.toNat:=by
    have := (ges h1').1;simpa using this
   have := WK h1';rw [Wx] at this;rw [this.2] at h2;have hj:j<P.cellsOf e:=by
    have := (ges h2).1;omega
   have hfit:q*P.cellsOf e+j<k.toNat*P.cellsOf e:=by
    have : (q+1)*P.cellsOf e<=k.toNat*P.cellsOf e:=We _ (by omega);rw [Wh] at this;omega
   simp only;rw [Dn _ _ _ hfit (by omega),hzsz,Wy,Nat.mul_add_mod,Nat.mod_eq_of_lt hj];exact hzc.get h2
  subst hH;have := Cx.new_hs c ⟨0,P.cellsOf e,e,V9 k.toNat<|dV z⟩ ((Wv<|k.toNat*P.cellsOf e).map (z.cells[· % z.cells.size]!)) (n:=l.toNat) (cap:=k.toNat) (by simp;omega) (by omega) (by omega) (by simp);omega
theorem P6 {ag:Bool} {w m:Nat} {zs:List AV} {a b:Int} (q:SlT P t e ag w zs m) (ho:o.op = .makeSlice t x y) (hx:ρ x = .v (.int .i64 a)) (hy:ρ y = .v (.int .i64 b)) (hq:0<=a/\a<=b/\b*(m:Int)<=140737488355328/\b<=140737488355328) :
  Lj P o ρ H ⟨0,w,e,V9 b.toNat zs⟩ (.hs H.length 0 w 0 a.toNat):=by
 have hz:=q.z.z;have h1:=q.z.one
 cases hb:(P.info? e).bind (·.zero) with
 | none=>simp_all
 | some z=>
  rw [hb] at hz h1;simp only [Option.map_some,sie] at hz h1;have h:=EP (P:=P) (o:=o) (ρ:=ρ) (H:=H) ho q.u hx hy hb hq.1 hq.2.1 (by rw [q.by_];omega) hq.2.2.2 (by rw [q.ty.cells];exact nlb q.pos) (by rw [hz,q.ty.cells];exact q.zl) h1;rw [hz,q.ty.cells] at h;exact h
end
section
variable {P:Program}
theorem Ren.aggL {S:Nat->Nat->Prop} {l k:List AV} (h:RenL S l k):Ren S (.agg l) (.agg k) := .agg h.spec.1 h.spec.2
end
def Pi (ops:Array Oper):Nat->Nat->Nat->Bool
 | 0,_,_=>Ur
 | n+1,j,i=>match ops[j]? with
  | some oj=>oj.after.any λed=>Region.binds .any ed&&(ed.on==i||Pi ops n ed.on i)
  | none=>Ur
def ClL (ops:Array Oper) (listed:Array Bool):Prop:=∀ (j:Nat) (oj:Oper),ops[j]? = Us oj->listed.getD j Ur=Uq->∀ ed∈oj.after,Region.binds .any ed=Uq->listed.getD ed.on Ur=Uq
theorem LO {listed:Array Bool} {i j:Nat} (h:listed.getD i Ur=Uq):(listed.setIfInBounds j Uq).getD i Ur=Uq:=by
 by_cases e:j=i
 ·subst e;rcases WL j listed.size with h' | h'
  ·simp [h']
  simp [WV h'] at h
 simp_all
theorem ClL.up {ops:Array Oper} {listed:Array Bool} {j:Nat} (h:ClL ops listed) (hj:j∈Region.ready .any ops listed):ClL ops (listed.setIfInBounds j Uq):=by
 intro i oi hoi hl ed he hb
 by_cases e:j=i
 ·subst e;obtain ⟨_,oj,hoj,hall⟩:=mem_ready.1 hj;rw [hoi] at hoj;injection hoj with hoj;subst hoj;exact LO<|hall ed he hb
 refine LO<|h i oi hoi ?_ ed he hb
 simp_all
theorem Fu {ops:Array Oper} {listed:Array Bool} {i:Nat} (h:ClL ops listed) (hi:listed.getD i Uq=Ur):∀ (n j:Nat),(∀ oj,ops[j]? = Us oj->∀ ed∈oj.after,Region.binds .any ed=Uq->listed.getD ed.on Ur=Uq)->Pi ops n j i=Ur
 | 0,_,_=>rfl
 | n+1,j,hj=>by
  unfold Pi
  split
  ·rename_i oj hoj;rw [Bool.eq_false_iff];intro hany;rw [WM] at hany;obtain ⟨ed,h1,h2⟩:=hany;simp only [bae,Ww,beq_iff_eq] at h2;have hl:=hj oj hoj ed h1 h2.1;rcases h2.2 with h3 | h3
   ·grind
   rw [Fu h hi n ed.on λoj' CK=>h ed.on oj' CK hl] at h3
   cases h3
  rfl
section
variable {P:Program}
theorem IL {ops:Array Oper} {fp:Nat->Fp} {Q:Env->AH->Prop} {i n:Nat} {oi:Oper} {r:AV} (hi:ops[i]? = Us oi) :
  ∀ (fuel:Nat) (listed:Array Bool) (e:Env) (H Hi:AH),ClL ops listed ->
   (∀ (j:Nat) (oj:Oper),ops[j]? = Us oj->j≠i->listed.getD j Uq=Ur->Pi ops (n+1) j i=Ur->oi.apart ops oj=Uq/\qQ (fp i) (fp j)=Uq) ->
   i∈Region.ready .any ops listed->uf P oi (rho e) H r Hi (fp i).1->((fp i).2=Ur->Hi=H)->NJ P ops fp Q fuel (listed.setIfInBounds i Uq) (rN e oi.dst r) Hi->NJ P ops fp Q (fuel+1) listed e H:=by
 intro fuel
 induction fuel with
 | zero=>
  intro listed e H Hi _ _ hr hy hro hA;refine ⟨λh=>(by simp_all),λj hj=>?_⟩
  by_cases hji:j=i
  ·grind
  have := ready_mono hj hji;rw [hA.1] at this
  grind
 | succ fuel ih=>
  intro listed e H Hi hcl hfree hr hy hro hA;refine ⟨λh=>(by simp_all),λj hj=>?_⟩
  by_cases hji:j=i
  ·grind
  obtain ⟨oj,q,Hj,hoj,hsj,hroj,hAj⟩:=hA.2 j<|ready_mono hj hji;obtain ⟨hjun,oj',CK,hall⟩:=mem_ready.1 hj;rw [hoj] at CK;injection CK with CK;subst CK;have hnot:Pi ops (n+1) j i=Ur:=Fu hcl (mem_ready.1 hr).1 (n+1) j λoj' CK=>by
   rw [hoj] at CK;injection CK with CK;subst CK;exact hall
  obtain ⟨hap,hcm⟩:=hfree j oj hoj hji hjun hnot;obtain ⟨h1,h2,h3⟩:=Oper.apart_spec hap;have ej:=vv (e:=e) (r:=r) h1;have ei:=vv (e:=e) (oi:=oj) (r:=q) h3;have hsj':=hsj.congr ej;have hfree':∀ (k:Nat) (ok:Oper),ops[k]? = Us ok->k≠i->(listed.setIfInBounds j Uq).getD k Uq=Ur->Pi ops (n+1) k i=Ur->oi.apart ops ok=Uq/\qQ (fp i) (fp k)=Uq:=λk ok hk hki hun hno=>by
   refine hfree k ok hk hki ?_ hno
   by_cases hjk:j=k
   ·subst hjk;exact hjun
   rw [getD_set_ne Uq hjk] at hun;exact hun
  have fin:∀ Hj',uf P oj (rho e) H q Hj' (fp j).1->((fp j).2=Ur->Hj'=H)->uf P oi (rho e) Hj' r Hj (fp i).1->((fp i).2=Ur->Hj=Hj')->∃ o r' H',ops[j]? = Us o/\uf P o (rho e) H r' H' (fp j).1/\((fp j).2=Ur->H'=H)/\NJ P ops fp Q (fuel+1) (listed.setIfInBounds j Uq) (rN e o.dst r') H':=λHj' s1 s1' s2 s2'=>by
   refine ⟨oj,q,Hj',hoj,s1,s1',ih (listed.setIfInBounds j Uq) (rN e oj.dst q) Hj' Hj (hcl.up hj) hfree' (ready_mono hr<|Ne.symm hji) (s2.congr λx hx=>(ei x hx).symm) s2' ?_⟩;rw [WW _ _ hji,Ap (λd hd=>λhd'=>h2 d (by simpa using hd')<|by simpa using hd)];exact hAj
  simp only [qQ,Ww,bae,Bool.not_eq_true',Wn,WN,decide_eq_false_iff_not] at hcm;rcases hcm with hdis | ⟨w1,w2⟩
  ·have hag:agree (fp j).1 H Hi:=⟨hy.1.symm,λb hb=>(hy.2.1 b λhbi=>hdis b hbi hb).symm⟩;obtain ⟨Hj',a1,a2,a3,a4⟩:=hsj'.at_ hag;have hag2:agree (fp i).1 Hj' H:=⟨a1,λb hb=>a3 b<|hdis b hb⟩;obtain ⟨K,b1,b2,b3,b4⟩:=hy.at_ hag2;have hKH:K=Hj:=by
    apply WO;intro b
    by_cases hbi:b∈(fp i).1
    ·rw [b2 b hbi,hsj'.2.1 b (hdis b hbi)]
    rw [b3 b hbi]
    by_cases hbj:b∈(fp j).1
    ·exact a2 b hbj
    rw [a3 b hbj,hsj'.2.1 b hbj,hy.2.1 b hbi]
   subst hKH;refine fin Hj' a4 (λhw=>?_) b4 λhw=>?_
   ·apply WO;intro b
    by_cases hbj:b∈(fp j).1
    ·rw [a2 b hbj,hroj hw,hy.2.1 b (λhbi=>hdis b hbi hbj)]
    exact a3 b hbj
   apply WO;intro b
   by_cases hbi:b∈(fp i).1
   ·rw [b2 b hbi,hro hw,a3 b (hdis b hbi)]
   exact b3 b hbi
  grind
def Sg (ops:Array Oper) (fp:Nat->Fp):Bool:=
 Region.lexB .any ops&&ops.all (λo=>o.guard.isNone) &&
 (Wt ops.size).all λi=>(Wt ops.size).all λj=>Uu (j<=i)||qQ (fp i) (fp j)||Pi ops 6 j i
theorem JE {ops:Array Oper} {fp:Nat->Fp} {Q:Env->AH->Prop} (hc:Sg ops fp=Uq):∀ (l:List Oper) (k:Nat) (listed:Array Bool) (e:Env) (H:AH),ClL ops listed->(∀ j,l[j]? = ops[k+j]?)->listed.size=ops.size->(∀ j,j<k->listed.getD j Uq=Uq) ->
  Region.lexFrom .any ops l.length k listed=Uq->TF P fp k l Q e H->NJ P ops fp Q l.length listed e H
 | [],k,listed,e,H,_,_,_,_,hB,h=>⟨by simpa [Region.lexFrom] using hB,h⟩
 | o::l,k,listed,e,H,hcl,hl,hsz,hbef,hB,h=>by
  have h0:ops[k]? = Us o:=by simpa using (hl 0).symm
  have hk:k<ops.size:=(Wz.1 h0).1;simp only [llc,Region.lexFrom,bae] at hB;obtain ⟨⟨hr,hf⟩,hB'⟩:=hB;obtain ⟨r,H',hs,hro,hK⟩:=h;have hrk:k∈Region.ready .any ops listed:=by simpa using hr
  refine IL (n:=5) h0 l.length listed e H H' hcl (λj oj hj hne hun hno=>?_) hrk hs hro
   (JE hc l (k+1) _ _ _ (hcl.up hrk) (λj=>by have := hl<|j+1;grind) (by simp_all) (λj hj=>?_) hB' hK)
  ·have hno1:∀ ed∈oj.after,Region.binds .any ed=Uq->ed.on≠k:=λed he hb heq=>by
    unfold Pi at hno;simp only [hj] at hno;rw [Bool.eq_false_iff] at hno;refine hno ?_;rw [WM];exact ⟨ed,he,by simp [hb,heq]⟩
   refine ⟨Region.free_spec h0 hf j oj hj hne hun hno1,?_⟩;have hjs:j<ops.size:=(Wz.1 hj).1;have hkj : ¬ j<=k:=λhle=>by
    have := hbef j (by omega);rw [this] at hun
    cases hun
   simp only [Sg,bae,Wn,List.mem_range] at hc
   grind
  by_cases e:j=k
  ·simp_all
  rw [getD_set_ne Uq (Ne.symm e)]
  grind
variable {nt b0:Nat} {Q:Exit->Env->AH->Prop} {e:Env} {H:AH}
theorem T.drawH {i:Nat} {ops:Array Oper} (fp:Nat->Fp) (hm:P.follows .mixedOrders=Uq) (hc:Sg ops fp=Uq) (h:TF P fp 0 ops.toList (Q .normal) e H):T P nt b0 (.region i ops Uq) Q e H:=by
 intro hok c c0 a hH hb hx hs;simp only [codeOk] at hok;have hc':=hc;simp only [Sg,bae,Region.lexB] at hc';refine wp_region_any hm ?_;have hlex:=JE hc ops.toList 0 (WP ops.size Ur) e H (λj oj hj hl=>by
  rcases WL j ops.size with h' | h'
  ·simp [h'] at hl
  simp_all) (λj=>by simp) (by simp) (λj hj=>absurd hj (by omega)) (by simp_all) h
 have := BC hok hc'.1.2 ops.toList.length _ e H hlex c.drew c0 a hH (hx.trans c.drew_ext) ⟨hs.size,hs.defers,λt=>(hs.rel t).ext hs.heap c.drew_ext,Cx.drew_rel hs.heap⟩;rw [WA] at this;exact this
end
section
variable {P:Program} {ρ:Operand->AV} {H H':AH}
structure MethT (P:Program) (t:TypeId) (name:String) (g:FuncId) (off:Nat):Prop where
 ex:∃ i m e,P.info? t=Us i/\i.methods.find? (·.name==name)=Us m/\m.func=Us (g,Uq)/\P.underlying t=Us (.pointer e) /\
  ((m.path.toList=[]/\off=0)\/∃ s k fs fl u,m.path.toList=[⟨s,k,Uq⟩]/\P.underlying s=Us (.struct fs)/\fs[k]? = Us fl/\P.cellsOf fl.type≠0/\(P.info? fl.type).isSome=Uq/\fl.offset=off/\P.underlying fl.type=Us u/\(∀ e,u ≠ .pointer e))
def Ro (P:Program) (t:TypeId) (name:String) (g:FuncId) (off:Nat):Bool:=
 match P.info? t,P.underlying t with
 | some i,Us (.pointer _)=>(match i.methods.find? (·.name==name) with
  | some m=>m.func==Us (g,Uq)&&(match m.path.toList with
   | []=>off==0
   | [⟨s,k,Uq⟩]=>(match P.underlying s with
    | some (.struct fs)=>(match fs[k]? with
     | some fl=>P.cellsOf fl.type != 0&&(P.info? fl.type).isSome&&fl.offset==off&&(match P.underlying fl.type with
      | some (.pointer _) | none=>Ur
      | some _=>Uq)
     | none=>Ur)
    | _=>Ur)
   | _=>Ur)
  | none=>Ur)
 | _,_=>Ur
theorem MethT.of {t:TypeId} {name:String} {g off:Nat} (h:Ro P t name g off=Uq):MethT P t name g off:=by
 unfold Ro at h
 split at h
 ·rename_i i e hi hu
  split at h
  ·rename_i m hm;simp only [bae,beq_iff_eq] at h;obtain ⟨hf,h⟩:=h;refine ⟨i,m,e,hi,hm,hf,hu,?_⟩
   split at h
   ·rename_i hp;exact .inl ⟨hp,by simpa using h⟩
   ·rename_i s k hp
    split at h
    ·rename_i fs hs
     split at h
     ·rename_i fl hfl;simp only [bae,beq_iff_eq,bne_iff_ne,ne_eq] at h;obtain ⟨⟨⟨h1,h2⟩,h3⟩,h4⟩:=h
      cases hfu:P.underlying fl.type with
      | none=>rw [hfu] at h4;cases h4
      | some u=>exact .inr ⟨s,k,fs,fl,u,hp,hs,hfl,h1,h2,h3,hfu,λe' he=>by subst he;rw [hfu] at h4;cases h4⟩
     cases h
    cases h
   cases h
  cases h
 grind
def TN (off:Nat):AV->AV
 | .fp row j => .fp row (j+off)
 | .hp b v s i j => .hp b v s i (j+off)
 | a=>a
theorem KA {t:TypeId} {name:String} {g off:Nat} (hm:MethT P t name g off) (w:World) (n:Nat) {g0:Nat} {o0:Nat} (v:Value) (hv:v = .pointer (Us ⟨g0,o0,Ut⟩)):(method (n+1) t v name).run P w = .ok (g,.pointer<|Us ⟨g0,o0+off,Ut⟩) w:=by
 obtain ⟨i,m,e,hi,hf,hg,hu,hp⟩:=hm.ex;have e1:(typeInfo t).run P w = .ok i w:=run_typeInfo w hi;rcases hp with ⟨hp,rfl⟩ | ⟨s,k,fs,fl,u,hp,hs,hk,hc,_,rfl,hfu,hne⟩
 ·simp only [method,Sem.run_bind,e1,Result.andThen_ok,hf,hp,follow,Sem.run_pure,hg,receiverAt,av hu,Place.get,hv,WQ]
 obtain ⟨i2,hi2⟩:=Aj hc
 have e2 : (receiverAt fl.type (.var ⟨g0,o0 + fl.offset,none⟩) true (if m.path.isEmpty then some ((name.splitOn ".").getLastD name) else none)).run P w = .ok (.pointer (some ⟨g0,o0 + fl.offset,none⟩)) w := by
  unfold receiverAt;simp only [Sem.run_bind,av hfu,Result.andThen_ok]
  cases u <;> simp_all
 simp only [method,Sem.run_bind,e1,Result.andThen_ok,hf,hp,follow,Sem.run_pure,hg,av hs,hk,Place.get,hv,asAddr,fieldPlace,run_sizeOf w hi2,hc,if_false,if_true,add0,e2]
theorem EQ {t:TypeId} {name:String} {g off:Nat} (hm:MethT P t name g off) (hcl:kg P g=Uq) (w:World) {g0 o0:Nat} (args:Array Value) :
  (callMethod (.iface t<|.pointer<|Us ⟨g0,o0,Ut⟩) name args).run P w = .ok (.enter g<|#[.pointer (Us ⟨g0,o0+off,Ut⟩)]++args) w:=by
 have h0:0<Made.depth:=by decide
 obtain ⟨n,hn⟩:∃ n,P.types.size+Made.depth=n+1:=⟨P.types.size+Made.depth-1,by omega⟩;have h1:=KA hm w n (g0:=g0) (o0:=o0) _ rfl;have h2:=xI hcl (#[.pointer (Us ⟨g0,o0+off,Ut⟩)]++args) w;have hp:(program:Sem Program).run P w = .ok P w:=rfl;simp only [callMethod,Sem.run_bind,hp,Result.andThen_ok,hn,h1];exact h2
theorem KC {o:Oper} {cl:Call} {x:Operand} {name:String} {t:TypeId} {row:List AV} {j:Nat} {g:FuncId} {off:Nat} {r:AV} (ho:o.op = .call cl) (hc:cl.callee = .invoke x name) (hx:ρ x = .ifc t (.fp row j)) (hm:MethT P t name g off)
  (h:fu P g (.fp row (j+off)::cl.args.toList.map ρ) H r H'):TP P o ρ H r H':=by
 intro c a K Q hH hr hxs hK;have hf1:=hx ▸ hxs x (by rw [ho];simp [Op.operands,Call.operands,hc]);obtain ⟨y,he,hrel⟩:=Bq hf1;have hfp:=wZ hrel;have key:∃ g0 o0,y = .pointer (Us ⟨g0,o0,Ut⟩)/\c.rel (.fp row<|j+off) (.pointer<|Us ⟨g0,o0+off,Ut⟩):=by
  cases hfp with
  | fp us hg hlt hu h1 h=>
   refine ⟨_,_,rfl,?_⟩;rw [Nat.add_assoc];exact .fr<|.fp us hg hlt hu h1 h
 obtain ⟨g0,o0,hy,hrec⟩:=key;have hargs:GU c (.fp row (j+off)::cl.args.toList.map ρ) (#[.pointer (Us ⟨g0,o0+off,Ut⟩)]++cl.args.map a.eval):=by
  refine ⟨by simp;omega,λi q v hq hv=>?_⟩
  match i with
  | 0=>
   simp only [Wo,sie] at hq;have : (#[Value.pointer (Us ⟨g0,o0+off,Ut⟩)]++cl.args.map a.eval)[0]? = Us (Value.pointer<|Us ⟨g0,o0+off,Ut⟩):=by
    rw [WX (show 0<1 by decide)]
    rfl
   rw [this] at hv;injection hv with hv;subst hq hv;exact hrec
  | i+1=>
   simp only [WY,List.getElem?_map,WB] at hq;have e:(#[Value.pointer (Us ⟨g0,o0+off,Ut⟩)]++cl.args.map a.eval)[i+1]? = (cl.args.map a.eval)[i]? := by
    rw [Array.getElem?_append_right (by simp)];simp
   rw [e,Array.getElem?_map] at hv
   cases ha:cl.args[i]? with
   | none=>rw [ha] at hq;cases hq
   | some z=>
    rw [ha] at hq hv;injection hq with hq;injection hv with hv;subst hq hv;refine hxs z ?_;rw [ho];have hz:=WC ha;simp [Op.operands,Call.operands,hz]
 have hrun:(execOp a.eval o).run P c.w = .ok (.enter g<|#[.pointer (Us ⟨g0,o0+off,Ut⟩)]++cl.args.map a.eval) c.w:=by
  have h3:=EQ hm h.1 c.w (g0:=g0) (o0:=o0)<|cl.args.map a.eval;rw [execOp,ho];simp only [resolve,hc,he,hy,Sem.run_bind,Sem.run_pure,Result.andThen_ok,invoke];have e1:((#[Value.iface t (.pointer<|Us ⟨g0,o0,Ut⟩)]++cl.args.map a.eval)[0]? : Option Value)=Us (Value.iface t<|.pointer<|Us ⟨g0,o0,Ut⟩):=by
   rw [WX (show 0<1 by decide)]
   rfl
  have e2:(#[Value.iface t (.pointer<|Us ⟨g0,o0,Ut⟩)]++cl.args.map a.eval).extract 1 (#[Value.iface t (.pointer<|Us ⟨g0,o0,Ut⟩)]++cl.args.map a.eval).size=cl.args.map a.eval:=by
   apply Array.ext';simp;exact List.take_of_length_le (by simp)
  rw [e1,e2];exact h3
 unfold Oper.wp;rw [hrun,Oper.upon_enter];refine (h.2 c _ hH hr hargs).mono λe w' ⟨v,c',he,hw,hH',hr',hx,hv⟩ => ?_
 grind
end
section
variable {α:Type}
theorem Rp {P:Int->Prop} {q:Int} (g:0<=q/\q<3) (h0:P 0) (h1:P 1) (h2:P 2):P q:=by
 grind
def ifO (t:TypeId) (c:α->List AV):Option α->AV
 | some x => .ifc t (.fp (c x) 0)
 | none => .v .nilIface
theorem JF [Inhabited α] {t:TypeId} {c:α->List AV} {o:Option α} (h:o.isSome=Uq):ifO t c o = .ifc t (.fp (c<|o.getD Uo) 0):=by
 cases o with
 | none=>cases h
 | some x=>rfl
end
section
variable {P:Program} {ρ:Operand->AV} {H H':AH} {x y:Operand} {t e:TypeId}
theorem TS.ixafp {ag:Bool} {n w:Nat} {row:List AV} {j:Nat} {k:IntKind} {q:Int} (hu:P.underlying t=Us (.array n e)) (ty:TyF P e ag w) (hx:ρ x = .fp row j) (hy:ρ y = .v (.int k q)) (hq:0<=q/\q<n):TS P ρ (.indexAddr t x y) (.fp row<|j+q.toNat*w) := .mk λK hK=>by
 show iy P t (ρ x) (ρ y) K;simp only [iy,hu,hx,hy,ty.cells];exact ⟨hq,Ck.intro ty.info hK⟩
theorem TS.ixahp {ag:Bool} {n w:Nat} {b ver s i j:Nat} {k:IntKind} {q:Int} (hu:P.underlying t=Us (.array n e)) (ty:TyF P e ag w) (hx:ρ x = .hp b ver s i j) (hy:ρ y = .v (.int k q)) (hq:0<=q/\q<n):TS P ρ (.indexAddr t x y) (.hp b ver s i<|j+q.toNat*w) := .mk λK hK=>by
 show iy P t (ρ x) (ρ y) K;simp only [iy,hu,hx,hy,ty.cells];exact ⟨hq,Ck.intro ty.info hK⟩
theorem TS.ixag {ag:Bool} {n w:Nat} {cs:List AV} {k:IntKind} {q:Int} (a:AV) (hu:P.underlying t=Us (.array n e)) (ty:TyF P e ag w) (hx:ρ x = .agg cs) (hy:ρ y = .v (.int k q)) (hq:0<=q/\q<n) (hp:o7 ag w cs (q.toNat*w)=Us a):TS P ρ (.index t x y) a := .mk λK hK=>by
 show Dz P t (ρ x) (ρ y) K;simp only [Dz,hu,hx,hy,ty.cells];exact ⟨hq,Ck.intro ty.info<|Ar ty hp hK⟩
theorem TS.mkifc {u:TypeDesc} (a:AV) (hu:P.underlying t=Us u) (hn:∀ m,u ≠ .interface m) (hx:ρ x=a):TS P ρ (.makeInterface t x) (.ifc t a) := .mk λK hK=>by
 show Aa P ρ (.makeInterface t x) K;simp only [Aa,hu,hx]
 cases u <;> first | exact absurd rfl (hn _) | (rw [AV.force_iff];exact hK)
end
def up (m:Nat) (gh:NG):NG:=λi=>((gh i).1,(gh i).2.1+m,(gh i).2.2)
section
variable {α:Type}
def TU (m:Nat) (gh:NG) (w:Nat) (l:List<|List α):List (List AV):=df (up m gh) w l
theorem Ga {m:Nat} {gh:NG} {w:Nat} {l:List (List α)} {i:Nat} (h:i<l.length):(TU m gh w l)[i]? = Us [hS (gh i).1 ((gh i).2.1+m) (gh i).2.2 w (l.getD i []).length]:=cO h
theorem Rq (m:Nat) (gh:NG) (i:Nat) (g:Bool) (k v:Nat):(up m gh).put i (g,k+m,v)=up m (gh.put i (g,k,v)):=by
 funext j
 show (bif Wi j i then (g,k+m,v) else ((gh j).1,(gh j).2.1+m,(gh j).2.2))=((bif Wi j i then (g,k,v) else gh j).1,(bif Wi j i then (g,k,v) else gh j).2.1+m,(bif Wi j i then (g,k,v) else gh j).2.2)
 grind
theorem P8 {m:Nat} {gh:NG} {w:Nat} {l:List (List α)} {i:Nat} {g:Bool} {k v:Nat} {r:List α} (h:i<l.length):(TU m gh w l).set i [hS g (k+m) v w r.length]=TU m (gh.put i (g,k,v)) w (l.set i r):=by
 unfold TU;rw [vz h,Rq]
theorem Qa (m w n:Nat):V9 n [AV.nil]=TU m (λi=>(Uq,i,0)) w (V9 n ([]:List α)):=by
 apply List.ext_getElem
 ·simp [TU,df]
 intro i h1 h2;simp [TU,df,GG,hS,up]
theorem yK {m:Nat} {gh:NG} {w:Nat} {l:List (List α)}:(TU m gh w l).length=l.length:=dP _ _ _
structure NN (K:AH) (gh:NG) (w:Nat) (ty:TypeId) (f:α->List AV) (l:List (List α)):Prop where
 nk:NK 0 K gh w ty f l
 kf:KF K
variable {K:AH} {gh:NG} {w:Nat} {ty:TypeId} {f:α->List AV} {l:List (List α)}
theorem NN.at_ (h:NN K gh w ty f l) {i:Nat} (hi:i<l.length):K[(gh i).2.1]? = Us (bE (gh i).1 (gh i).2.2 w ty<|(l.getD i []).map f):=(h.nk.at_ i hi).2
theorem NN.lt (h:NN K gh w ty f l) {i:Nat} (hi:i<l.length):(gh i).2.1<K.length:=(ges<|h.at_ hi).1
theorem NN.nil_ (h:NN K gh w ty f l) {i:Nat} (hi:i<l.length):(gh i).1=Uq->l.getD i []=[]:=h.nk.nil_ i hi
theorem KF.set {k:Nat} {x:Option ABlk} (h:KF K) (hx:∀ b,x=Us b->CO b):KF (K.set k x):=λi b hb=>by
 by_cases e:k=i
 ·grind
 rw [Wd e] at hb;exact h i b hb
theorem KF.cons {x:Option ABlk} (h:KF K) (hx:∀ b,x=Us b->CO b):KF (x::K):=λi b hb=>by
 match i,hb with
 | 0,hb=>exact hx b (osl hb)
 | i+1,hb=>exact h i b hb
theorem JG {g:Bool} {v:Nat} {l:List α} (hf:∀ x,(f x).all (isF 9)=Uq):∀ b,bE g v w ty (l.map f)=Us b->CO b:=λb hb=>by
 cases g with
 | true=>cases hb
 | false=>
  obtain rfl:=osl hb;exact λr hr a ha=>nH hf r hr a ha
theorem NN.push (h:NN K gh w ty f l) {x:Option ABlk} (hx:∀ b,x=Us b->CO b):NN (x::K) (up 1 gh) w ty f l:=
 ⟨⟨λi hi=>⟨Wp _,h.at_ hi⟩,λi hi=>h.nil_ hi,λi j hi hj hne he=>h.nk.sep i j hi hj hne<|by simpa [up] using he⟩,h.kf.cons hx⟩
theorem NN.nil:NN ([]:AH) gh w ty f []:=⟨⟨λi hi=>by grind,λi hi=>by grind,λi j hi=>by grind⟩,λi k hk=>by grind⟩
theorem NN.rep (n:Nat):NN (V9 n Ut) (λi=>(Uq,i,0)) w ty f (V9 n []):=by
 refine ⟨⟨λi hi=>⟨Wp _,?_⟩,λi hi _=>?_,λi j _ _ hne=>hne⟩,λi k hk=>?_⟩
 ·simp only [WE] at hi;simp [hi,bE]
 ·simp only [WE] at hi;simp [hi]
 grind
theorem NN.fz [Inhabited α] (h:NN K gh w ty f l) (S:AH) {b ver n:Nat} {to:TypeId} (hb:(S++K)[b]? = Us (bE Ur ver 1 to<|TU S.length gh w l)) (hn:n=l.length) (hf:∀ x,(f x).all (isF 9)=Uq):Fz 0 (S++K) (hS Ur b ver 1 n) (eL (cL f) l):=by
 have hk:NK 0 (S++K) (up S.length gh) w ty f l:=⟨λi hi=>⟨Wp _,by
  show (S++K)[(gh i).2.1+S.length]? = _;rw [gar (by omega),Nat.add_sub_cancel];exact h.at_ hi⟩,λi hi=>h.nil_ hi,λi j hi hj hne he=>h.nk.sep i j hi hj hne (by simpa [up] using he)⟩
 exact hk.fz hb hn hf
end
def Rot (m N:Nat) (i j:Nat):Prop:=(i<m/\j=i)\/(m<=i/\i<N+m/\j=i+1)\/(i=N+m/\j=m)
theorem Rot.low {m N i:Nat} (h:Nat.blt i m=Uq):Rot m N i i := .inl ⟨nlb h,rfl⟩
theorem Rot.up {m N k:Nat} (h:k<N):Rot m N (k+m) (k+(m+1)) := .inr<|.inl ⟨by omega,by omega,rfl⟩
theorem Rot.new {m N:Nat}:Rot m N (N+m) m := .inr<|.inr ⟨rfl,rfl⟩
inductive RenHL (S:Nat->Nat->Prop):AH->AH->Prop
 | nil:RenHL S [] []
 | none {l l':AH} (t:RenHL S l l'):RenHL S (Ut::l) (Ut::l')
 | some {k k':ABlk} {l l':AH} (h:RenK S k k') (t:RenHL S l l'):RenHL S (Us k::l) (Us k'::l')
theorem RenHL.bE {S:Nat->Nat->Prop} {α:Type} {g:Bool} {v w:Nat} {ty:TypeId} {f:α->List AV} {x:List α} {l l':AH} (hf:∀ x,(f x).all (isF 9)=Uq) (t:RenHL S l l'):RenHL S (bE g v w ty (x.map f)::l) (Go.Proofs.YtdmahcaohkplcaaGreatDoor.bE g v w ty (x.map f)::l'):=by
 cases g with
 | true=>exact .none t
 | false=>exact .some (.ofF λr hr a ha=>nH hf r hr a ha) t
theorem RenHL.spec {S:Nat->Nat->Prop} {l l':AH} (h:RenHL S l l'):l.length=l'.length/\(∀ (i:Nat) (k:ABlk),l[i]? = Option.some (Option.some k)->∃ k',l'[i]? = Option.some (Option.some k')/\RenK S k k')/\∀ (i:Nat) (k':ABlk),l'[i]? = Option.some (Option.some k')->∃ k,l[i]? = Option.some (Option.some k)/\RenK S k k':=by
 induction h with
 | nil=>simp_all
 | none t ih=>
  grind
 | some h t ih=>
  grind
theorem Reid.rot {b0 m N:Nat} {S S' K:AH} {x x':Option ABlk} (hm:S.length=m) (hN:K.length=N) (hb:Wj b0 m=Uq) (hS:RenHL (Rot m N) S S') (hK:KF K) (hx:RenHL (Rot m N) [x] [x']):Reid b0 (Rot m N) (S++K++[x]) (S'++x'::K):=by
 have hb:=nlb hb;obtain ⟨h1,h2,h3⟩:=hS.spec;obtain ⟨_,h5,h6⟩:=hx.spec;have hm':S'.length=m:=h1.symm.trans hm;have a1:∀ i,i<m->(S++K++[x])[i]? = S[i]? := λi hi=>by grind
 have a2:∀ k,k<N->(S++K++[x])[k+m]? = K[k]? := λk hk=>by
  grind
 have a3:(S++K++[x])[N+m]? = Us x:=by
  rw [List.append_assoc,gar (by omega),gar (by omega)];have : N+m-S.length-K.length=0:=by omega
  rw [this]
  rfl
 have c1:∀ i,i<m->(S'++x'::K)[i]? = S'[i]? := λi hi=>gal (by omega);have c2:(S'++x'::K)[m]? = Us x':=by
  rw [gar (by omega)];have : m-S'.length=0:=by omega
  rw [this]
  rfl
 have c3:∀ k,(S'++x'::K)[k+m+1]? = K[k]? := λk=>by
  grind
 refine ⟨λi j j' e1 e2=>?_,λi i' j e1 e2=>?_,λi hi => .inl ⟨by omega,rfl⟩,by grind,λj k0 hk=>?_,λi j k hS hk=>?_⟩
 ·rcases e1 with ⟨_,rfl⟩ | ⟨_,_,rfl⟩ | ⟨_,rfl⟩ <;> rcases e2 with ⟨_,rfl⟩ | ⟨_,_,rfl⟩ | ⟨_,rfl⟩ <;> omega
 ·rcases e1 with ⟨_,e1⟩ | ⟨_,_,e1⟩ | ⟨_,e1⟩ <;> rcases e2 with ⟨_,e2⟩ | ⟨_,_,e2⟩ | ⟨_,e2⟩ <;> omega
 ·rcases Nat.lt_trichotomy j m with hj | hj | hj
  ·rw [c1 j hj] at hk;obtain ⟨k,g1,g2⟩:=h3 j k0 hk;exact ⟨j,k,.inl ⟨hj,rfl⟩,by simp_all,g2⟩
  ·subst hj;rw [c2] at hk;obtain rfl:=osl hk;obtain ⟨k,g1,g2⟩:=h6 0 k0 rfl;obtain rfl:=osl g1;exact ⟨_,k,.new,a3,g2⟩
  obtain ⟨q,rfl⟩:∃ q,j=q+m+1:=⟨j-m-1,by omega⟩;rw [c3 q] at hk;have hq:q<N:=by rw [<- hN];exact (ges hk).1
  exact ⟨q+m,k0,.inr<|.inl ⟨by omega,by omega,rfl⟩,by simp_all,.ofF<|hK q k0 hk⟩
 rcases hS with ⟨e1,rfl⟩ | ⟨e1,e2,rfl⟩ | ⟨rfl,rfl⟩
 ·rw [a1 _ e1] at hk;obtain ⟨k',g1,_⟩:=h2 _ k hk;exact ⟨k',by rw [c1 _ e1];exact g1⟩
 ·obtain ⟨q,rfl⟩:∃ q,i=q+m:=⟨i-m,by omega⟩;rw [a2 q (by omega)] at hk;exact ⟨k,by rw [c3 q];exact hk⟩
 grind
theorem bh {S:Nat->Nat->Prop} {g:Bool} {i j v w n:Nat} (h:S i j):Ren S (hS g i v w n) (hS g j v w n):=by
 cases g with
 | true=>exact .nil
 | false=>exact .hs h
theorem NN.renK {α:Type} {K:AH} {gh:NG} {w ver m N:Nat} {ty to:TypeId} {f:α->List AV} {l:List (List α)} (h:NN K gh w ty f l) (hN:K.length=N):RenK (Rot m N) ⟨ver,1,to,TU m gh w l⟩ ⟨ver,1,to,TU (m+1) gh w l⟩:=by
 refine ⟨rfl,rfl,rfl,by simp [yK],λi r r' hr hr' => ?_⟩;have hi:i<l.length:=by
  have := (ges hr).1
  rwa [yK] at this
 rw [Ga hi] at hr hr';obtain rfl:=osl hr;obtain rfl:=osl hr';refine ⟨rfl,λj a a' ha ha' => ?_⟩
 match j with
 | 0=>
  obtain rfl:=osl ha;obtain rfl:=osl ha';exact bh<|.up (by rw [<- hN];exact h.lt hi)
 | j+1=>grind
theorem um {S:Nat->Nat->Prop} {e:Env}:∀ t,Ren S (e t) (ak [] t):=λ_ => .top
theorem bA {S:Nat->Nat->Prop} {e:Env} {t:Nat} {a a0:AV} {l:List (Nat×AV)} (he:e t=a0) (h:Ren S a0 a) (w:∀ q,Ren S (e q)<|ak l q):∀ q,Ren S (e q) (ak ((t,a)::l) q):=by
 intro q;rcases Bu t a l q with ⟨rfl,h1⟩ | h1
 ·rw [h1,he];exact h
 simp_all
theorem bL {S:Nat->Nat->Prop} {e:Env} {t:Nat} {a:AV} {l:List (Nat×AV)} (he:e t=a) (h:isF 9 a=Uq) (w:∀ q,Ren S (e q)<|ak l q):∀ q,Ren S (e q) (ak ((t,a)::l) q):=bA he (ay 9 a h) w
theorem Fv {c:Cx} {row row2:List AV} {j n:Nat} {v:Value} (hs:(row.drop j).take n=row2) (h:c.rel (.fp row j) v):c.rel (.fp row2 0) v:=by
 have h:=wZ h
 cases h with
 | @fp _ _ g o us hg hlt hu h1 hr=>
  subst hs;have key:∀ (q:Nat) (a:AV),((row.drop j).take n)[q]? = Us a->row[j+q]? = Us a:=λq a hq=>by
   grind
  exact .fr<|.fp (g:=g) (o:=o+j) (j:=0) (λq=>us<|j+q) hg hlt (λq a hq=>by grind) (λq a hq=>h1 _ _<|key q a hq) λq a hq=>hr _ _<|key q a hq
section
variable {P:Program} {ρ:Operand->AV} {H H':AH} {x y:Operand} {t e:TypeId}
theorem TS.fafpS (n:Nat) {fs:Array Field} {f:Nat} {fl:Field} {row row2:List AV} {j:Nat} (hu:P.underlying t=Us (.struct fs)) (hf:fs[f]? = Us fl) (hc:(P.cellsOf fl.type != 0)=Uq) (hx:ρ x = .fp row j) (hs:(row.drop<|j+fl.offset).take n=row2):TS P ρ (.fieldAddr t x f) (.fp row2 0):=
 (TS.fafp hu hf hc hx).res λ_ _ h=>Fv hs h
theorem fu.argw {g:FuncId} {as' as2:List AV} {r:AV} (h:fu P g as2 H r H') (hl:as2.length=as'.length) (hw:∀ c:Cx,∀ (i:Nat) (a b:AV) (v:Value),as'[i]? = Us a->as2[i]? = Us b->c.rel a v->c.rel b v):fu P g as' H r H':=
 ⟨h.1,λc vs hH hr hall=>h.2 c vs hH hr ⟨by rw [hall.1,hl],λi q v hq hv=>by
  obtain ⟨a,ha⟩:=bY hl hq;exact hw c i a q v ha hq (hall.2 i a v ha hv)⟩⟩
theorem TS.invS (n:Nat) {cl:Call} {name:String} {t:TypeId} {row row2:List AV} {j:Nat} {g:FuncId} {off:Nat} {ars:List AV} {r:AV} (hc:cl.callee = .invoke x name) (hx:ρ x = .ifc t (.fp row j)) (hm:MethT P t name g off) (ha:cl.args.toList.map ρ=ars)
  (hs:(row.drop<|j+off).take n=row2) (h:ax P g (.fp row2 0::ars) r) (hF:ars.all (isF 9)=Uq):TS P ρ (.call cl) r:=λo ho G=>by
 subst ha;refine KC ho hc hx hm<|(h.acall ?_ G).argw rfl λc i a b v h1 h2 hr=>?_
 ·simp only [List.all_cons,hF,Bool.and_true]
  rfl
 match i with
 | 0=>
  obtain rfl:=osl h1;obtain rfl:=osl h2;exact Fv hs hr
 | i+1=>
  grind
variable {nt b0:Nat} {Q:Exit->Env->AH->Prop} {en:Env} {ops:Array Oper}
theorem TO.reserve {l:List Oper} (h:TO P nt b0 ops l Q en<|H++[Ut]):TO P nt b0 ops l Q en H:=by
 intro hd k hl hn c c0 a hH hb hx hr;subst hH;exact h hd k hl hn c.res c0 a rfl hb (hx.trans c.res_ext) ⟨hr.size,hr.defers,λt=>(hr.rel t).ext hr.heap c.res_ext,Cx.res_heap hr.heap⟩
theorem TO.reserveN {l:List Oper}:∀ (n:Nat) {H:AH},TO P nt b0 ops l Q en (H++V9 n Ut)->TO P nt b0 ops l Q en H
 | 0,H,h=>by simp_all
 | n+1,H,h=>by
  refine TO.reserve<|TO.reserveN n ?_
  grind
end
inductive RenRows (S:Nat->Nat->Prop):List (List AV)->List (List AV)->Prop
 | nil:RenRows S [] []
 | cons {a b:List AV} {l k:List (List AV)} (h:RenL S a b) (t:RenRows S l k):RenRows S (a::l) (b::k)
theorem RenRows.spec {S:Nat->Nat->Prop} {l k:List (List AV)} (h:RenRows S l k):l.length=k.length/\∀ (i:Nat) (c d:List AV),l[i]? = Us c->k[i]? = Us d->RenL S c d:=by
 induction h with
 | nil=>simp_all
 | cons h t ih=>
  grind
theorem RenK.rowsL {S:Nat->Nat->Prop} {v s:Nat} {ty:TypeId} {r r':List (List AV)} (h:RenRows S r r'):RenK S ⟨v,s,ty,r⟩ ⟨v,s,ty,r'⟩:=
 ⟨rfl,rfl,rfl,h.spec.1,λi a b ha hb=>(h.spec.2 i a b ha hb).spec⟩
theorem RenK.rowL {S:Nat->Nat->Prop} {v s:Nat} {ty:TypeId} {r r':List AV} (h:RenL S r r'):RenK S ⟨v,s,ty,[r]⟩ ⟨v,s,ty,[r']⟩ := .rowsL<|.cons h .nil
section
variable {α:Type} {K:AH} {gh:NG} {w:Nat} {ty:TypeId} {f:α->List AV} {l:List (List α)}
theorem RenHL.nest {S:Nat->Nat->Prop} {g:Bool} {ver s:Nat} {to:TypeId} {rows rows':List (List AV)} {H H':AH} (h:RenK S ⟨ver,s,to,rows⟩ ⟨ver,s,to,rows'⟩) (t:RenHL S H H'):RenHL S (Go.Proofs.YtdmahcaohkplcaaGreatDoor.bE g ver s to rows::H) (Go.Proofs.YtdmahcaohkplcaaGreatDoor.bE g ver s to rows'::H'):=by
 cases g with
 | true=>exact .none t
 | false=>exact .some h t
theorem NN.lit (L:List<|List α) (hf:∀ x,(f x).all (isF 9)=Uq):NN (L.map λr=>bE Ur 0 w ty<|r.map f) (λi=>(Ur,i,0)) w ty f L:=by
 refine ⟨⟨λi hi=>⟨Wp _,?_⟩,λi hi hn=>(by cases hn),λi j _ _ hne=>hne⟩,λi k hk=>?_⟩
 ·grind
 rw [List.getElem?_map] at hk
 cases hL:L[i]? with
 | none=>simp_all
 | some r=>
  rw [hL] at hk;exact JG hf k<|osl hk
structure NX (K:AH) (gh:NG) (w:Nat) (ty:TypeId) (f:α->List AV) (l:List (List α)) (i:Nat):Prop where
 hi:i<l.length
 at_:∀ j,j<l.length->j≠i->K[(gh j).2.1]? = Us (bE (gh j).1 (gh j).2.2 w ty<|(l.getD j []).map f)
 nil_:∀ j,j<l.length->j≠i->(gh j).1=Uq->l.getD j []=[]
 sep:∀ j k,j<l.length->k<l.length->j≠i->k≠i->j≠k->(gh j).2.1≠(gh k).2.1
 kf:KF K
theorem NN.opened (h:NN K gh w ty f l) {i:Nat} (hi:i<l.length):NX (K.set (gh i).2.1 Ut) gh w ty f l i:=
 ⟨hi,λj hj hne=>by rw [Wd (h.nk.sep i j hi hj<|Ne.symm hne)];exact h.at_ hj,λj hj _=>h.nil_ hj,λj k hj hk _ _ hne=>h.nk.sep j k hj hk hne,h.kf.set nofun⟩
theorem NX.close {i:Nat} (h:NX K gh w ty f l i) {g:Bool} {v:Nat} {r:List α} (hg:g=Uq->r=[]) (hf:∀ x,(f x).all (isF 9)=Uq):NN (bE g v w ty (r.map f)::K) ((up 1 gh).put i (g,0,v)) w ty f (l.set i r):=by
 refine ⟨⟨λj hj=>⟨Wp _,?_⟩,λj hj hn=>?_,λj k hj hk hne he=>?_⟩,h.kf.cons<|JG hf⟩
 ·have hj':j<l.length:=by simpa using hj
  by_cases e:j=i
  ·subst e;rw [lc]
   grind
  rw [d9 _ e];have : (l.set i r).getD j []=l.getD j []:=by simp [Wd (Ne.symm e)]
  rw [this];exact h.at_ j hj' e
 ·have hj':j<l.length:=by simpa using hj
  by_cases e:j=i
  ·subst e;rw [lc] at hn
   simp_all
  rw [d9 _ e] at hn;have : (l.set i r).getD j []=l.getD j []:=by simp [Wd (Ne.symm e)]
  rw [this];exact h.nil_ j hj' e hn
 have hj':j<l.length:=by simpa using hj
 have hk':k<l.length:=by simpa using hk
 by_cases e:j=i
 ·by_cases e2:k=i
  ·omega
  subst e;rw [lc,d9 _ e2] at he;simp [up] at he
 by_cases e2:k=i
 ·subst e2;rw [lc,d9 _ e] at he;simp [up] at he
 rw [d9 _ e,d9 _ e2] at he;exact h.sep j k hj' hk' e e2 hne (by simpa [up] using he)
def nxs (m:Nat) (gh:NG) (w:Nat) (l:List<|List α) (i:Nat) (g:Bool) (q v n:Nat):List (List AV):=(TU m gh w l).set i [hS g q v w n]
theorem Au {m:Nat} {i:Nat} {g:Bool} {v:Nat} {r:List α} (hi:i<l.length):nxs m (up 1 gh) w l i g (0+m) v r.length=TU m ((up 1 gh).put i (g,0,v)) w (l.set i r):=P8 hi
theorem zC {m i q v n:Nat} {g:Bool} (hi:i<l.length):(nxs m gh w l i g q v n)[i]? = Us [hS g q v w n]:=by
 unfold nxs;rw [Wq (by rw [yK];exact hi)]
theorem IM {m i q v n q' v' n':Nat} {g g':Bool}:(nxs m gh w l i g q v n).set i [hS g' q' v' w n']=nxs m gh w l i g' q' v' n':=by
 unfold nxs
 simp_all
theorem Qb {m i q v n:Nat} {g:Bool}:(nxs m gh w l i g q v n).length=l.length:=by
 unfold nxs;rw [List.length_set,yK]
def Opn (m k:Nat) (i j:Nat):Prop:=(i<m/\j=i)\/(i=k+m/\j=m)\/(m<=i/\i≠k+m/\j=i+1)
theorem Opn.low {m k i:Nat} (h:Nat.blt i m=Uq):Opn m k i i := .inl ⟨nlb h,rfl⟩
theorem Reid.open {b0 m:Nat} {S S' K:AH} {k:Nat} {x:Option ABlk} (hm:S.length=m) (hk:K[k]? = Us x) (hb:Wj b0 m=Uq) (hS:RenHL (Opn m k) S S') (hK:KF K):Reid b0 (Opn m k) (S++K) (S'++x::K.set k Ut):=by
 have hb:=nlb hb;obtain ⟨h1,h2,h3⟩:=hS.spec;have hm':S'.length=m:=h1.symm.trans hm;have hkl:=(ges hk).1;have a1:∀ i,i<m->(S++K)[i]? = S[i]? := λi hi=>gal (by omega);have a2:∀ q,(S++K)[q+m]? = K[q]? := λq=>by
  grind
 have c1:∀ i,i<m->(S'++x::K.set k Ut)[i]? = S'[i]? := λi hi=>gal (by omega);have c2:(S'++x::K.set k Ut)[m]? = Us x:=by
  rw [gar (by omega)];have : m-S'.length=0:=by omega
  rw [this]
  rfl
 have c3:∀ q,(S'++x::K.set k Ut)[q+m+1]? = (K.set k Ut)[q]? := λq=>by
  grind
 refine ⟨λi j j' e1 e2=>?_,λi i' j e1 e2=>?_,λi hi => .inl ⟨by omega,rfl⟩,by grind,λj k0 hk0=>?_,λi j k1 hS1 hk1=>?_⟩
 ·rcases e1 with ⟨_,rfl⟩ | ⟨_,rfl⟩ | ⟨_,_,rfl⟩ <;> rcases e2 with ⟨_,rfl⟩ | ⟨_,rfl⟩ | ⟨_,_,rfl⟩ <;> omega
 ·rcases e1 with ⟨_,e1⟩ | ⟨_,e1⟩ | ⟨_,_,e1⟩ <;> rcases e2 with ⟨_,e2⟩ | ⟨_,e2⟩ | ⟨_,_,e2⟩ <;> omega
 ·rcases Nat.lt_trichotomy j m with hj | hj | hj
  ·rw [c1 j hj] at hk0;obtain ⟨k1,g1,g2⟩:=h3 j k0 hk0;exact ⟨j,k1,.inl ⟨hj,rfl⟩,by simp_all,g2⟩
  ·subst hj;rw [c2] at hk0;obtain rfl:=osl hk0;exact ⟨k+j,k0,.inr<|.inl ⟨rfl,rfl⟩,by simp_all,.ofF<|hK k k0 hk⟩
  obtain ⟨q,rfl⟩:∃ q,j=q+m+1:=⟨j-m-1,by omega⟩;rw [c3 q] at hk0;have hq:q≠k:=λe=>by
   simp_all
  rw [Wd (Ne.symm hq)] at hk0;exact ⟨q+m,k0,.inr<|.inr ⟨by omega,by omega,by omega⟩,by simp_all,.ofF<|hK q k0 hk0⟩
 rcases hS1 with ⟨e1,rfl⟩ | ⟨rfl,rfl⟩ | ⟨e1,e2,rfl⟩
 ·grind
 ·simp_all
 obtain ⟨q,rfl⟩:∃ q,i=q+m:=⟨i-m,by omega⟩
 grind
theorem NN.renOpn {ver m i:Nat} {to:TypeId} (h:NN K gh w ty f l) (hi:i<l.length):RenK (Opn m (gh i).2.1) ⟨ver,1,to,TU m gh w l⟩ ⟨ver,1,to,nxs (m+1) gh w l i (gh i).1 m (gh i).2.2 (l.getD i []).length⟩:=by
 refine ⟨rfl,rfl,rfl,by rw [yK,Qb],λj r r' hr hr' => ?_⟩;have hj:j<l.length:=by
  have := (ges hr).1
  rwa [yK] at this
 by_cases e:j=i
 ·subst e;rw [Ga hj] at hr;rw [zC hj] at hr';obtain rfl:=osl hr;obtain rfl:=osl hr';refine ⟨rfl,λp a a' ha ha' => ?_⟩
  match p with
  | 0=>
   obtain rfl:=osl ha;obtain rfl:=osl ha';exact bh<|.inr<|.inl ⟨rfl,rfl⟩
  | p+1=>grind
 unfold nxs at hr';rw [Wd (Ne.symm e),Ga hj] at hr';rw [Ga hj] at hr;obtain rfl:=osl hr;obtain rfl:=osl hr';refine ⟨rfl,λp a a' ha ha' => ?_⟩
 match p with
 | 0=>
  obtain rfl:=osl ha;obtain rfl:=osl ha';exact bh<|.inr<|.inr ⟨by omega,λe2=>h.nk.sep j i hj hi e (by omega),by omega⟩
 | p+1=>grind
end
section
variable {P:Program} {H:AH} {s:Nat}
def Ij (P:Program) (H:AH) (s:Nat) (a:AV) (news:List<|List AV):Prop:=∀ (c:Cx) (u:Value),c.H=H->HRel c->c.rel a u ->
 (∀ w,(Builtin.lenOf u).run P w = .ok news.length w)/\(∀ (i:Nat) (row:List AV),news[i]? = Us row->row.length=s) /\
 ∀ n,n<=news.length->∃ vs:List Value,(∀ w,w.heap=c.w.heap->(Builtin.firstCells s n u).run P w = .ok vs.toArray w)/\Fg c s (news.take n) vs
theorem Ij.of {a:AV} {news:List (List AV)} (len:Nat) (hl:news.length=len) (h:∀ (c:Cx) (u:Value),c.H=H->HRel c->c.rel a u->∃ A cap,u = .slice A len cap/\∀ n,n<=len->∃ vs,SrcIs P c s (.slice A n cap) (news.take n) vs):Ij P H s a news:=λc u hH hr hu=>by
 obtain ⟨A,cap,rfl,h1⟩:=h c u hH hr hu;refine ⟨λw=>by rw [hl];simp [Builtin.lenOf],λi row hi=>?_,λn hn=>?_⟩
 ·obtain ⟨vs,h2⟩:=h1 len<|Wu _;refine h2.rows i row ?_
  grind
 obtain ⟨vs,h2⟩:=h1 n (by omega);refine ⟨vs,λw hw=>?_,h2.is⟩;have h3:=h2.cells w hw;rw [Wm,WF hn] at h3;rw [<- h3]
 cases A <;> rfl
theorem Ij.own {b ver off len:Nat} {k:ABlk} (hk:H[b]? = Us (Us k)) (hv:k.ver=ver) (hs:k.s=s) (hn:off+len<=k.rows.length):Ij P H s (.hs b ver s off len) ((k.rows.drop off).take len):=
 .of len (by grind) λc u hH hr hu=>by
  cases hu with
  | fr h=>cases h
  | @hs _ _ _ _ _ cap A hb hc hm h0 hx=>
   refine ⟨A,cap,rfl,λn hn' => ?_⟩;rw [List.take_take,WF hn'];exact cu.own hk hv hs (by omega) rfl c _ hH hr<|.hs hb (by omega) hm h0 λx hx'=>⟨(hx x hx').1,by grind,(hx x hx').2.2.1,(hx x hx').2.2.2⟩
theorem Ij.fz {α:Type} [Inhabited α] {f:α->List AV} {l:List α} (hf:∀ x,(f x).length=s):Ij P H s (eL f l) (l.map f):=
 .of l.length (by simp) λc u hH hr hu=>by
  have h:=wY hu
  cases h with
  | @sl _ cap sz g o _ a us hc hm ha hs hu2 h1 h=>
   refine ⟨a,cap,rfl,λn hn=>?_⟩;have e:(l.map f).take n=(Wt n).map λi=>f (l.getD i Uo):=by
    rw [<- WG,<- zm f (l.take n),Wm,WF hn];apply List.map_congr_left;intro i hi;have hi':i<n:=by simpa using hi
    simp [Ws,hi']
   rw [e];refine cu.sl (H:=c.H) (n:=n) (row:=λi=>f<|l.getD i Uo) (λi _=>hf _) c _ rfl hr<|.fr<|.sl (s:=sz) (g:=g) (o:=o) us (by omega) hm (λh0=>ha<|by omega) (λi hi=>hs i<|by omega) (λi j a hi=>hu2 i j a<|by omega) (λi j a hi=>h1 i j a<|by omega) λi j a hi=>h i j a (by omega)
variable {o:Oper} {ρ:Operand->AV}
theorem Oa {cl:Call} {x y:Operand} {t u e:TypeId} {b ver off len:Nat} {k:ABlk} {news:List (List AV)} (ho:o.op = .call cl) (h1:cl.callee = .builtin .copy) (h2:cl.args.toList=[x,y]) (h3:cl.argTypes.toList=[t,u])
  (ht:P.underlying t=Us (.slice e)) (hi:(P.info? e).isSome=Uq) (hse:P.cellsOf e=s) (hx:ρ x = .hs b ver s off len) (hb:H[b]? = Us (Us k)) (hv:k.ver=ver) (hs:k.s=s) (hoff:off+len<=k.rows.length) (hsrc:Ij P H s (ρ y) news) :
  TP P o ρ H (.v<|.int .i64 (min news.length len:Nat)) (H.set b<|Us { k with rows:=k.rows.take off++news.take (min news.length len)++k.rows.drop (off+min news.length len) }):=by
 intro c a K Q hH hr hxs hK;obtain ⟨callee,args,ts⟩:=cl;simp only at h1 h2 h3;obtain rfl:args = #[x,y]:=by grind
 obtain rfl:ts = #[t,u]:=by grind
 subst h1;have hx1:=hx ▸ hxs x (by rw [ho];simp [Op.operands,Call.operands]);obtain ⟨hlen,hrl,hfirst⟩:=hsrc c _ hH hr<|hxs y (by rw [ho];simp [Op.operands,Call.operands]);generalize hn:min news.length len=n at hK ⊢;obtain ⟨vs,hvs,his⟩:=hfirst n (by omega);obtain ⟨hvl,hv1,hvr⟩:=his;rw [Wm,WF (by omega)] at hvl;have hl:c.live b k:=by unfold Cx.live;rw [hH];exact hb
 generalize hux:a.eval x=ux at hx1
 cases hx1 with
 | fr h=>cases h
 | @hs _ _ _ _ _ cap A hbn hcl hcm h0 hh=>
  obtain ⟨cur,fr,hB⟩:=hr.blk b k hl;obtain ⟨fr,rfl,hat,hd⟩:=hB.cells hl λx hx=>(hh x<|hv ▸ hx).1.trans hs.symm;rw [hv] at hd;obtain ⟨_,_,hA,hcf⟩:=hh _ hd;simp only at hA hcf;obtain ⟨ti,hti⟩:=lL hi;have hsize:(sizeOf e).run P c.w = .ok s c.w:=by rw [run_sizeOf c.w hti,<- hse]
  have hexec:∀ w',(match A with | some ad=>(storeCells ad vs).run P c.w | none => .ok () c.w) = .ok () w'->(execOp a.eval o).run P c.w = .ok (.value<|.int .i64 (n:Int)) w':=λw' hw=>by
   have e1:(Builtin.copy_ #[t,u] o.type #[.slice A len cap,a.eval y]).run P c.w = .ok (.int .i64 (n:Int)) w':=by
    have hm:Nat.min news.length len=n:=hn
    cases A with
    | none=>
     simp only at hw;injection hw with _ hw;subst hw;simp [Builtin.copy_,Sem.run_bind,av ht,hlen,hsize,hm,hvs c.w rfl,goInt]
    | some ad=>
     simp only at hw;simp [Builtin.copy_,Sem.run_bind,av ht,hlen,hsize,hm,hvs c.w rfl,hw,goInt]
   simp [execOp,ho,resolve,invoke,builtin,hux,e1]
  unfold Oper.wp;rcases Nat.eq_zero_or_pos n with h00 | hpos
  ·-- nothing is copied
   have hv0:vs=[]:=WZ (by simp_all);have hk0:({ k with rows:=k.rows.take off++news.take n++k.rows.drop (off+n) }:ABlk)=k:=by
    rw [h00];simp
   rw [hexec c.w (by subst hv0;cases A <;> rfl)];refine hK _ c ?_ hr (Ext.refl c)<|cN rfl;rw [hk0,Dr H b _ hb,hH]
  have h0':0<cap:=by omega
  obtain rfl:=hA h0';have hfit:=hB.fits;have hsp:=hB.pos;have hle:(c.φ b).2+off*s+vs.length<=cur.toList.length:=by
   have h5:(off+len)*s<=k.rows.length*s:=We _ hoff;have h6:n*s<=len*s:=We _ (by omega);rw [Wh] at h5;have hct:cur.toList.length=cur.size:=WA;rw [hs] at hfit;rw [hvl,hct];omega
  have hst:=iA (P:=P) (c.φ b).1 ((c.φ b).2+off*s) k.ty fr vs 0 cur c.w hat (hB.fre fr rfl) (by omega) hv1;rw [WQ] at hst;have hg2:=λq=>Bs cur.toList _ _ hle q;have hs2:=Dp cur.toList _ _ hle;generalize hcs2:(cur.toList.take ((c.φ b).2+off*s)++vs++cur.toList.drop ((c.φ b).2+off*s+vs.length))=ls at *;have hsz2:ls.toArray.size=cur.size:=by simpa using hs2
  have hget:∀ q,ls.toArray[q]? = if (c.φ b).2+off*s<=q/\q<(c.φ b).2+off*s+vs.length then vs[q-((c.φ b).2+off*s)]? else cur[q]? := λq=>by
   simp_all
  have hrl2:(k.rows.take off++news.take n++k.rows.drop (off+n)).length=k.rows.length:=by
   simp only [lla,Wm,WH];omega
  have hrow:∀ (i:Nat) (row:List AV),(k.rows.take off++news.take n++k.rows.drop (off+n))[i]? = Us row->(off<=i/\i<off+n/\news[i-off]? = Us row)\/((i<off\/off+n<=i)/\k.rows[i]? = Us row):=λi row h=>by
   have hnl:(news.take n).length=n:=by simp;omega
   have e:=Bs k.rows off (news.take n) (by rw [hnl];omega) i
   grind
  have hlen2:∀ (i:Nat) (row:List AV),(k.rows.take off++news.take n++k.rows.drop (off+n))[i]? = Us row->row.length=k.s:=λi row h=>by
   rcases hrow i row h with ⟨_,_,h2⟩ | ⟨_,h2⟩
   ·grind
   exact hB.len i row h2
  have hext:=Cx.upd_ext (k:={ k with rows:=k.rows.take off++news.take n++k.rows.drop (off+n) }) (o:=(c.φ b).2) (cs:=ls.toArray) hr hl hB hsz2 (.inl ⟨rfl,rfl,hrl2,rfl⟩);have hrel:=Cx.upd_rel (k:={ k with rows:=k.rows.take off++news.take n++k.rows.drop (off+n) }) (o:=(c.φ b).2) (cs:=ls.toArray) hr hl hB hsz2 rfl hext hsp (by simp_all) hlen2 (λi row j a' h h'=>by
   have hj:j<s:=by
    have := (ges h').1;rw [hlen2 i row h,hs] at this;exact this
   simp only;rw [hget,hs,hvl];rcases hrow i row h with ⟨g1,g2,g3⟩ | ⟨g1,g3⟩
   ·have hf:=uk (s:=s) (show i-off<n by omega) (j:=j+1) hj;have e:i*s=(i-off)*s+off*s:=by
     rw [<- Wh]
     congr 1
     omega
    rw [if_pos (by omega)];obtain ⟨u',q1,q2,q3⟩:=hvr (i-off) row j a' (by grind) h';refine ⟨u',?_,q2,q3⟩;rw [<- q1]
    congr 1
    omega
   have hi':=(ges g3).1;rw [if_neg (λhq=>?_)]
   ·have := hB.rel i row j a' g3 h'
    grind
   rcases g1 with g1 | g1
   ·have hf:=uk (s:=s) g1 (j:=j+1) hj;omega
   have hf:(off+n)*s<=i*s:=We _ g1
   grind)
  rw [hexec _ hst];exact hK _ _ (by rw [<- hH];rfl) hrel hext (cN rfl)
variable {α:Type} {c:α->List AV} {l k:List α} {x y:Operand} {t u e:TypeId} {ag:Bool} {w m b ver off len:Nat} {zs:List AV}
def cpy (l:List α) (off:Nat) (k:List α) (len:Nat):List α:=if off+len<=l.length then l.take off++k.take (min k.length len)++l.drop (off+min k.length len) else l
theorem vA (l:List α) (off:Nat) (k:List α) (len:Nat):(cpy l off k len).length=l.length:=by
 unfold cpy
 grind
theorem Hd {lo hi:Int} {n:Nat} (h:0<=lo/\lo<=hi/\hi<=(n:Int)) (hn:n=l.length):(0+lo.toNat)+(hi.toNat-lo.toNat)<=l.length:=by omega
theorem EvA.copyO (k:List α) (q:SlT P t e ag w zs m) (hx:ρ x = .hs b ver w off len) (hk:H[b]? = Us (bE Ur ver w e<|l.map c)) (ho:off+len<=l.length) (hsrc:Ij P H w (ρ y)<|k.map c) :
  EvA P ρ (.call ⟨.builtin .copy,#[x,y],#[t,u]⟩) H (I (min k.length len:Nat)) (H.set b<|bE Ur ver w e<|(cpy l off k len).map c):=λo ho'=>by
 have h:=Oa (o:=o) (P:=P) (ρ:=ρ) (H:=H) (k:=⟨ver,w,e,l.map c⟩) ho' rfl rfl rfl q.u q.ty.info q.ty.cells hx hk rfl rfl (by simp_all) hsrc;unfold cpy;rw [if_pos ho];simpa [bE,WG,WR] using h
theorem Ij.ow {b ver:Nat} {ty:TypeId} (lo n:Nat) (hx:ρ y = .hs b ver w lo n) (hk:H[b]? = Us (bE Ur ver w ty<|l.map c)) (h:lo+n<=l.length):Ij P H w (ρ y) (((l.drop lo).take n).map c):=by
 rw [hx];have := Ij.own (P:=P) (k:=⟨ver,w,ty,l.map c⟩) hk rfl rfl (off:=lo) (len:=n) (by simpa using h)
 simp_all
theorem Ij.el [Inhabited α] (hx:ρ y=eL c l) (hc:∀ x,(c x).length=w):Ij P H w (ρ y) (l.map c):=by
 rw [hx];exact Ij.fz hc
end
section
variable {P:Program} {K V:Type} [DecidableEq K] {kn vn:Nat} {kc:K->List Value} {cv:V->List AV} {xG t e:TypeId} {l:List (K×V)} {ρ:Operand->AV} {H:AH} {x y z:Operand} {b:Nat}
theorem EvA.look (q:KeyA P xG kn kc) (hv:∀ v,(cv v).length=vn) (d:V) {zv:Value} {ok:Bool} (ht:P.underlying t=Us (.map xG e)) (hz:∀ w,(zeroValue e).run P w = .ok zv w) (hzr:∀ c:Cx,c.rel (mkA<|cv d) zv) (k:K)
 (hx:ρ x = .mp b (kn+vn)) (hy:ρ y=mkA ((kc k).map AV.v)) (hb:H[b]? = Us (Us<|mB kn vn kc cv l)) :
 EvA P ρ (.lookup t x y ok) H (bif ok then .tup [mkA (cv<|(Jy l k).getD d),.v (.bool (Jy l k).isSome)] else mkA (cv<|(Jy l k).getD d)) H:=λ_ ho=>Kv q hv d ho ht hz hzr k hx hy hb
theorem EvA.mset (q:KeyA P xG kn kc) (hv:∀ v,(cv v).length=vn) (ht:P.underlying t=Us (.map xG e)) (hs:0<kn+vn) (k:K) (v:V)
 (hx:ρ x = .mp b (kn+vn)) (hy:ρ y=mkA ((kc k).map AV.v)) (hz:(ρ z).cells=Us (cv v)) (hzm:mkA (cv v)=ρ z) (hb:H[b]? = Us (Us<|mB kn vn kc cv l)) :
 EvA P ρ (.mapUpdate t x y z) H .top (H.set b<|Us<|mB kn vn kc cv<|Ly l k v):=λ_ ho=>F6 q hv (.inl ho) ht hs k v hx hy hz hzm hb
end
section
variable {K V:Type} {kn vn:Nat} {kc:K->List Value} {cv:V->List AV} {l:List (K×V)} {H:AH}
theorem StayB.mp {m:Nat} (hv:∀ v,(cv v).all (isF 9)=Uq):StayB m H (Us<|mB kn vn kc cv l) (Us<|mB kn vn kc cv l) := .keep λr hr a ha=>by
 obtain ⟨p,_,rfl⟩:=WI.1 hr;rcases List.mem_append.1 ha with ha | ha
 ·obtain ⟨x,_,rfl⟩:=WI.1 ha
  rfl
 exact Bz 9 m a<|Wn.1 (hv p.2) a ha
end
def kI3 (k:Int×Int×Int):List Value:=[.int .i64 k.1,.int .i64 k.2.1,.int .i64 k.2.2]
section
variable {P:Program} {xG e:TypeId} {i:TypeInfo}
theorem Qc (ht:P.underlying xG=Us (.array 3 e)) (he:P.underlying e=Us (.int .i64)) (hp:P.plainKey e=Uq) (hi:P.info? e=Us i) (hc:P.cellsOf e=1) (d:Nat) (a b:Int×Int×Int) (w:World) :
  (Op.equalIn (d+1+1) xG (.agg #[.int .i64 a.1,.int .i64 a.2.1,.int .i64 a.2.2])<|.agg #[.int .i64 b.1,.int .i64 b.2.1,.int .i64 b.2.2]).run P w = .ok (Uu<|b=a) w:=by
 have q1:∀ m n:Int,(Op.equalIn (d+1) e (.int .i64 m)<|.int .i64 n).run P w = .ok (m==n) w:=λm n=>by simp [Op.equalIn,run_underlying he]
 have p1:∀ (xs:Array Value) (o:Nat) (v:Value),xs[o]? = Us v->(part e xs o).run P w = .ok v w:=λxs o v hx=>run_part_plain w hp hx;rw [run_equalIn_array w (d+1) _ _ ht hi,hc];obtain ⟨a1,a2,a3⟩:=a;obtain ⟨b1,b2,b3⟩:=b;have r0:=p1 #[.int .i64 a1,.int .i64 a2,.int .i64 a3] 0 _ rfl;have r1:=p1 #[.int .i64 a1,.int .i64 a2,.int .i64 a3] 1 _ rfl;have r2:=p1 #[.int .i64 a1,.int .i64 a2,.int .i64 a3] 2 _ rfl;have t0:=p1 #[.int .i64 b1,.int .i64 b2,.int .i64 b3] 0 _ rfl;have t1:=p1 #[.int .i64 b1,.int .i64 b2,.int .i64 b3] 1 _ rfl;have t2:=p1 #[.int .i64 b1,.int .i64 b2,.int .i64 b3] 2 _ rfl
 by_cases e1:a1=b1
 ·by_cases e2:a2=b2
  ·by_cases e3:a3=b3
   ·subst e1 e2 e3;simp [WJ,Op.eqItems,Sem.run_bind,r0,r1,r2,q1]
   subst e1 e2;simp [WJ,Op.eqItems,Sem.run_bind,r0,r1,r2,t0,t1,t2,q1,e3,Ne.symm e3]
  subst e1;simp [WJ,Op.eqItems,Sem.run_bind,r0,r1,t0,t1,q1,e2,Ne.symm e2]
 simp [WJ,Op.eqItems,Sem.run_bind,r0,t0,q1,e1,Ne.symm e1]
theorem Ob (ht:P.underlying xG=Us (.array 3 e)) (he:P.underlying e=Us (.int .i64)) (hp:P.plainKey e=Uq) (hi:P.info? e=Us i) (hc:P.cellsOf e=1) (a b:Int×Int×Int) (w:World) :
 (Op.equal xG (mkv<|kI3 a)<|mkv<|kI3 b).run P w = .ok (Uu<|b=a) w:=Qc ht he hp hi hc 9998 a b w
theorem Qd (ht:P.underlying xG=Us (.array 3 e)) (he:P.underlying e=Us (.int .i64)) (hp:P.plainKey e=Uq) (hi:P.info? e=Us i) (hc:P.cellsOf e=1) (d:Nat) (em:Bool) (x y z:Int) (w:World) :
  (Instr.checkKey em (d+1+1) xG<|.agg #[.int .i64 x,.int .i64 y,.int .i64 z]).run P w = .ok () w:=by
 have c1:∀ n:Int,(Instr.checkKey em (d+1) e<|.int .i64 n).run P w = .ok () w:=λn=>by simp [Instr.checkKey,run_underlying he]
 have r0:(part e #[.int .i64 x,.int .i64 y,.int .i64 z] 0).run P w = .ok (.int .i64 x) w:=run_part_plain w hp rfl;have r1:(part e #[.int .i64 x,.int .i64 y,.int .i64 z] 1).run P w = .ok (.int .i64 y) w:=run_part_plain w hp rfl;have r2:(part e #[.int .i64 x,.int .i64 y,.int .i64 z] 2).run P w = .ok (.int .i64 z) w:=run_part_plain w hp rfl;rw [Instr.checkKey];simp only [Sem.run_bind,run_underlying ht,Result.andThen_ok];simp [Std.Legacy.Range.forIn_eq_forIn_range',Std.Legacy.Range.size,List.range'_succ,Sem.run_bind,run_sizeOf w hi,hc,r0,r1,r2,c1]
theorem Rs (d:Nat) (x y z:Int):Instr.sameBits (d+1) (.agg #[.int .i64 x,.int .i64 y,.int .i64 z]) (.agg #[.int .i64 x,.int .i64 y,.int .i64 z])=Uq:=by
 simp [Instr.sameBits]
theorem Av (ht:P.underlying xG=Us (.array 3 e)) (he:P.underlying e=Us (.int .i64)) (hp:P.plainKey e=Uq) (hi:P.info? e=Us i) (hc:P.cellsOf e=1) (k:Int×Int×Int) (w:World):∀ (es:List MapEntry) (ks:List<|Int×Int×Int) (q:Nat),es.map (·.key)=ks.map (λk=>mkv<|kI3 k) ->
  (Instr.findAsking xG (mkv<|kI3 k) es q).run P w = .ok ((ks.findIdx? λx=>Uu<|x=k).bind λj=>es[j]?.map λe=>(q+j,e.val)) w
 | [],[],_,_=>rfl
 | [],_::_,_,h=>by grind
 | _::_,[],_,h=>by grind
 | en::es,s::ks,q,h=>by
  simp only [List.map_cons,List.cons.injEq] at h;obtain ⟨h1,h2⟩:=h;have ih:=Av ht he hp hi hc k w es ks (q+1) h2;unfold Instr.findAsking;simp only [Sem.run_bind,h1,Ob ht he hp hi hc,Result.andThen_ok]
  by_cases hs:s=k
  ·subst hs;simp [List.findIdx?_cons]
  rw [decide_eq_false hs];simp only [WS,if_false,ih,List.findIdx?_cons,decide_eq_false hs]
  cases ks.findIdx? λx=>Uu (x=k) with
  | none=>rfl
  | some j=>
   grind
theorem SA (ht:P.underlying xG=Us (.array 3 e)) (he:P.underlying e=Us (.int .i64)) (hp:P.plainKey e=Uq) (hi:P.info? e=Us i) (hc:P.cellsOf e=1):KeyA P xG 3 kI3 where
 len:=λ_=>rfl
 plain:=λk x hx=>by
  simp only [kI3,List.mem_cons,List.not_mem_nil,or_false] at hx;rcases hx with rfl | rfl | rfl <;> rfl
 check:=λw em k=>Qd ht he hp hi hc 9998 em k.1 k.2.1 k.2.2 w
 find:=λw k es ks h=>by
  rw [run_findKey_eq w (by rw [ht]) _ es,Av ht he hp hi hc k w es ks 0 h]
  simp_all
 stays:=λw k=>by
  have : Instr.sameBits 10000 (mkv<|kI3 k) (mkv<|kI3 k)=Uq:=Rs 9999 k.1 k.2.1 k.2.2;unfold Instr.keyThatStays
  simp_all
end
theorem Cx.trim {c:Cx} {b ver s off n:Nat} {ty:TypeId} {rows:List (List AV)} (hr:HRel c) (hb:c.H[b]? = Us (Us ⟨ver,s,ty,rows⟩)) (hle:off+n<=rows.length) {v:Value} (hv:c.rel (.hs b ver s off n) v) :
  ∃ c':Cx,c'.w=c.w/\c'.H=c.H.set b (Us ⟨ver+1,s,ty,(rows.drop off).take n⟩)/\HRel c'/\Ext c c'/\c'.rel (.hs b (ver+1) s 0 n) v:=by
 have hlv:c.live b ⟨ver,s,ty,rows⟩:=hb;have hblt:b<c.H.length:=(ges hb).1;obtain ⟨cs,fr,hB⟩:=hr.blk b _ hlv
 cases hv with
 | fr h=>cases h
 | @hs _ _ _ _ _ cap A hbn hc hm h0 hh=>
  obtain ⟨fr,rfl,hat,hd⟩:=hB.cells hlv λx hx=>(hh x hx).1;obtain ⟨_,hn,hA,hcap⟩:=hh _ hd;let c':Cx:={ w:=c.w,fz:=c.fz,H:=c.H.set b (Us ⟨ver+1,s,ty,(rows.drop off).take n⟩),φ:=λj=>if j=b then ((c.φ b).1,(c.φ b).2+off*s) else c.φ j };have φb:c'.φ b=((c.φ b).1,(c.φ b).2+off*s):=if_pos rfl;have φo:∀ {j},j≠b->c'.φ j=c.φ j:=λ{j} hj=>if_neg hj;have φ1:∀ j,(c'.φ j).1=(c.φ j).1:=λj=>by
   grind
  have Hb:c'.H[b]? = Us (Us ⟨ver+1,s,ty,(rows.drop off).take n⟩):=by
   show (c.H.set b _)[b]? = _
   simp_all
  have Ho:∀ {j},j≠b->c'.H[j]? = c.H[j]? := λ{j} hj=>by
   grind
  have lv:∀ {j k},c'.live j k->(j=b/\k=⟨ver+1,s,ty,(rows.drop off).take n⟩)\/(j≠b/\c.live j k):=λ{j k} hl=>by
   by_cases hj:j=b
   ·subst hj;have hl':c'.H[j]? = Us (Us k):=hl
    simp_all
   have hl':c'.H[j]? = Us (Us k):=hl;rw [Ho hj] at hl';exact .inr ⟨hj,hl'⟩
  have hx:Ext c c':=by
   refine ⟨rfl,rfl,rfl,Wu _,λ_ _ _=>rfl,λ_ h=>h,λ_ h => .inl h,by grind,λj q hj=>?_,λj q x hj hx=>?_,λj k hl => .inr ?_⟩
   ·by_cases e:j=b
    ·subst e;unfold Cx.born at hj ⊢
     grind
    unfold Cx.born at hj ⊢
    simp_all
   ·by_cases e:j=b
    ·subst e;unfold Cx.born at hj;rw [hb] at hj;unfold Cx.hd at hx
     grind
    unfold Cx.hd at hx ⊢
    grind
   grind
  have hlen:((rows.drop off).take n).length=n:=by rw [Wm,WH];omega
  have hfit:=hB.fits;simp only at hfit;refine ⟨c',rfl,rfl,⟨hr.lt,λj k hl=>?_,λj j' k k' hl hl' hne=>?_,hr.glx hx⟩,hx,?_⟩
  ·rcases lv hl with ⟨rfl,rfl⟩ | ⟨hj,h⟩
   ·refine ⟨cs,Us fr,⟨?_,?_,hB.pos,hB.free,?_,λi r hi=>?_,λi r q a hi ha=>?_⟩⟩
    ·show c.w.heap[(c'.φ j).1]? = _;rw [φ1,hat]
     rfl
    ·rw [φ1];exact hB.nf
    ·rw [φb];show (c.φ j).2+off*s+((rows.drop off).take n).length*s<=cs.size;rw [hlen];have : off*s+n*s<=rows.length*s:=by rw [<- Wh];exact We s hle
     omega
    ·have hi':((rows.drop off).take n)[i]? = Us r:=hi;rw [Ws] at hi'
     split at hi'
     ·rw [List.getElem?_drop] at hi';exact hB.len _ r hi'
     simp_all
    have hi':((rows.drop off).take n)[i]? = Us r:=hi;rw [Ws] at hi'
    split at hi'
    ·rw [List.getElem?_drop] at hi';obtain ⟨u,g1,g2,g3⟩:=hB.rel _ r q a hi' ha;refine ⟨u,?_,g2,g3.ext hr hx⟩;rw [φb];show cs[(c.φ j).2+off*s+i*s+q]? = Us u;rw [<- g1]
     congr 1
     show (c.φ j).2+off*s+i*s+q=(c.φ j).2+(off+i)*s+q;rw [Wh];omega
    simp_all
   obtain ⟨cs',fr',hB'⟩:=hr.blk j k h;exact ⟨cs',fr',⟨by rw [φo hj];exact hB'.at_,by rw [φo hj];exact hB'.nf,hB'.pos,hB'.free,by rw [φo hj];exact hB'.fits,hB'.len,λi r q a hi ha=>by
    obtain ⟨u,g1,g2,g3⟩:=hB'.rel i r q a hi ha;exact ⟨u,by simp_all,g2,g3.ext hr hx⟩⟩⟩
  ·have old:∀ {j k},c'.live j k->∃ k0,c.live j k0:=λ{j k} hl=>by
    grind
   obtain ⟨_,h1⟩:=old hl;obtain ⟨_,h2⟩:=old hl';rw [φ1,φ1];exact hr.inj j j' _ _ h1 h2 hne
  refine .hs ?_ hc hm h0 λx hx=>?_
  ·unfold Cx.born
   simp_all
  have hat':c'.w.heap[(c'.φ b).1]? = Us (.cells cs ty fr):=by rw [φ1];exact hat
  have := Cx.hd_of (c:=c') (b:=b) (k:=⟨ver+1,s,ty,(rows.drop off).take n⟩) Hb hat';have he:=hx.symm.trans this;simp only [hdo,sie] at he
  simp_all
section
variable {P:Program} {ρ:Operand->AV} {H:AH}
theorem EvA.trim {op:Op} {b ver s off n:Nat} {ty:TypeId} {rows:List (List AV)} (h:TS P ρ op<|.hs b ver s off n) (hb:H[b]? = Us (Us ⟨ver,s,ty,rows⟩)) (hle:off+n<=rows.length) :
  EvA P ρ op H (.hs b (ver+1) s 0 n) (H.set b<|Us ⟨ver+1,s,ty,(rows.drop off).take n⟩):=λo ho c a K Q hH hr hxs hK=>
 h o ho H c a K Q hH hr hxs λv c1 hH1 hr1 hx1 hv1=>by
  obtain ⟨c2,e1,e2,e3,e4,e5⟩:=Cx.trim hr1 (by rw [hH1];exact hb) hle hv1;rw [<- e1];exact hK v c2 (by simp_all) e3 (hx1.trans e4) e5
theorem EvA.cutO {α:Type} {f:α->List AV} {op:Op} {b ver w n:Nat} {ty:TypeId} (l:List α) {zl zh:Int} (h:TS P ρ op<|.hs b ver w (0+zl.toNat)<|zh.toNat-zl.toNat) (hb:H[b]? = Us (bE Ur ver w ty<|l.map f)) (hn:n=l.length)
  (g:0<=zl/\zl<=zh/\zh<=(n:Int)) :
  EvA P ρ op H (hS Ur b (ver+1) w ((l.drop zl.toNat).take<|zh.toNat-zl.toNat).length) (H.set b<|bE Ur (ver+1) w ty<|((l.drop zl.toNat).take<|zh.toNat-zl.toNat).map f):=by
 obtain ⟨g1,g2,g3⟩:=g;have hl:((l.drop zl.toNat).take<|zh.toNat-zl.toNat).length=zh.toNat-zl.toNat:=by rw [Wm,WH];omega
 have := EvA.trim h (rows:=l.map f) hb (by grind);rw [hl,WG,WR];rw [Nat.zero_add] at this;exact this
inductive FzP (H:AH):AV->AV->Prop
 | fz {a a':AV} (h:Fz 0 H a a'):FzP H a a'
 | hp {b ver s j:Nat} {ty:TypeId} {r x row':List AV} (hk:H[b]? = Us (Us ⟨ver,s,ty,[r++x]⟩)) (h:FzL 0 H r row'):FzP H (.hp b ver s 0 j) (.fp row' j)
theorem FzP.sound {c:Cx} (hr:HRel c) {a r:AV} (h:FzP c.H a r):∀ v,c.rel a v->FRel c.w (c.all 0) r v:=by
 cases h with
 | fz h=>exact Fz.sound hr h
 | @hp b ver s j ty r x row' hk h=>
  intro u hu;have hlv:c.live b ⟨ver,s,ty,[r++x]⟩:=hk;obtain ⟨hl,h⟩:=h.spec;obtain ⟨cs,fr,hB⟩:=hr.blk b _ hlv
  cases hu with
  | fr h=>cases h
  | hp hb hh=>
   obtain ⟨fr,rfl,hat,hd⟩:=hB.cells hlv λx hx=>(hh x hx).1;obtain ⟨hs',rfl⟩:=hh _ hd;refine .fp (g:=(c.φ b).1) (o:=(c.φ b).2+0*s) (λj=>(cs[(c.φ b).2+0*s+j]?).getD undef) (.inr ⟨b,_,Wp _,hlv,rfl⟩) (hr.live_lt hlv) (λq d hq=>?_) (λq d hq=>?_) λq d hq=>?_
   all_goals
    obtain ⟨y,hy⟩:=bY hl.symm hq;have hlt:=(ges hy).1;obtain ⟨u,g1,g2,g3⟩:=hB.rel 0 (r++x) q y rfl (by grind);replace g1:cs[(c.φ b).2+0*s+q]? = Us u:=g1
   ·rw [cell_of_row c.w _ _ cs ty fr hat,g1]
    rfl
   ·simp_all
   rw [g1];exact Fz.sound hr (h q y d hy hq) u g3
inductive FzPL (H:AH):List AV->List AV->Prop
 | nil:FzPL H [] []
 | cons {a b:AV} {l k:List AV} (h:FzP H a b) (t:FzPL H l k):FzPL H (a::l) (b::k)
theorem FzPL.spec {l k:List AV} (h:FzPL H l k):l.length=k.length/\∀ (i:Nat) (c d:AV),l[i]? = Us c->k[i]? = Us d->FzP H c d:=by
 induction h with
 | nil=>simp_all
 | cons h t ih=>
  grind
theorem ax.tmpP {f:FuncId} {r:AV} {Un as':List AV} (h:ax P f as' r) (hl0:Un.length=as'.length) (hz:∀ (i:Nat) (a a':AV),Un[i]? = Us a->as'[i]? = Us a'->FzP H a a') (hd:dry 9 r=Uq):fu P f Un H r H:=by
 refine ⟨h.1,λc vs hH hr hall=>?_⟩;obtain ⟨hl,hrel⟩:=hall;refine (h.2 c.w (c.all 0) vs (λg hg=>Cx.all_lt hr hg) (hr.gl.mono (Wu _) λ_ hg _=>⟨rfl,.inl hg⟩) (hl.trans hl0) λi a v ha hv=>?_).mono λe w' ⟨v,fz',he,hb,hv,h1,h2,h3⟩ => ?_
 ·obtain ⟨q,hq⟩:=bY hl0.symm ha;exact FzP.sound hr (by grind) v<|hrel i q v hq hv
 obtain ⟨g1,g2⟩:=xJ hr hb (fz':=λ_=>False) (λg hg=>hg.elim) (λg hg=>hg.elim) λb k hlv hz=>hz.elim;exact ⟨v,{ w:=w',fz:=λg=>c.fz g\/False,H:=c.H,φ:=c.φ },he,rfl,hH,g1,g2,.fr<|Dq 9 r v hd hv⟩
theorem EvA.callTP {cl:Call} {f:Operand} {g:FuncId} {Un:List AV} {r:AV} (hc:cl.callee = .value f) (hf:ρ f = .fn (.func g) []) (h:ax P g Un r) (hz:FzPL H (cl.args.toList.map ρ) Un) (hd:dry 9 r=Uq):EvA P ρ (.call cl) H r H:=
 EvA.call hc hf (List.append_nil _) (h.tmpP hz.spec.1 hz.spec.2 hd)
end
def Pj (r:AV) (G:Nat->AH):AV->AH->Prop:=λr' G'=>∃ ver,r'=r/\G'=G ver
def Tg:List Nat->AH->AH->AH
 | [],_,H=>H
 | b::bs,G,H=>match G with
  | []=>H
  | x::xs=>Tg bs xs (H.set b x)
def Q5 (H:AH) (ids:List Nat) (G:AH):AH:=Tg ids G H
theorem D5 {H:AH} {b:Nat} {bs:List Nat} {x:Option ABlk} {xs:AH}:Q5 H (b::bs) (x::xs)=Q5 (H.set b x) bs xs:=rfl
theorem D6:∀ (ids:List Nat) (H G:AH),(Q5 H ids G).length=H.length
 | [],_,_=>rfl
 | _::_,_,[]=>rfl
 | b::bs,H,x::xs=>by rw [D5,D6 bs,List.length_set]
theorem IP {b:Nat}:∀ (ids:List Nat) (H G:AH),b∉ids->(Q5 H ids G)[b]? = H[b]?
 | [],_,_,_=>rfl
 | _::_,_,[],_=>rfl
 | c::bs,H,x::xs,h=>by
  rw [D5,IP bs _ _ (λhm=>h<|.tail _ hm),Wd (λe=>h<|by simp_all)]
theorem IQ:∀ (ids:List Nat) (H G:AH) (i b:Nat),ids.Nodup->ids[i]? = Us b->b<H.length->i<G.length->(Q5 H ids G)[b]? = G[i]?
 | [],_,_,_,_,_,h,_,_=>by grind
 | _::_,_,[],_,_,_,_,_,h=>by grind
 | c::bs,H,x::xs,i,b,hn,h,hb,hi=>by
  rw [D5];obtain ⟨hn1,hn2⟩:=List.nodup_cons.1 hn
  cases i with
  | zero=>
   simp only [Wo,sie] at h;subst h;rw [IP bs _ _ hn1,Wq hb]
   rfl
  | succ i=>
   simp only [WY] at h;rw [IQ bs _ xs i b hn2 h (by simp_all) (by simp_all)]
   rfl
inductive OutAt (S:Nat->Nat->Prop) (H:AH):List Nat->AH->Prop
 | nil:OutAt S H [] []
 | cons {b:Nat} {k k0:ABlk} {bs:List Nat} {G:AH} (hb:H[b]? = Us (Us k)) (hk:RenK S k k0) (t:OutAt S H bs G):OutAt S H (b::bs) (Us k0::G)
 | none {b:Nat} {bs:List Nat} {G:AH} (hb:H[b]? = Us Option.none) (t:OutAt S H bs G):OutAt S H (b::bs) (Option.none::G)
theorem OutAt.bE {S:Nat->Nat->Prop} {H:AH} {α:Type} {g:Bool} {v w b:Nat} {ty:TypeId} {f:α->List AV} {x:List α} {bs:List Nat} {G:AH} (hb:H[b]? = Us (bE g v w ty<|x.map f)) (hf:∀ x,(f x).all (isF 9)=Uq) (t:OutAt S H bs G):OutAt S H (b::bs) (Go.Proofs.YtdmahcaohkplcaaGreatDoor.bE g v w ty (x.map f)::G):=by
 cases g with
 | true=>exact .none hb t
 | false=>exact .cons hb (.ofF λr hr a ha=>nH hf r hr a ha) t
theorem OutAt.spec {S:Nat->Nat->Prop} {H:AH} {ids:List Nat} {G:AH} (h:OutAt S H ids G):ids.length=G.length/\∀ (i b:Nat),ids[i]? = Us b->(H[b]? = Us Option.none/\G[i]? = Us Option.none)\/∃ k k0:ABlk,H[b]? = Us (Us k)/\G[i]? = Us (Us k0)/\RenK S k k0:=by
 induction h with
 | nil=>simp_all
 | @none b bs G hb t ih=>
  grind
 | @cons b k k0 bs G hb hk t ih=>
  grind
section
variable {P:Program}
theorem bH.outAt {f:FuncId} {as0 Un:List AV} {H0 H:AH} {r0 r:AV} {G0:Nat->AH} (h:bH P f as0 H0<|Pj r0 G0) (ids:List Nat) (hn:ids.Nodup) (hin:OutAt (λb i=>ids[i]? = Us b) H ids H0) (has:RenL (λb i=>ids[i]? = Us b) Un as0)
  {G G':Nat->AH} (N:Nat) (hN:H.length=N) (hout:∀ v,RenHL (sg ids N) (G0 v)<|G v) (hlen:∀ v,(G0 v).length=ids.length) (hr:Ren (sg ids N) r0 r) (hG:∀ v,Q5 H ids (G v)=G' v):bH P f Un H (Pj r G'):=by
 subst hN;refine h.frameN ids hn hin.spec.1 hin.spec.2 has.spec.1 has.spec.2 λr1 G1 ⟨v,e1,e2⟩=>⟨r,G' v,?_,by simp_all,v,rfl,rfl⟩;subst e2;obtain ⟨l1,l2,l3⟩:=(hout v).spec;have hl:=hlen v;have lt:∀ {i b},ids[i]? = Us b->b<H.length:=λ{i b} hi=>by
  rcases hin.spec.2 i b hi with ⟨h1,_⟩ | ⟨k,_,h1,_⟩
  ·exact (ges h1).1
  grind
 have sgi:∀ {i b},i<(G0 v).length->sg ids H.length i b->ids[i]? = Us b:=λ{i b} hi hs=>by
  rcases hs with hs | ⟨hs,_⟩
  ·exact hs
  omega
 refine ⟨by omega,by rw [<- hG,D6];omega,λi b hi hs hd=>?_,λi b k0 hs hk=>?_,λb hb hni=>by rw [<- hG,IP _ _ _ hni]⟩
 ·have hib:=sgi hi hs;rw [<- hG,IQ ids H (G v) i b hn hib (lt hib) (by omega)];have hg:i<(G v).length:=by omega
  rw [geq hg]
  cases hc:(G v)[i] with
  | none=>rfl
  | some k'=>
   obtain ⟨k,h1,_⟩:=l3 i k' (by rw [geq hg,hc])
   simp_all
 have hi:=(ges hk).1;have hib:=sgi hi hs;obtain ⟨k',h1,h2⟩:=l2 i k0 hk;refine ⟨k',?_,h2⟩;rw [<- hG,IQ ids H (G v) i b hn hib (lt hib) (by omega)];exact h1
end
section
variable {P:Program} {nt b0:Nat} {Q:Exit->Env->AH->Prop} {en:List (Nat×AV)} {H:AH} {ops:Array Oper} {l:List Oper} {d:Tmp} {t:TypeId} {pos:String} {af:Array Edge}
theorem oW {cl:Call} {f:Operand} {g:FuncId} {qN Un:List AV} {r:AV} {G:Nat->AH} (hc:cl.callee = .value f) (hf:rho (ak en) f = .fn (.func g) qN) (ha:cl.args.toList.map (rho<|ak en)++qN=Un)
  (h:bH P g Un H<|Pj r G) (k:∀ ver,TO P nt b0 ops l Q (ak ((d,r)::en))<|G ver):TO P nt b0 ops (⟨Us d,.call cl,t,pos,af,Ut⟩::l) Q (ak en) H:=by
 subst ha;exact TO.runG (.free rfl) (Dt rfl hc hf h) λr' H' ⟨ver,hr,hH⟩=>by
  subst hr hH;exact k ver
end
theorem RenK.mB {K V:Type} {kn vn:Nat} {kc:K->List Value} {cv:V->List AV} {l:List (K×V)} (S:Nat->Nat->Prop) (hv:∀ v,(cv v).all (isF 9)=Uq):RenK S (mB kn vn kc cv l) (mB kn vn kc cv l) := .ofF λr hr a ha=>by
 obtain ⟨p,_,rfl⟩:=WI.1 hr;rcases List.mem_append.1 ha with ha | ha
 ·obtain ⟨x,_,rfl⟩:=WI.1 ha
  rfl
 grind
theorem RenK.bE' {S:Nat->Nat->Prop} {α:Type} {v w:Nat} {ty:TypeId} {f:α->List AV} {x:List α} (hf:∀ x,(f x).all (isF 9)=Uq):RenK S ⟨v,w,ty,x.map f⟩ ⟨v,w,ty,x.map f⟩ := .ofF λr hr a ha=>nH hf r hr a ha
section
variable {P:Program} {K:Type} [DecidableEq K] {kn:Nat} {kc:K->List Value} {xG t e:TypeId} {l:List (K×Bool)} {ρ:Operand->AV} {H:AH} {x y z:Operand} {b:Nat}
theorem Oc {zv:Value} (hz:(P.info? e).bind (·.zero)=Us zv) (w:World):(zeroValue e).run P w = .ok zv w:=by
 cases hi:P.info? e with
 | none=>simp_all
 | some i=>
  rw [hi] at hz;have hz':i.zero=Us zv:=hz;simp [zeroValue,typeInfo,hi,hz']
theorem EvA.lookB (q:KeyA P xG kn kc) (ht:P.underlying t=Us (.map xG e)) (hz:(P.info? e).bind (·.zero)=Us (.bool Ur)) (k:K)
  (hx:ρ x = .mp b (kn+1)) (hy:ρ y=mkA ((kc k).map AV.v)) (hb:H[b]? = Us (Us<|mB kn 1 kc cB l)) :
  EvA P ρ (.lookup t x y Ur) H (Bo<|(Jy l k).getD Ur) H:=
 EvA.look (vn:=1) (cv:=cB) (ok:=false) q (λ_=>rfl) Ur ht (Oc hz) (λ_ => .fr<|.v rfl) k hx hy hb
theorem EvA.msetB (q:KeyA P xG kn kc) (ht:P.underlying t=Us (.map xG e)) (k:K) (v:Bool)
  (hx:ρ x = .mp b (kn+1)) (hy:ρ y=mkA ((kc k).map AV.v)) (hz:ρ z=Bo v) (hb:H[b]? = Us (Us<|mB kn 1 kc cB l)) :
  EvA P ρ (.mapUpdate t x y z) H .top (H.set b<|Us<|mB kn 1 kc cB<|Ly l k v):=
 EvA.mset (vn:=1) (cv:=cB) q (λ_=>rfl) ht (Nat.succ_pos kn) k v hx hy (by rw [hz];rfl) (by rw [hz];rfl) hb
omit [DecidableEq K] in
end
section
variable {P:Program}
theorem bH.mkS {f:FuncId} {fn:Func} {body:Code} {Un:List AV} {H:AH} {R:AV->AH->Prop} (hf:P.funcs[f]? = Us fn) (hb:fn.body=Us body) (hcall:kg P f=Uq) (hn:Wj Un.length fn.ntmps=Uq)
 (hok:codeOk fn.ntmps body=Uq) {e0:Env} (hw:FW (N7 Un) e0) (h:T P fn.ntmps H.length body (SQ H.length<|Fin P fn R) e0 H):bH P f Un H R:=bH.mkT hf hb hcall hn hok hw h.leaf
end
section
variable {P:Program} {ρ:Operand->AV} {H:AH}
theorem LP {o:Oper} {t:TypeId} {x:Operand} {cs:List AV} {b:Nat} (ho:o.op = .box t x) (hc:(ρ x).cells=Us cs) (h0:0<cs.length) (hb:H[b]? = Us Ut):TP P o ρ H (.hp b 0 cs.length 0 0) (H.set b<|Us ⟨0,cs.length,t,[cs]⟩):=by
 intro c a K Q hH hr hx hK;have hx1:=hx x (by rw [ho];simp [Op.operands]);have hz':=xH hx1 hc;have hsz:=hz'.size;subst hH;have hrel:HRel (c.newAt b ⟨0,cs.length,t,[cs]⟩ (a.eval x).cells):=by
  refine Cx.newAt_rel hr hb h0 (by simp_all) (λi row h=>?_) λi row j a h1 h2=>?_
  ·grind
  match i,h1 with
  | 0,h1=>
   simp only [Wo,sie] at h1;subst h1;simpa using hz'.get h2
  | i+1,h1=>grind
 have hrun:(execOp a.eval o).run P c.w = .ok (.value<|.pointer<|Us ⟨c.w.heap.size,0,Ut⟩) (c.newAt b ⟨0,cs.length,t,[cs]⟩ (a.eval x).cells).w:=by
  rw [execOp,ho];refine (?_:Sem.run P _ c.w=_);have : (Instr.box t<|a.eval x).run P c.w = .ok (.pointer<|Us ⟨c.w.heap.size,0,Ut⟩) (c.w.alloc<|.cells (a.eval x).cells t):=by
   simp [Instr.box,newVar,newRow]
  simp only [Sem.run_bind,this,Result.andThen_ok,Sem.run_pure]
  rfl
 unfold Oper.wp;rw [hrun];have hl2:=Cx.newAt_self (c:=c) (k:=⟨0,cs.length,t,[cs]⟩) (cs:=(a.eval x).cells) hb;have hφ2:(c.newAt b ⟨0,cs.length,t,[cs]⟩ (a.eval x).cells).φ b=(c.w.heap.size,0):=if_pos rfl;refine hK _ (c.newAt b ⟨0,cs.length,t,[cs]⟩ (a.eval x).cells) rfl hrel (Cx.newAt_ext hr hb)<|.hp ?_ λq hq=>?_
 ·unfold Cx.born;rw [show (c.newAt b ⟨0,cs.length,t,[cs]⟩ (a.eval x).cells).H[b]? = Us (Us _) from hl2];omega
 have := Cx.hd_of hl2 (o:=.cells (a.eval x).cells t) (by rw [hφ2];exact heap_alloc_new _ _);rw [hφ2] at this;have he:=hq.symm.trans this;simp only [hdo,sie] at he
 simp_all
theorem EvA.bxA {t:TypeId} {x:Operand} {cs:List AV} (b:Nat) (hx:(ρ x).cells=Us cs) (hn:(Nat.blt 0 cs.length)=Uq) (hb:H[b]? = Us Ut):EvA P ρ (.box t x) H (.hp b 0 cs.length 0 0) (H.set b<|Us ⟨0,cs.length,t,[cs]⟩):=
 λ_ ho=>LP ho hx (nlb hn) hb
end
def Cx.mapAt (c:Cx) (b:Nat) (k:ABlk):Cx:={ w:=c.w.alloc (.map #[] 0),fz:=c.fz,H:=c.H.set b (Us k),φ:=λq=>if q=b then (c.w.heap.size,0) else c.φ q }
section
variable {c:Cx} {b:Nat} {k:ABlk}
theorem Cx.mapAt_live {q:Nat} {k':ABlk} (h:(c.mapAt b k).live q k'):(q=b/\k'=k)\/(q≠b/\c.live q k'):=Cx.newAt_live (cs:=#[]) h
theorem Cx.mapAt_φ {q:Nat} (h:q≠b):(c.mapAt b k).φ q=c.φ q:=if_neg h
theorem Cx.mapAt_ext (hr:HRel c) (hb:c.H[b]? = Us Ut):Ext c (c.mapAt b k) where
 os:=rfl
 tape:=rfl
 output:=rfl
 size:=by simp [Cx.mapAt]
 keep:=λg hg _=>Below.heap_alloc _ _ _ hg
 fz:=λ_ h=>h
 xE:=λ_ h => .inl h
 N:=by simp [Cx.mapAt]
 born:=λ_ _ h=>(Cx.newAt_born (k:=k) (cs:=#[]) hb h).2
 hd:=λq ver x hq hx=>by
  obtain ⟨k',hl,hv,o,hc,hx'⟩:=Cx.hd_some hx;have hne:=(Cx.newAt_born (k:=k) (cs:=#[]) hb hq).1;rcases Cx.mapAt_live hl with ⟨e,_⟩ | ⟨_,hl'⟩
  ·omega
  rw [Cx.mapAt_φ hne] at hc hx';have hh:c.w.heap[(c.φ q).1]? = Us o:=by
   rw [<- hc];exact (Below.heap_alloc _ _ _<|hr.live_lt hl').symm
  rw [<- hv];exact (Cx.hd_of hl' hh).trans hx'
 iV:=λq k' hl=>by
  rcases Cx.mapAt_live hl with ⟨rfl,rfl⟩ | ⟨hne,hl'⟩
  ·left
   simp [Cx.mapAt]
  exact .inr ⟨q,k',hl',by rw [Cx.mapAt_φ hne]⟩
theorem Cx.mapAt_rel (hr:HRel c) (hb:c.H[b]? = Us Ut) {kn s:Nat} (hs:0<s):HRel (c.mapAt b ⟨0,s,kn,[]⟩) where
 gl:=hr.glx<|Cx.mapAt_ext hr hb
 lt:=λg hg=>by
  have := hr.lt g hg;simp [Cx.mapAt];omega
 blk:=λq k' hq=>by
  rcases Cx.mapAt_live hq with ⟨rfl,rfl⟩ | ⟨hne,hl'⟩
  ·have e:(c.mapAt q ⟨0,s,kn,[]⟩).φ q=(c.w.heap.size,0):=if_pos rfl;exact ⟨#[],Ut,⟨by rw [e];exact (heap_alloc_new c.w<|.map #[] 0).trans (by simp [K6]),by rw [e];exact λhz=>Nat.lt_irrefl _<|hr.lt _ hz,hs,λf hf=>by grind,by simp_all,λi row h=>by grind,λi row j a h=>by grind⟩⟩
  obtain ⟨cs',fr,hB⟩:=hr.blk q k' hl';refine ⟨cs',fr,⟨by rw [Cx.mapAt_φ hne];exact (Below.heap_alloc _ _ _<|hr.live_lt hl').trans hB.at_,by rw [Cx.mapAt_φ hne];exact hB.nf,hB.pos,hB.free,by rw [Cx.mapAt_φ hne];exact hB.fits,hB.len,λi row j a h1 h2=>?_⟩⟩;obtain ⟨u,h3,h4,h5⟩:=hB.rel i row j a h1 h2;exact ⟨u,by rw [Cx.mapAt_φ hne];exact h3,h4,h5.ext hr<|Cx.mapAt_ext hr hb⟩
 inj:=λq q' k1 k2 h1 h2 hne=>by
  have lt:∀ {j kj},c.live j kj->(c.φ j).1<c.w.heap.size:=λhl=>hr.live_lt hl;rcases Cx.mapAt_live h1 with ⟨rfl,rfl⟩ | ⟨hn1,hl1⟩
  ·rcases Cx.mapAt_live h2 with ⟨rfl,rfl⟩ | ⟨hn2,hl2⟩
   ·omega
   have := hr.live_lt hl2;rw [show (c.mapAt q ⟨0,s,kn,[]⟩).φ q=(c.w.heap.size,0) from if_pos rfl,Cx.mapAt_φ hn2];omega
  rcases Cx.mapAt_live h2 with ⟨rfl,rfl⟩ | ⟨hn2,hl2⟩
  ·have := hr.live_lt hl1;rw [show (c.mapAt q' ⟨0,s,kn,[]⟩).φ q'=(c.w.heap.size,0) from if_pos rfl,Cx.mapAt_φ hn1];omega
  rw [Cx.mapAt_φ hn1,Cx.mapAt_φ hn2];exact hr.inj q q' k1 k2 hl1 hl2 hne
end
section
variable {P:Program} {ρ:Operand->AV} {H:AH}
theorem LQ {o:Oper} {t:TypeId} {kn s b:Nat} (ho:o.op = .makeMap t Ut) (hs:0<s) (hb:H[b]? = Us Ut):TP P o ρ H (.mp b s) (H.set b<|Us ⟨0,s,kn,[]⟩):=by
 intro c a Kk Q hH hr hxs hK;subst hH;have : (execOp a.eval o).run P c.w = .ok (.value<|.map<|Us c.w.heap.size) (c.mapAt b ⟨0,s,kn,[]⟩).w:=by
  rw [execOp,ho];refine (?_:Sem.run P _ c.w=_);simp [Instr.makeMap,Cx.mapAt]
 unfold Oper.wp;rw [this];have hl2:(c.mapAt b ⟨0,s,kn,[]⟩).live b ⟨0,s,kn,[]⟩:=Cx.newAt_self (k:=⟨0,s,kn,[]⟩) (cs:=#[]) hb;have e:(c.mapAt b ⟨0,s,kn,[]⟩).φ b=(c.w.heap.size,0):=if_pos rfl;refine hK _ (c.mapAt b ⟨0,s,kn,[]⟩) rfl (Cx.mapAt_rel hr hb hs) (Cx.mapAt_ext hr hb)<|.mp ?_ λx hx=>?_
 ·unfold Cx.born;rw [show (c.mapAt b ⟨0,s,kn,[]⟩).H[b]? = Us (Us _) from hl2];omega
 have := Cx.hd_of hl2 (o:=.map #[] 0) (by rw [e];exact heap_alloc_new _ _);rw [e] at this;have he:=hx.symm.trans this;simp only [hdo,sie] at he
 simp_all
theorem EvA.mmkA {K:Type} {kn:Nat} {t:TypeId} (kc:K->List Value) (b:Nat) (hb:H[b]? = Us Ut):EvA P ρ (.makeMap t Ut) H (.mp b<|kn+1) (H.set b<|Us<|mB kn 1 kc cB ([]:List<|K×Bool)):=
 λ_ ho=>LQ (kn:=kn) ho (Nat.succ_pos kn) hb
end
section
variable {P:Program} {ρ:Operand->AV} {t e:TypeId}
theorem TS.buildZ {n w:Nat} {ag:Bool} {zs:List AV} (hu:P.underlying t=Us (.array n e)) (z:TyZ P t zs) (q:TyF P e ag w):TS P ρ (.build t #[]) (.agg zs) := .mk λK hK=>by
 show DC P t [] K;have hz:=z.z;have ho:=z.one;have hq:=q.info
 cases hi:P.info? t with
 | none=>simp_all
 | some i=>
  rw [hi] at hz ho
  cases hzz:i.zero with
  | none=>simp_all
  | some zv=>
   simp only [Option.bind_some,hzz,Option.map_some,sie] at hz ho
   cases hj:P.info? e with
   | none=>simp_all
   | some ie=>
    simp only [DC,hi,hu,hzz,hj,CL,hz];exact Ck.intro ho hK
end
section
variable {P:Program} {nt b0:Nat} {Q:Exit->Env->AH->Prop} {e:Env} {H:AH}
theorem T.ifH {α:Type} {q:Bool} {x:Operand} {t f:Code} {X Y:Option α} {r:α} (hc:rho e x = .v (.bool q)) (h:(bif q then X else Y)=Us r) (h1:q=Uq->X=Us r->T P nt b0 t Q e H) (h2:q=Ur->Y=Us r->T P nt b0 f Q e H):T P nt b0 (.cond x t f) Q e H:=
 T.cond hc (λhq=>h1 hq<|IC hq h) λhq=>h2 hq (ID hq h)
end
theorem TV {α:Type} {a b:α} (h:Us a=Us b):a=b:=osl h
def SB (e:Env):List (Nat×AV)->List (Nat×AV)
 | []=>[]
 | p::l=>(p.1,e p.1)::SB e l
theorem wk {e:Env}:∀ {en:List (Nat×AV)},SB e en=en->FW e (ak en)
 | [],_=>TQ
 | (t,a)::l,h=>by
  injection h with h1 h2;injection h1 with _ h1;exact TR h1<|wk h2
theorem kw {b0:Nat} {e:Env} {H H0:AH} {en:List (Nat×AV)} (hH:H0=H) (h:SB e en=en):gM b0 e H (ak en) H0:=BB hH<|wk h
def Q6:Nat->List AV->List (Nat×AV)
 | _,[]=>[]
 | i,a::l=>(i,a)::Q6 (i+1) l
theorem LR:∀ (l:List AV) (i t:Nat),ak (Q6 i l) t=if t<i then .top else l.getD (t-i) .top
 | [],i,t=>by
  show AV.top=_
  simp_all
 | a::l,i,t=>by
  show (bif Wi t i then a else ak (Q6 (i+1) l) t)=_
  cases hb:Wi t i with
  | true=>
   simp_all
  | false=>
   have hne:t≠i:=λh=>by rw [h,show Wi i i=Uq from Nat.beq_refl i] at hb;cases hb
   rw [cond_false,LR l (i+1) t]
   grind
theorem JH (l:List AV):FW (N7 l) (ak<|Q6 0 l):=λt => .inr (by rw [LR,if_neg (by omega)];rfl)
section
variable {P:Program} {f:FuncId} {fn:Func} {body:Code} {Un:List AV} {r:AV} {H H':AH}
def okF (P:Program) (f:FuncId) (fn:Func) (body:Code):Bool:=kg P f&&codeOk fn.ntmps body
theorem JI (h:okF P f fn body=Uq):kg P f=Uq/\codeOk fn.ntmps body=Uq:=by
 unfold okF at h
 simp_all
theorem pM (hf:P.funcs[f]? = Us fn) (hb:fn.body=Us body) (hk:okF P f fn body=Uq) (hn:Wj Un.length fn.ntmps=Uq) (h:T P fn.ntmps 0 body (Fin P fn λr0 G=>Fz 0 G r0 r) (ak<|Q6 0 Un) []):ax P f Un r:=
 ax.mkT hf hb (JI hk).1 hn (JI hk).2 (JH Un) h
theorem aM (hf:P.funcs[f]? = Us fn) (hb:fn.body=Us body) (hk:okF P f fn body=Uq) (hn:Wj Un.length fn.ntmps=Uq) (h:T P fn.ntmps H.length body (SQ H.length<|Fin P fn λr0 G=>r0=r/\G=H') (ak<|Q6 0 Un) H):fu P f Un H r H':=
 fu.mkT hf hb (JI hk).1 hn (JI hk).2 (JH Un) h
end
section
variable {α β:Type} {G:Prop} {r:β} {x:Option β}
theorem jW {k:IntKind} {n:Int} (h:gd (TT k n) x=Us r) (K:k.wrap n=n->x=Us r->G):G:=K (gdW h).1 (gdW h).2
theorem jD {A:Prop} [Decidable A] (h:gd (decide A) x=Us r) (K:A->x=Us r->G):G:=K (gdD h).1 (gdD h).2
theorem jL {b:Bool} (h:gd b x=Us r) (K:b=Uq->x=Us r->G):G:=K (gdL h).1 (gdL h).2
theorem jB {o:Option α} {k:α->Option β} (h:o.bind k=Us r) (K:∀ v,o=Us v->k v=Us r->G):G:=(G5 h).elim λv h=>K v h.1 h.2
end
section
variable {P:Program} {nt b0:Nat} {Q:Exit->Env->AH->Prop} {e e0:Env} {H H' H0:AH} {ops:Array Oper} {l:List Oper} {W:Type} {w:W}
theorem T.sr {i:Nat} {y:Code} (h:TO P nt b0 ops ops.toList (JA (T P nt b0 y Q) Q) e H):T P nt b0 (.seq (.region i ops Ur) y) Q e H := .seq<|.region h
theorem T.jU {S:Type} {A:Option S} {K:S->Option W} {x y:Code} (h:A.bind K=Us w) (slots:S->List (Nat×AV)) (heap:S->AH)
  (J:∀ s,K s=Us w->T P nt b0 y Q (ak<|slots s) (heap s)) (k:∀ s,A=Us s->T P nt b0 x (JA (Sf b0 (λ_:Unit=>True) (λ_=>slots s) λ_=>heap s) Q) e H):T P nt b0 (.seq x y) Q e H:=
 jB h λs h1 h2=>T.joinF (λ_:Unit=>True) (λ_=>slots s) (λ_=>heap s) (λ_ _=>J s h2) (k s h1)
theorem T.jF {S G:Type} {A:Option S} {K:S->Option W} {x y:Code} (h:A.bind K=Us w) (inv:S->G->Prop) (slots:S->G->List (Nat×AV)) (heap:S->G->AH)
  (J:∀ s g,K s=Us w->inv s g->T P nt b0 y Q (ak<|slots s g) (heap s g)) (k:∀ s,A=Us s->T P nt b0 x (JA (Sf b0 (inv s) (slots s)<|heap s) Q) e H):T P nt b0 (.seq x y) Q e H:=
 jB h λs h1 h2=>T.joinF (inv s) (slots s) (heap s) (λg hg=>J s g h2 hg) (k s h1)
theorem T.lU {S E:Type} {body:Code} {x:E} {step:S->Option (S ⊕ E)} {s0:S} (h:loopO step s0=Us x) (slots:S->List (Nat×AV)) (heap:S->AH) (hs:gM b0 e H (ak<|slots s0)<|heap s0)
  (round:∀ s z,step s=Us z->T P nt b0 body (JA (IB b0 (λ_ (_:Unit)=>True) (λs _=>slots s) (λs _=>heap s) z)<|Leave Q x z) (ak<|slots s) (heap s)):T P nt b0 (.loop body) Q e H:=
 T.loop step (λ_ (_:Unit)=>True) (λs _=>slots s) (λs _=>heap s) () h trivial hs λs _ z hz _=>round s z hz
theorem lE {S E:Type} {slots:S->List (Nat×AV)} {heap:S->AH} {a:S} {z:S ⊕ E} (h:Us (Sum.inl a)=Us z) (c:gM b0 e H (ak<|slots a)<|heap a):IB b0 (λ_ (_:Unit)=>True) (λs _=>slots s) (λs _=>heap s) z e H:=
 ⟨a,(),(osl h).symm,trivial,c⟩
theorem lX {S E:Type} {x y:E} {z:S ⊕ E} {ex:Exit} (h:Us (Sum.inr y)=Us z) (K:Us y=Us x->Q ex e H):Leave Q x z ex e H:=⟨y,(osl h).symm,λh=>K<|congrArg Us h⟩
theorem TO.jB {S:Type} {q:Bool} {A B:Option S} {K:S->Option W} (h:(bif q then A else B).bind K=Us w) (n:Nat) (slots:S->List (Nat×AV)) (heap:S->AH)
  (h1:∀ s,q=Uq->A=Us s->(∀ e H,gM b0 e H (ak<|slots s) (heap s)->TO P nt b0 ops (l.drop n) Q e H)->TO P nt b0 ops l Q e H)
  (h2:∀ s,q=Ur->B=Us s->(∀ e H,gM b0 e H (ak<|slots s) (heap s)->TO P nt b0 ops (l.drop n) Q e H)->TO P nt b0 ops l Q e H)
  (J:∀ s,K s=Us w->TO P nt b0 ops (l.drop n) Q (ak<|slots s) (heap s)):TO P nt b0 ops l Q e H:=by
 obtain ⟨s,ha,hk⟩:=G5 h;have key:∀ e H,gM b0 e H (ak<|slots s) (heap s)->TO P nt b0 ops (l.drop n) Q e H:=λe H c=>(J s hk).cut c
 grind
end
section
variable {P:Program} {ρ:Operand->AV} {H H':AH} {x y:Operand} {a:AV} {t:TypeId} {ag:Bool} {n:Nat}
theorem mv:TS P ρ (.move x) (ρ x):=TS.mv _ rfl
theorem as':TS P ρ (.assign x) (ρ x):=TS.asg _ rfl
def Tx:AV->Bool
 | .fp _ _=>Uq
 | .hp _ _ _ _ _=>Uq
 | _=>Ur
theorem nl (h:Tx (ρ x)=Uq):TS P ρ (.nilCheck x) (ρ x):=by
 cases e:ρ x with
 | fp row j=>exact TS.nilfp e
 | hp b v s i j=>exact TS.nilhp e
 | _=>rw [e] at h;cases h
def ldE (ag:Bool) (n:Nat):AV->Option AV
 | .fp row j=>o7 ag n row j
 | _=>Ut
theorem lf (a:AV) (ty:TyF P t ag n) (h:ldE ag n (ρ x)=Us a):TS P ρ (.load t x) a:=by
 cases e:ρ x with
 | fp row j=>rw [e] at h;exact TS.loadfp a ty e h
 | _=>rw [e] at h;cases h
def faE (pl:List<|Nat×Nat) (i:Nat) (v:AV):Option AV:=match pl[i]? with
 | some (o,k+1)=>(match v with
  | .fp row j=>Us (.fp row<|j+o)
  | .hp b u s q j=>Us (.hp b u s q<|j+o)
  | _=>Ut)
 | _=>Ut
theorem JJ {α β:Type} {f:α->Option β}:∀ {l:List α} {k:List β},l.mapM f=Us k->∀ {i:Nat} {b:β},k[i]? = Us b->∃ a,l[i]? = Us a/\f a=Us b
 | [],k,h,i,b,hb=>by
  simp_all
 | c::l,k,h,i,b,hb=>by
  simp only [List.mapM_cons] at h;obtain ⟨d,hd,h⟩:=WT.1 h;obtain ⟨k',hk',h⟩:=WT.1 h;obtain rfl:=osl h
  cases i with
  | zero=>
   simp_all
  | succ i=>exact JJ hk' (by simp_all)
theorem fa {pl:List (Nat×Nat)} {i:Nat} (q:TyS P t pl) (h:faE pl i (ρ x)=Us a):TS P ρ (.fieldAddr t x i) a:=by
 have hs:=q.s
 split at hs
 ·rename_i fs hu;unfold faE at h
  split at h
  ·rename_i o k hk;obtain ⟨fl,h1,h2⟩:=JJ hs hk;rw [WB] at h1;obtain ⟨inf,h3,h4⟩:=W5.1 h2;injection h4 with h4 h5;have hc:(P.cellsOf fl.type != 0)=Uq:=by
    unfold Program.cellsOf;rw [h3];simp [h5]
   subst h4
   cases e:ρ x with
   | fp row j=>rw [e] at h;obtain rfl:=osl h;exact TS.fafp hu h1 hc e
   | hp b u s w j=>rw [e] at h;obtain rfl:=osl h;exact TS.fahp hu h1 hc e
   | _=>rw [e] at h;cases h
  cases h
 simp_all
theorem lh (a:AV) (ty:TyF P t ag n) {b ver s j:Nat} {ty':TypeId} {row:List AV} (h:ρ x = .hp b ver s 0 j) (hk:H[b]? = Us (Us ⟨ver,s,ty',[row]⟩)) (hp:o7 ag n row j=Us a):EvA P ρ (.load t x) H a H:=EvA.loadhp a ty h hk rfl rfl rfl hp
def srE (n s j:Nat) (row cs:List AV):Option (List AV):=bif Wi cs.length n&&Wj (j+n) s then Us (splice row j cs) else Ut
theorem sr (row':List AV) (ty:TyF P t ag n) {b ver s j:Nat} {ty':TypeId} {row cs:List AV} (hx:ρ x = .hp b ver s 0 j) (hy:(ρ y).cells=Us cs) (hk:H[b]? = Us (Us ⟨ver,s,ty',[row]⟩)) (hr:srE n s j row cs=Us row'):EvA P ρ (.store t x y) H .top (H.set b<|Us ⟨ver,s,ty',[row']⟩):=by
 unfold srE at hr
 cases hb:(Wi cs.length n&&Wj (j+n) s) with
 | false=>simp_all
 | true=>
  rw [hb] at hr;obtain rfl:=osl hr;rw [bae] at hb;exact EvA.st (k:=⟨ver,s,ty',[row]⟩) _ ty hx hy hk rfl rfl rfl (Nat.eq_of_beq_eq_true hb.1) hb.2 rfl
end
section
variable {P:Program} {nt b0:Nat} {Q:Exit->Env->AH->Prop} {H H':AH} {ops:Array Oper} {l:List Oper} {d:Tmp} {ty:TypeId} {pos:String} {af:Array Edge} {en:List (Nat×AV)} {fp:Nat->Fp} {i:Nat} {K:Env->AH->Prop} {S W:Type} {r:W} {A:Option S} {k:S->Option W} {v:S->AV} {cl:Call} {f:Operand} {g:FuncId} {qN Un:List AV}
theorem oC (h:A.bind k=Us r) (hp:∀ s,A=Us s->ax P g Un (v s)) (hc:cl.callee = .value f) (hf:rho (ak en) f = .fn (.func g) qN) (ha:cl.args.toList.map (rho<|ak en)++qN=Un) (hF:Un.all (isF 9)=Uq)
  (J:∀ s,A=Us s->k s=Us r->TO P nt b0 ops l Q (ak ((d,v s)::en)) H):TO P nt b0 ops (⟨Us d,.call cl,ty,pos,af,Ut⟩::l) Q (ak en) H:=
 jB h λs h1 h2=>oN (TS.call hc hf ha (hp s h1) hF) (J s h1 h2)
theorem fC (h:A.bind k=Us r) (hp:∀ s,A=Us s->ax P g Un (v s)) (hc:cl.callee = .value f) (hf:rho (ak en) f = .fn (.func g) qN) (ha:cl.args.toList.map (rho<|ak en)++qN=Un) (hF:Un.all (isF 9)=Uq) (h0:fp i=([],Ur))
  (J:∀ s,A=Us s->k s=Us r->TF P fp (i+1) l K (ak ((d,v s)::en)) H):TF P fp i (⟨Us d,.call cl,ty,pos,af,Ut⟩::l) K (ak en) H:=
 jB h λs h1 h2=>fN h0 (TS.call hc hf ha (hp s h1) hF) (J s h1 h2)
end
section
variable {P:Program} {fn:Func} {e:Env} {G:AH} {a:AV} {t:Tmp} {m:Nat}
theorem JK (h:fn.results.toList=[.tmp t]) (h1:e t=a) (h2:isF 9 a=Uq):Fin P fn (λr0 G=>Fz m G r0 a) .ret e G:=Fin.ret (vs:=[a]) (by rw [h];exact .cons (.tmp h1) .nil)<|.of_isF 9 _ h2
end
section
variable {P:Program} {ρ:Operand->AV} {H:AH} {x y:Operand} {t:TypeId} {ag:Bool} {n j w:Nat} {q:Int}
theorem lf1 (V:Int->AV) (g:0<=q/\q<3) (ty:TyF P t ag n) {row:List AV} (h:ρ x = .fp row (j+q.toNat*w)) (h0:o7 ag n row (j+0*w)=Us (V 0)) (h1:o7 ag n row (j+1*w)=Us (V 1)) (h2:o7 ag n row (j+2*w)=Us (V 2)):TS P ρ (.load t x) (V q):=
 TS.loadfp _ ty h (Rp (P:=λz=>o7 ag n row (j+z.toNat*w)=Us (V z)) g h0 h1 h2)
theorem lh1 (V:Int->AV) (g:0<=q/\q<3) (ty:TyF P t ag n) {b ver s:Nat} {ty':TypeId} {row:List AV} (h:ρ x = .hp b ver s 0 (j+q.toNat*w)) (hk:H[b]? = Us (Us ⟨ver,s,ty',[row]⟩)) (h0:o7 ag n row (j+0*w)=Us (V 0)) (h1:o7 ag n row (j+1*w)=Us (V 1)) (h2:o7 ag n row (j+2*w)=Us (V 2)):EvA P ρ (.load t x) H (V q) H:=
 EvA.loadhp _ ty h hk rfl rfl rfl (Rp (P:=λz=>o7 ag n row (j+z.toNat*w)=Us (V z)) g h0 h1 h2)
theorem sr1 (R:Int->List AV) (g:0<=q/\q<3) (ty:TyF P t ag n) {b ver s:Nat} {ty':TypeId} {row cs:List AV} (hx:ρ x = .hp b ver s 0 (j+q.toNat*w)) (hy:(ρ y).cells=Us cs) (hk:H[b]? = Us (Us ⟨ver,s,ty',[row]⟩)) (h0:srE n s (j+0*w) row cs=Us (R 0)) (h1:srE n s (j+1*w) row cs=Us (R 1)) (h2:srE n s (j+2*w) row cs=Us (R 2)):EvA P ρ (.store t x y) H .top (H.set b<|Us ⟨ver,s,ty',[R q]⟩):=
 sr _ ty hx hy hk (Rp (P:=λz=>srE n s (j+z.toNat*w) row cs=Us (R z)) g h0 h1 h2)
variable {v:Nat} {u:Int}
theorem Ti {Q:Int->Int->Prop} (g:0<=q/\q<3) (g':0<=u/\u<3) (h:Q 0 0/\Q 0 1/\Q 0 2/\Q 1 0/\Q 1 1/\Q 1 2/\Q 2 0/\Q 2 1/\Q 2 2):Q q u:=
 by grind
def P9 (Q:Nat->Nat->Int->Int->Prop):Prop:=Q 0 0 0 0/\Q 0 1 0 1/\Q 0 2 0 2/\Q 1 0 1 0/\Q 1 1 1 1/\Q 1 2 1 2/\Q 2 0 2 0/\Q 2 1 2 1/\Q 2 2 2 2
theorem lf2 (V:Int->Int->AV) (g:0<=q/\q<3) (g':0<=u/\u<3) (ty:TyF P t ag n) {row:List AV} (h:ρ x = .fp row ((j+q.toNat*w)+u.toNat*v)) (h9:P9 λa b y z=>o7 ag n row ((j+a*w)+b*v)=Us (V y z)):TS P ρ (.load t x) (V q u):=
 TS.loadfp _ ty h (Ti (Q:=λy z=>o7 ag n row ((j+y.toNat*w)+z.toNat*v)=Us (V y z)) g g' h9)
theorem sr2 (R:Int->Int->List AV) (g:0<=q/\q<3) (g':0<=u/\u<3) (ty:TyF P t ag n) {b ver s:Nat} {ty':TypeId} {row cs:List AV} (hx:ρ x = .hp b ver s 0 ((j+q.toNat*w)+u.toNat*v)) (hy:(ρ y).cells=Us cs) (hk:H[b]? = Us (Us ⟨ver,s,ty',[row]⟩)) (h9:P9 λa b y z=>srE n s ((j+a*w)+b*v) row cs=Us (R y z)):EvA P ρ (.store t x y) H .top (H.set b<|Us ⟨ver,s,ty',[R q u]⟩):=
 sr _ ty hx hy hk (Ti (Q:=λy z=>srE n s ((j+y.toNat*w)+z.toNat*v) row cs=Us (R y z)) g g' h9)
end
section
variable {P:Program} {H:AH} {s:Nat} {o:Oper} {ρ:Operand->AV}
theorem LU {e:TypeId} {i:TypeInfo} {z:Value} (w:World) (hi:P.info? e=Us i) (hz:i.zero=Us z):(zeroValue e).run P w = .ok z w:=by simp [zeroValue,typeInfo,hi,hz]
theorem LV {cl:Call} {x:Operand} {t e:TypeId} {b ver off len:Nat} {k:ABlk} {z:Value} {zr:List AV} (ho:o.op = .call cl) (h1:cl.callee = .builtin .clear) (h2:cl.args.toList=[x]) (h3:cl.argTypes.toList=[t])
  (ht:P.underlying t=Us (.slice e)) (hz:(P.info? e).bind (·.zero)=Us z) (hz1:nD z.cells=Uq) (hzs:z.cells.size=s) (hzr:zr.length=s) (hzc:∀ (c:Cx) (j:Nat) (a:AV),zr[j]? = Us a->∃ u,z.cells[j]? = Us u/\c.rel a u)
  (hx:ρ x = .hs b ver s off len) (hb:H[b]? = Us (Us k)) (hv:k.ver=ver) (hs:k.s=s) (hoff:off+len<=k.rows.length) :
  TP P o ρ H .top (H.set b<|Us { k with rows:=k.rows.take off++(V9 len zr).take len++k.rows.drop (off+len) }):=by
 intro c a K Q hH hr hxs hK;obtain ⟨callee,args,ts⟩:=cl;simp only at h1 h2 h3;obtain rfl:args = #[x]:=by cases args;simp_all
 obtain rfl:ts = #[t]:=by cases ts;simp_all
 subst h1;have hx1:=hx ▸ hxs x (by rw [ho];simp [Op.operands,Call.operands]);generalize hn:len=n at hK ⊢;generalize hnews:V9 n zr=news at hK ⊢;have hrl:∀ (i:Nat) (row:List AV),news[i]? = Us row->row.length=s:=λi row h=>by
  rw [<- hnews] at h;have := WK h;rw [Wx] at this;rw [this.2,hzr]
 have hnl0:news.length=n:=by rw [<- hnews,WE]
 have hone:∀ v∈z.cells,v.oneCell'=Uq:=by
  rw [Ac,Array.all_eq_true_iff_forall_mem] at hz1;exact hz1
 generalize hvs:(Builtin.zeroCells z.cells n).toList=vs;have hvl:vs.length=n*s:=by rw [<- hvs,WA,nG,hzs]
 have hvget:∀ i j,i<n->j<s->vs[i*s+j]? = z.cells[j]? := λi j hi hj=>by
  have hfit:i*s+j<n*s:=by
   have : (i+1)*s<=n*s:=We _ (by omega);rw [Wh] at this;omega
  rw [<- hvs,WB];unfold Builtin.zeroCells;rw [hzs];have := Dn z.cells (n*s) (i*s+j) hfit (by omega);rw [hzs] at this;rw [this,Wy i s,Nat.mul_add_mod,Nat.mod_eq_of_lt hj]
 have hv1:∀ v∈vs,v.oneCell'=Uq:=λv hm=>by
  obtain ⟨q,hq⟩:=List.getElem?_of_mem hm;have hq':=(ges hq).1;rw [hvl] at hq';have hs0:0<s:=Nat.pos_of_ne_zero λh=>by rw [h,Nat.mul_zero] at hq';omega
  have e1:q=q / s*s+q % s:=by rw [Wy];exact (Nat.div_add_mod q s).symm
  rw [e1,hvget (q / s) (q % s) (Nat.div_lt_of_lt_mul<|by rw [Wy];exact hq') (Nat.mod_lt _ hs0)] at hq;exact hone v<|WC hq
 have hvr:∀ (i:Nat) (row:List AV) (j:Nat) (a:AV),(news.take n)[i]? = Us row->row[j]? = Us a->∃ u,vs[i*s+j]? = Us u/\u.oneCell'=Uq/\c.rel a u:=λi row j a hi hj=>by
  have hin:i<n:=by
   have := (ges hi).1;rw [Wm] at this;omega
  rw [Ws,if_pos hin,<- hnews] at hi;have := WK hi;rw [Wx] at this;rw [this.2] at hj;have hjs:j<s:=by rw [<- hzr];exact (ges hj).1
  obtain ⟨u,g1,g2⟩:=hzc c j a hj;exact ⟨u,by rw [hvget i j hin hjs];exact g1,hone u<|WC g1,g2⟩
 have hl:c.live b k:=by unfold Cx.live;rw [hH];exact hb
 generalize hux:a.eval x=ux at hx1
 cases hx1 with
 | fr h=>cases h
 | @hs _ _ _ _ _ cap A hbn hcl hcm h0 hh=>
  obtain ⟨cur,fr,hB⟩:=hr.blk b k hl;obtain ⟨fr,rfl,hat,hd⟩:=hB.cells hl λx hx=>(hh x<|hv ▸ hx).1.trans hs.symm;rw [hv] at hd;obtain ⟨_,_,hA,hcf⟩:=hh _ hd;simp only at hA hcf;have hexec:∀ w',(n=0/\w'=c.w)\/(∃ ad,A=Us ad/\0<n/\(storeCells ad vs).run P c.w = .ok () w')->(execOp a.eval o).run P c.w = .ok (.value<|.tuple #[]) w':=λw' hw=>by
   have e1:(Builtin.clear_ #[t] o.type #[.slice A len cap]).run P c.w = .ok (.tuple #[]) w':=by
    obtain ⟨inf,h5,h6⟩:=WT.1 hz;rcases hw with ⟨h0',rfl⟩ | ⟨ad,rfl,hp,hst⟩
    ·rw [hn,h0']
     cases A <;> simp [Builtin.clear_,Sem.run_bind,av ht]
    obtain ⟨q,rfl⟩:∃ q,n=q+1:=⟨n-1,by omega⟩;rw [hn];simp [Builtin.clear_,Sem.run_bind,av ht,LU c.w h5 h6,hvs,hst]
   simp [execOp,ho,resolve,invoke,builtin,hux,e1]
  unfold Oper.wp;rcases Nat.eq_zero_or_pos n with h00 | hpos
  ·-- nothing is copied
   have hv0:vs=[]:=WZ (by rw [hvl,h00,Nat.zero_mul]);have hk0:({ k with rows:=k.rows.take off++news.take n++k.rows.drop (off+n) }:ABlk)=k:=by
    rw [h00];simp
   rw [hexec c.w (.inl ⟨h00,rfl⟩)];refine hK _ c ?_ hr (Ext.refl c) .top;rw [hk0,Dr H b _ hb,hH]
  have h0':0<cap:=by omega
  obtain rfl:=hA h0';have hfit:=hB.fits;have hsp:=hB.pos;have hle:(c.φ b).2+off*s+vs.length<=cur.toList.length:=by
   have h5:(off+len)*s<=k.rows.length*s:=We _ hoff;have h6:n*s<=len*s:=We _ (by omega);rw [Wh] at h5;have hct:cur.toList.length=cur.size:=WA;rw [hs] at hfit;rw [hvl,hct];omega
  have hst:=iA (P:=P) (c.φ b).1 ((c.φ b).2+off*s) k.ty fr vs 0 cur c.w hat (hB.fre fr rfl) (by simpa using hle) hv1;rw [WQ] at hst;have hg2:=λq=>Bs cur.toList _ _ hle q;have hs2:=Dp cur.toList _ _ hle;generalize hcs2:(cur.toList.take ((c.φ b).2+off*s)++vs++cur.toList.drop ((c.φ b).2+off*s+vs.length))=ls at *;have hsz2:ls.toArray.size=cur.size:=by simpa using hs2
  have hget:∀ q,ls.toArray[q]? = if (c.φ b).2+off*s<=q/\q<(c.φ b).2+off*s+vs.length then vs[q-((c.φ b).2+off*s)]? else cur[q]? := λq=>by
   rw [List.getElem?_toArray,hg2,WB (xs:=cur)]
  have hrl2:(k.rows.take off++news.take n++k.rows.drop (off+n)).length=k.rows.length:=by
   simp only [lla,Wm,WH];omega
  have hrow:∀ (i:Nat) (row:List AV),(k.rows.take off++news.take n++k.rows.drop (off+n))[i]? = Us row->(off<=i/\i<off+n/\news[i-off]? = Us row)\/((i<off\/off+n<=i)/\k.rows[i]? = Us row):=λi row h=>by
   have hnl:(news.take n).length=n:=by simp;omega
   have e:=Bs k.rows off (news.take n) (by rw [hnl];omega) i;rw [hnl] at e;rw [e] at h
   split at h
   ·rename_i h2;refine .inl ⟨h2.1,h2.2,?_⟩;rw [Ws,if_pos (by omega)] at h;exact h
   rename_i h2;exact .inr ⟨by omega,h⟩
  have hlen2:∀ (i:Nat) (row:List AV),(k.rows.take off++news.take n++k.rows.drop (off+n))[i]? = Us row->row.length=k.s:=λi row h=>by
   rcases hrow i row h with ⟨_,_,h2⟩ | ⟨_,h2⟩
   ·rw [hrl _ row h2,hs]
   exact hB.len i row h2
  have hext:=Cx.upd_ext (k:={ k with rows:=k.rows.take off++news.take n++k.rows.drop (off+n) }) (o:=(c.φ b).2) (cs:=ls.toArray) hr hl hB hsz2 (.inl ⟨rfl,rfl,hrl2,rfl⟩);have hrel:=Cx.upd_rel (k:={ k with rows:=k.rows.take off++news.take n++k.rows.drop (off+n) }) (o:=(c.φ b).2) (cs:=ls.toArray) hr hl hB hsz2 rfl hext hsp (by simp only;rw [hrl2,hsz2];exact hfit) hlen2 (λi row j a' h h'=>by
   have hj:j<s:=by
    have := (ges h').1;rw [hlen2 i row h,hs] at this;exact this
   simp only;rw [hget,hs,hvl];rcases hrow i row h with ⟨g1,g2,g3⟩ | ⟨g1,g3⟩
   ·have hf:=uk (s:=s) (show i-off<n by omega) (j:=j+1) hj;have e:i*s=(i-off)*s+off*s:=by
     rw [<- Wh]
     congr 1
     omega
    rw [if_pos (by omega)];obtain ⟨u',q1,q2,q3⟩:=hvr (i-off) row j a' (by rw [Ws,if_pos (by omega)];exact g3) h';refine ⟨u',?_,q2,q3⟩;rw [<- q1]
    congr 1
    omega
   have hi':=(ges g3).1;rw [if_neg (λhq=>?_)]
   ·have := hB.rel i row j a' g3 h';rw [hs] at this;exact this
   rcases g1 with g1 | g1
   ·have hf:=uk (s:=s) g1 (j:=j+1) hj;omega
   have hf:(off+n)*s<=i*s:=We _ g1;rw [Wh] at hf;omega)
  rw [hexec _ (.inr ⟨_,rfl,hpos,hst⟩)];exact hK _ _ (by rw [<- hH];rfl) hrel hext .top
variable {α:Type} {c:α->List AV} {l:List α} {x y:Operand} {t e:TypeId} {ag:Bool} {w m b ver off len:Nat} {zs:List AV}
def ZrR (zs zr:List AV):Prop:=zr.length=zs.length/\∀ (cx:Cx) (j:Nat) (a a':AV) (v:Value),zs[j]? = Us a->zr[j]? = Us a'->cx.rel a v->cx.rel a' v
theorem zrE {zs:List AV}:ZrR zs zs:=⟨rfl,λcx j a a' v h h' hr=>by rw [h] at h';obtain rfl:=osl h';exact hr⟩
theorem BD {β:Type} [Inhabited β] {f:β->List AV} {cx:Cx} {v:Value} (h:cx.rel .nil v):cx.rel (eL f ([]:List β)) v:=by
 obtain rfl:=iz h;exact .fr<|.sl (s:=1) (g:=0) (o:=0) (λ_ _ => .bool Ur) (Wu _) (by decide) (λh=>absurd h<|by simp) (λi h=>absurd h<|by simp) (λi j a h=>absurd h<|by simp) (λi j a h=>absurd h<|by simp) λi j a h=>absurd h (by simp)
theorem zrN {β:Type} [Inhabited β] {f:β->List AV}:ZrR [.nil] [eL f ([]:List β)]:=⟨rfl,λcx j a a' v h h' hr=>by
 match j with
 | 0=>
  obtain rfl:=osl h;obtain rfl:=osl h';exact BD hr
 | j+1=>simp at h⟩
theorem TS.ixP {k:IntKind} {i:Int} {n lo:Nat} (q:SlT P t e ag w zs m) (hx:ρ x = .hs b ver w lo n) (hy:ρ y = .v (.int k i)) (hi:0<=i/\i<(n:Int)):TS P ρ (.indexAddr t x y) (.hp b ver w (lo+i.toNat) 0):=TS.ixhs q.u q.ty hx hy hi
theorem EvA.clearO [Inhabited α] (q:SlT P t e ag w zs m) (hz:ZrR zs<|c Uo) (hx:ρ x = .hs b ver w off len) (hk:H[b]? = Us (bE Ur ver w e<|l.map c)) (ho:off+len<=l.length) :
  EvA P ρ (.call ⟨.builtin .clear,#[x],#[t]⟩) H .top (H.set b<|bE Ur ver w e<|(cpy l off (V9 len Uo) len).map c):=λo ho'=>by
 obtain ⟨z,hz0,hzz⟩:=W5.1 q.z.z;have hone:nD z.cells=Uq:=by
  have := q.z.one;rw [hz0] at this;exact osl this
 have hsz:z.cells.size=w:=by
  have := congrArg List.length hzz;rw [<- q.zl,<- this];simp [dV]
 have h:=LV (o:=o) (P:=P) (ρ:=ρ) (H:=H) (s:=w) (k:=⟨ver,w,e,l.map c⟩) (zr:=c Uo) ho' rfl rfl rfl q.u hz0 hone hsz (hz.1.trans q.zl) (λcx j a ha=>by
  have hjl:j<zs.length:=by rw [<- hz.1];exact (ges ha).1
  have hzs:zs[j]? = Us zs[j]:=geq hjl;have hju:j<z.cells.size:=by rw [hsz,<- q.zl];exact hjl
  refine ⟨z.cells[j],W6 hju,hz.2 cx j _ a _ hzs ha ?_⟩;have hc:=vu cx hone;obtain ⟨u,g1,g2⟩:=hc.get (j:=j) (a:=zs[j]) (by rw [hzz];exact hzs);rw [W6 hju] at g1;obtain rfl:=osl g1
  first | exact g2 | exact g2.2) hx hk rfl rfl (by simpa using ho)
 unfold cpy;rw [if_pos ho];simpa [bE,WG,WR] using h
end
section
variable {P:Program} {H:AH}
theorem bH.wown {f:FuncId} {as0 Un:List AV} {b:Nat} {g:Bool} {ver w w':Nat} {ty ty':TypeId} {wX rows:List (List AV)} {mk:AV->AV} {n:Nat} (h:bH P f as0 [bE g ver w ty wX]<|G9 w' ty' mk n rows 0 []) (hb:H[b]? = Us (bE g ver w ty wX))
  (has:RenL (λc i=>[b][i]? = Us c) Un as0) (hk0:∀ r∈wX,∀ a∈r,isF 9 a=Uq) (hk:∀ r∈rows,∀ a∈r,isF 9 a=Uq) (hmk:∀ (S:Nat->Nat->Prop) (a b:AV),Ren S a b->Ren S (mk a) (mk b)) :
  bH P f Un H (λr G=>∃ g' sF,(g'=Uq->n=0)/\r=mk (hS g' b sF w' n)/\G=H.set b (bE g' sF w' ty' rows)):=by
 have hlt:b<H.length:=(ges hb).1;refine h.frameN [b] (by simp) rfl (λi c hi=>?_) has.spec.1 has.spec.2 λr0 G0 ⟨g',sF,hg,hr0,hG0⟩ => ?_
 ·match i with
  | 0=>
   obtain rfl:b=c:=by simpa using hi
   cases g with
   | true=>exact .inl ⟨hb,rfl⟩
   | false=>exact .inr ⟨_,_,hb,rfl,.ofF hk0⟩
  | i+1=>simp at hi
 subst hr0 hG0;have key:∀ i c,sg [b] H.length i c->i<1->c=b:=λi c hs hi=>by
  rcases hs with hs | ⟨hs,_⟩
  ·obtain rfl:i=0:=by omega
   simpa using hs.symm
  simp at hs;omega
 refine ⟨_,_,⟨by simp,by simp,λi c hi hs hn=>?_,λi c k0 hs hk0=>?_,λc hc hne=>Wd λe=>hne<|by simp [e]⟩,hmk _ _ _ ?_,⟨g',sF,hg,rfl,rfl⟩⟩
 ·simp only [WU,W7] at hi;obtain rfl:=key i c hs hi;obtain rfl:i=0:=by omega
  simp only [WU,Wo,sie] at hn;rw [Wq hlt,hn]
 ·have hi:i<1:=by
   have := (ges hk0).1;simpa using this
  obtain rfl:=key i c hs hi;obtain rfl:i=0:=by omega
  simp only [WU,Wo,sie] at hk0;refine ⟨k0,by rw [Wq hlt,hk0],.ofF λr hr a ha=>?_⟩
  cases g' with
  | true=>cases hk0
  | false=>
   obtain rfl:=osl hk0;exact hk r hr a ha
 cases g' with
 | true=>exact .nil
 | false=>exact .hs (.inl rfl)
theorem fu.oneE {f:FuncId} {as0 Un:List AV} {b:Nat} {g:Bool} {ver w:Nat} {ty:TypeId} {wX rows:List (List AV)} {r:AV} (h:fu P f as0 [bE g ver w ty wX] r [bE g ver w ty rows]) (hb:H[b]? = Us (bE g ver w ty wX))
  (has:RenL (λc i=>[b][i]? = Us c) Un as0) (hk0:∀ r∈wX,∀ a∈r,isF 9 a=Uq) (hk:∀ r∈rows,∀ a∈r,isF 9 a=Uq) (hr:isF 9 r=Uq):fu P f Un H r (H.set b<|bE g ver w ty rows):=by
 have hlt:b<H.length:=(ges hb).1;have h0:bH P f as0 [bE g ver w ty wX] (λr' G=>r'=r/\G=[bE g ver w ty rows]):=⟨h.1,λc vs hH hr hall=>(h.2 c vs hH hr hall).mono λe w' ⟨v,c',h1,h2,h3,h4,h5,h6⟩=>⟨v,c',r,h1,h2,⟨rfl,h3⟩,h4,h5,h6⟩⟩;refine bH.acall<|h0.frameN [b] (by simp) rfl (λi c hi=>?_) has.spec.1 has.spec.2 λr0 G0 ⟨hr0,hG0⟩ => ?_
 ·match i with
  | 0=>
   obtain rfl:b=c:=by simpa using hi
   cases g with
   | true=>exact .inl ⟨hb,rfl⟩
   | false=>exact .inr ⟨_,_,hb,rfl,.ofF hk0⟩
  | i+1=>simp at hi
 subst hr0 hG0;have key:∀ i c,sg [b] H.length i c->i<1->c=b:=λi c hs hi=>by
  rcases hs with hs | ⟨hs,_⟩
  ·obtain rfl:i=0:=by omega
   simpa using hs.symm
  simp at hs;omega
 refine ⟨_,_,⟨by simp,by simp,λi c hi hs hn=>?_,λi c k0 hs hk0=>?_,λc hc hne=>Wd λe=>hne<|by simp [e]⟩,ay 9 _ hr,rfl,rfl⟩
 ·simp only [W7] at hi;obtain rfl:=key i c hs hi;obtain rfl:i=0:=by omega
  simp only [Wo,sie] at hn;rw [Wq hlt,hn]
 have hi:i<1:=by
  have := (ges hk0).1;simpa using this
 obtain rfl:=key i c hs hi;obtain rfl:i=0:=by omega
 simp only [Wo,sie] at hk0;refine ⟨k0,by rw [Wq hlt,hk0],.ofF λr hr a ha=>?_⟩
 cases g with
 | true=>cases hk0
 | false=>
  obtain rfl:=osl hk0;exact hk r hr a ha
theorem JL {S:Nat->Nat->Prop} {g:Bool} {i j v w n n':Nat} (h:S i j) (hn:n=n'):Ren S (hS g i v w n) (hS g j v w n'):=hn ▸ bh h
variable {nt b0:Nat} {Q:Exit->Env->AH->Prop} {en:List (Nat×AV)} {ops:Array Oper} {l:List Oper} {d:Tmp} {t:TypeId} {pos:String} {af:Array Edge}
theorem oGW {cl:Call} {f:Operand} {g:FuncId} {qN as0:List AV} {H:AH} {b w0 ver w:Nat} {g0:Bool} {ty0 ty:TypeId} {wX rows:List (List AV)} {mk:AV->AV} {n:Nat} (hc:cl.callee = .value f) (hf:rho (ak en) f = .fn (.func g) qN)
  (h:bH P g as0 [bE g0 ver w0 ty0 wX]<|G9 w ty mk n rows 0 []) (hb:H[b]? = Us (bE g0 ver w0 ty0 wX)) (has:RenL (λc i=>[b][i]? = Us c) (cl.args.toList.map (rho<|ak en)++qN) as0) (hk0:∀ r∈wX,∀ a∈r,isF 9 a=Uq) (hk:∀ r∈rows,∀ a∈r,isF 9 a=Uq)
  (hmk:∀ (S:Nat->Nat->Prop) (a b:AV),Ren S a b->Ren S (mk a) (mk b)) (k:∀ g' sF,(g'=Uq->n=0)->TO P nt b0 ops l Q (ak ((d,mk<|hS g' b sF w n)::en)) (H.set b<|bE g' sF w ty rows)):TO P nt b0 ops (⟨Us d,.call cl,t,pos,af,Ut⟩::l) Q (ak en) H:=by
 exact TO.runG (.free rfl) (Dt rfl hc hf<|h.wown hb has hk0 hk hmk) λr' H' ⟨g',sF,hg,hr,hH⟩=>by
  subst hr hH;exact k g' sF hg
end
section
variable {P:Program} {ρ:Operand->AV} {H:AH} {x y z:Operand} {t e xG:TypeId} {ag:Bool} {w j b kn:Nat}
variable {K:Type} [DecidableEq K] {kc:K->List Value} {l:List (K×Bool)}
omit [DecidableEq K] in
end
section
variable {P:Program} {o:Oper} {ρ ρ':Operand->AV} {H:AH} {K K':AV->AH->Prop}
theorem OpG.congr {R:AV->AH->Prop} (h:OpG P o ρ H R) (he:∀ x∈o.op.operands,ρ x=ρ' x):OpG P o ρ' H R:=
 λc a K Q hH hr hxs hK=>h c a K Q hH hr (λx hx=>by rw [he x hx];exact hxs x hx) hK
theorem OpG.mono {R R':AV->AH->Prop} (h:OpG P o ρ H R) (hR:∀ r G,R r G->R' r G):OpG P o ρ H R':=
 λc a K Q hH hr hxs hK=>h c a K Q hH hr hxs λv c' r hr1 hr2 hr3 hr4=>hK v c' r (hR _ _ hr1) hr2 hr3 hr4
theorem TP.opG {r:AV} {H':AH} (h:TP P o ρ H r H'):OpG P o ρ H λr' G=>r'=r/\G=H':=
 λc a K Q hH hr hxs hK=>h c a K Q hH hr hxs λv c' hc hr2 hr3 hr4=>hK v c' r ⟨rfl,hc⟩ hr2 hr3 hr4
abbrev Xc:=Bool×List Nat
def agr (F:List Nat) (G H:AH):Prop:=∀ b∈F,G[b]? = H[b]?
theorem agr.a0 {b:Nat} {F:List Nat} {G H:AH} (h:agr (b::F) G H) {x:Option ABlk} (hx:H[b]? = Us x):G[b]? = Us x:=(h b<|by simp).trans hx
def Aw (W:List Nat) (H H':AH):Prop:=∀ b,b<H.length->b∉W->H'[b]? = H[b]?
theorem wy {b:Nat} {X:Option ABlk}:Aw [b] H (H.set b X):=λc _ hc=>Wd λe=>hc (by simp [e])
theorem yL {L:AH}:Aw [] H (H++L):=λ_ hb _=>gal hb
def D7 (P:Program) (o:Oper) (ρ:Operand->AV) (H:AH) (b:Xc) (K:AV->AH->Prop):Prop:=match b.1 with
 | false=>∃ r,(∀ c∈b.2,c<H.length)/\(∀ G,agr b.2 G H->TP P o ρ G r G)/\K r H
 | true=>OpG P o ρ H λr H'=>Aw b.2 H H'/\K r H'
theorem D7.mono {b:Xc} (h:D7 P o ρ H b K) (hK:∀ r G,K r G->K' r G):D7 P o ρ H b K':=by
 obtain ⟨b,F⟩:=b
 cases b with
 | false=>
  obtain ⟨r,h0,h1,h2⟩:=h;exact ⟨r,h0,h1,hK _ _ h2⟩
 | true=>
  show OpG P o ρ H λr H'=>Aw F H H'/\K' r H';exact OpG.mono (R:=λr H'=>Aw F H H'/\K r H') h λr G hr=>⟨hr.1,hK _ _ hr.2⟩
theorem D7.congr {b:Xc} (h:D7 P o ρ H b K) (he:∀ x∈o.op.operands,ρ x=ρ' x):D7 P o ρ' H b K:=by
 obtain ⟨b,F⟩:=b
 cases b with
 | false=>
  obtain ⟨r,h0,h1,h2⟩:=h;exact ⟨r,h0,λG hG=>(h1 G hG).congr he,h2⟩
 | true=>
  show OpG P o ρ' H λr H'=>Aw F H H'/\K r H';exact OpG.congr (R:=λr H'=>Aw F H H'/\K r H') h he
theorem D7.opG {b:Xc} (h:D7 P o ρ H b K):OpG P o ρ H K:=by
 obtain ⟨b,F⟩:=b
 cases b with
 | false=>
  obtain ⟨r,_,h1,h2⟩:=h;refine (TP.opG<|h1 H λ_ _=>rfl).mono ?_;rintro r' G ⟨rfl,rfl⟩;exact h2
 | true=>exact OpG.mono (R:=λr H'=>Aw F H H'/\K r H') h λr G hr=>hr.2
def Od (a b:Xc):Bool := !b.1||a.2.all λx => !b.2.contains x
def Oe (P:Program) (ops:Array Oper) (cls:Nat->Xc) (Q:Env->AH->Prop):Nat->Array Bool->Env->AH->Prop
 | 0,listed,e,H=>Region.ready .any ops listed=[]/\Q e H
 | fuel+1,listed,e,H=>(Region.ready .any ops listed=[]->Q e H) /\
  ∀ i∈Region.ready .any ops listed,∃ o,ops[i]? = Us o/\D7 P o (rho e) H (cls i) λr H'=>Oe P ops cls Q fuel (listed.setIfInBounds i Uq) (rN e o.dst r) H'
theorem KD {ops:Array Oper} {cls:Nat->Xc} {Q:Env->AH->Prop} {i:Nat} {oi:Oper} {r:AV} {F:List Nat} (hi:ops[i]? = Us oi) (hci:cls i=(Ur,F)) :
  ∀ (fuel:Nat) (listed:Array Bool) (e:Env) (H:AH),
   (∀ (j:Nat) (oj:Oper),ops[j]? = Us oj->j≠i->listed.getD j Uq=Ur->(∀ ed∈oj.after,Region.binds .any ed=Uq->ed.on≠i)->oi.apart ops oj=Uq/\Od (cls i) (cls j)=Uq) ->
   i∈Region.ready .any ops listed->(∀ c∈F,c<H.length)->(∀ G,agr F G H->TP P oi (rho e) G r G)->Oe P ops cls Q fuel (listed.setIfInBounds i Uq) (rN e oi.dst r) H->Oe P ops cls Q (fuel+1) listed e H:=by
 intro fuel
 induction fuel with
 | zero=>
  intro listed e H _ hr hF hy hA;refine ⟨λh=>(by rw [h] at hr;cases hr),λj hj=>?_⟩
  by_cases hji:j=i
  ·subst hji;exact ⟨oi,hi,by rw [hci];exact ⟨r,hF,hy,hA⟩⟩
  have := ready_mono hj hji;rw [hA.1] at this
  cases this
 | succ fuel ih=>
  intro listed e H hfree hr hF hy hA;refine ⟨λh=>(by rw [h] at hr;cases hr),λj hj=>?_⟩
  by_cases hji:j=i
  ·subst hji;exact ⟨oi,hi,by rw [hci];exact ⟨r,hF,hy,hA⟩⟩
  obtain ⟨oj,hoj,hsj⟩:=hA.2 j<|ready_mono hj hji;obtain ⟨hjun,oj',CK,hall⟩:=mem_ready.1 hj;rw [hoj] at CK;injection CK with CK;subst CK;have hnot:∀ ed∈oj.after,Region.binds .any ed=Uq->ed.on≠i:=λed he hb heq=>by
   have h1:=hall ed he hb;have h0:=(mem_ready.1 hr).1;rw [heq] at h1;rcases WL i listed.size with h' | h'
   ·simp [h'] at h0 h1;rw [h0] at h1;cases h1
   simp [WV h'] at h1
  obtain ⟨hap,hcm⟩:=hfree j oj hoj hji hjun hnot;obtain ⟨h1,h2,h3⟩:=Oper.apart_spec hap;have ej:=vv (e:=e) (r:=r) h1;have hfree':∀ (k:Nat) (ok:Oper),ops[k]? = Us ok->k≠i->(listed.setIfInBounds j Uq).getD k Uq=Ur->(∀ ed∈ok.after,Region.binds .any ed=Uq->ed.on≠i)->oi.apart ops ok=Uq/\Od (cls i) (cls k)=Uq:=λk ok hk hki hun hno=>by
   refine hfree k ok hk hki ?_ hno
   by_cases hjk:j=k
   ·subst hjk;exact hjun
   rw [getD_set_ne Uq hjk] at hun;exact hun
  have hsj':=hsj.congr ej;have go:∀ q Hj,(∀ c∈F,c<Hj.length)->(∀ c∈F,Hj[c]? = H[c]?)->Oe P ops cls Q fuel ((listed.setIfInBounds i Uq).setIfInBounds j Uq) (rN (rN e oi.dst r) oj.dst q) Hj->Oe P ops cls Q (fuel+1) (listed.setIfInBounds j Uq) (rN e oj.dst q) Hj:=λq Hj hF' hHj hAj=>by
   have ei:=vv (e:=e) (oi:=oj) (r:=q) h3;refine ih (listed.setIfInBounds j Uq) (rN e oj.dst q) Hj hfree' (ready_mono hr<|Ne.symm hji) hF' (λG hG=>(hy G λc hc=>(hG c hc).trans<|hHj c hc).congr λx hx=>(ei x hx).symm) ?_;rw [WW _ _ hji,Ap (λd hd=>λhd'=>h2 d (by simpa using hd')<|by simpa using hd)];exact hAj
  refine ⟨oj,hoj,?_⟩;rw [hci] at hcm;generalize cls j=cj at hsj' hcm ⊢;obtain ⟨b,W⟩:=cj
  cases b with
  | false=>
   obtain ⟨q,q0,q1,q2⟩:=hsj';exact ⟨q,q0,q1,go q H hF (λ_ _=>rfl) q2⟩
  | true=>
   simp only [Od,Bool.not_true,Bool.false_or,Wn,Bool.not_eq_true',WN,decide_eq_false_iff_not] at hcm;show OpG P oj (rho e) H λr1 H1=>Aw W H H1/\Oe P ops cls Q (fuel+1) (listed.setIfInBounds j Uq) (rN e oj.dst r1) H1;refine OpG.mono (R:=λr1 H1=>Aw W H H1/\Oe P ops cls Q fuel ((listed.setIfInBounds i Uq).setIfInBounds j Uq) (rN (rN e oi.dst r) oj.dst r1) H1) hsj' λq Hj ⟨k1,k2⟩=>⟨k1,go q Hj (λc hc=>?_) (λc hc=>k1 c (hF c hc)<|hcm c hc) k2⟩;have := k1 c (hF c hc)<|hcm c hc;rw [geq (hF c hc)] at this;exact (ges this).1
def Rt (ops:Array Oper) (cls:Nat->Xc):List Nat->Array Bool->Bool
 | [],listed=>(Region.ready .any ops listed).isEmpty
 | i::l,listed=>(match ops[i]? with
  | some oi=>if (cls i).1 then Region.ready .any ops listed==[i] else (Region.ready .any ops listed).contains i&&(Wt ops.size).all λj=>j==i||listed.getD j Uq||(match ops[j]? with
   | some oj=>(oj.after.any λed=>Region.binds .any ed&&ed.on==i)||(oi.apart ops oj&&Od (cls i) (cls j))
   | none=>Uq)
  | none=>Ur)&&Rt ops cls l (listed.setIfInBounds i Uq)
def TX (P:Program) (ops:Array Oper) (cls:Nat->Xc):List Nat->(Env->AH->Prop)->Env->AH->Prop
 | [],K,e,H=>K e H
 | i::l,K,e,H=>∃ o,ops[i]? = Us o/\D7 P o (rho e) H (cls i) λr H'=>TX P ops cls l K (rN e o.dst r) H'
theorem IR {ops:Array Oper} {cls:Nat->Xc} {Q:Env->AH->Prop}:∀ (l:List Nat) (listed:Array Bool) (e:Env) (H:AH),Rt ops cls l listed=Uq->TX P ops cls l Q e H->Oe P ops cls Q l.length listed e H
 | [],listed,e,H,hc,h=>⟨by simpa [Rt] using hc,h⟩
 | i::l,listed,e,H,hc,h=>by
  obtain ⟨oi,hi,hs⟩:=h;simp only [Rt,hi,bae] at hc;obtain ⟨hc1,hc2⟩:=hc;generalize hci:cls i=ci at hc1 hs;obtain ⟨b,F⟩:=ci
  cases b with
  | true=>
   simp only [if_true,beq_iff_eq] at hc1;refine ⟨λhn=>(by rw [hc1] at hn;cases hn),λj hj=>?_⟩;rw [hc1,List.mem_singleton] at hj;subst hj;exact ⟨oi,hi,by rw [hci];exact D7.mono (b:=(Uq,F)) hs λr G hr=>IR l _ _ _ hc2 hr⟩
  | false=>
   obtain ⟨r,hF,hy,hK⟩:=hs;simp only [WS,if_false,bae,WN,dte,Wn,List.mem_range] at hc1;refine KD hi hci l.length listed e H (λj oj hj hne hun hno=>?_) hc1.1 hF hy<|IR l _ _ _ hc2 hK;have hjs:j<ops.size:=(Wz.1 hj).1;have := hc1.2 j hjs;simp only [hj,hun,Ww,beq_iff_eq,hne,false_or,WS,bae] at this;rw [hci];rcases this with h1 | h1
   ·rw [WM] at h1;obtain ⟨ed,h2,h3⟩:=h1;simp only [bae,beq_iff_eq] at h3;exact absurd h3.2<|hno ed h2 h3.1
   exact h1
theorem Fx {nt:Nat} {ops:Array Oper} {cls:Nat->Xc} {Q:Exit->Env->AH->Prop} (hd:Ks nt ops.toList=Uq) (hg:ops.all (λo=>o.guard.isNone)=Uq):∀ (fuel:Nat) (listed:Array Bool) (e:Env) (H:AH),Oe P ops cls (Q .normal) fuel listed e H ->
  ∀ (c c0:Cx) (a:Act),c.H=H->Ext c0 c->SRel c nt e a->wpAny P .any ops (Ri nt c0 Q) fuel listed a c.w
 | 0,listed,e,H,h,c,c0,a,hH,hx,hs=>⟨h.1,trivial,c,e,rfl,hx,hs,hH ▸ h.2⟩
 | fuel+1,listed,e,H,h,c,c0,a,hH,hx,hs=>by
  refine ⟨λhr=>⟨trivial,c,e,rfl,hx,hs,hH ▸ h.1 hr⟩,λi hi=>?_⟩;obtain ⟨o,ho,hst⟩:=h.2 i hi;have hm:o∈ops.toList:=by rw [Array.mem_toList_iff];exact WC ho
  have hgn:o.guard=Ut:=by
   rw [Array.all_eq_true] at hg;obtain ⟨hlt,rfl⟩:=Wz.1 ho;simpa using hg i hlt
  have hw:Region.wanted o (yielded ops a.tmps)=Uq:=by simp [Region.wanted,hgn]
  unfold wpOp;simp only [ho];rw [if_pos hw];refine .inl<|hst.opG c a _ _ hH hs.heap (λx _=>hs.rho x) λv c' r hA hr' hx' hv=>?_;exact Fx hd hg fuel _ _ _ hA c' c0 _ rfl (hx.trans hx')<|hs.put o.dst (qq hd hm) hx' hr' hv
end
theorem EvA.mkZR {P:Program} {ρ:Operand->AV} {H:AH} {x y:Operand} {t e:TypeId} {ag:Bool} {w m:Nat} {zs:List AV} {a b:Int} {α:Type} (bl:Nat) (v:α) (q:SlT P t e ag w zs m) (hx:ρ x = .v (.int .i64 a)) (hy:ρ y = .v (.int .i64 b)) (hq:0<=a/\a<=b/\b*(m:Int)<=140737488355328/\b<=140737488355328) (hab:a=b) (hF:zs.all (isF 9)=Uq) (hb:H[bl]? = Us Ut) :
  EvA P ρ (.makeSlice t x y) H (hS Ur bl 0 w (V9 a.toNat v).length) (H.set bl<|bE Ur 0 w e<|V9 a.toNat zs):=λo ho=>by
 subst hab;rw [WE];have h:=P6 (H:=H) q ho hx hy hq;refine h.at_ hb (λr hr z hz=>?_)<|.inl ⟨_,rfl,rfl⟩;rw [Wx] at hr;rw [hr.2] at hz;exact Wn.1 hF z hz
theorem TS.mkF0 {P:Program} {ρ:Operand->AV} {t e:TypeId} {α:Type} [Inhabited α] {f:α->List AV} {ag:Bool} {w m:Nat} {zs:List AV} {parts:Array (Nat×Operand)} (q:SlT P t e ag w zs m) (hr:lw (parts.toList.map λp=>(ρ p.2).cells)=Us [[.nil]]) (hn:(Nat.blt 0 w&&Wj (1*w) 16777216&&(parts.toList.map (·.1)==Wt 1))=Uq) (hw:w=1) :
  TS P ρ (.buildSlice t 1 parts) (eL (cL f) [([]:List α)]):=by
 simp only [bae,beq_iff_eq] at hn;have hz:=N8 q.z (q.zl.trans q.ty.cells.symm);refine .newF ⟨0,P.cellsOf e,e,[[.nil]]⟩ (λb => .hs b 0 (P.cellsOf e) 0 1) (λo ho G=>nE ho q.u hr (by rw [q.ty.cells];exact nlb hn.1.1) (by rw [q.ty.cells];exact nlb hn.1.2) hn.2 hz q.z.one (λrow hrow=>by
  obtain rfl:=List.mem_singleton.1 hrow;rw [q.ty.cells,hw]
  rfl)) λm G hG=>?_
 show Fz _ _ _ (.sl 1 _);refine .hs (k:=⟨0,P.cellsOf e,e,[[.nil]]⟩) (Wu _) (by rw [<- hG];simp) rfl rfl (by simp) (λi r hi hr=>?_) (λi r j c d hi hr hc hd=>?_)
 ·obtain rfl:i=0:=by omega
  obtain rfl:=osl hr
  rfl
 obtain rfl:i=0:=by omega
 obtain rfl:=osl hr
 match j with
 | 0=>
  obtain rfl:=osl hc;obtain rfl:=osl hd;exact .nil0
 | j+1=>simp at hc
section
variable {P:Program} {nt b0:Nat} {Q:Exit->Env->AH->Prop} {e:Env} {H H':AH} {r:AV}
theorem T.drawX {i:Nat} {ops:Array Oper} (ord:List Nat) (cls:Nat->Xc) (hm:P.follows .mixedOrders=Uq) (hg:ops.all (λo=>o.guard.isNone)=Uq) (hc:(Rt ops cls ord (WP ops.size Ur)&&(ord.length==ops.size))=Uq) (h:TX P ops cls ord (Q .normal) e H):T P nt b0 (.region i ops Uq) Q e H:=by
 intro hok c c0 a hH hb hx hs;simp only [codeOk] at hok;simp only [bae,beq_iff_eq] at hc;refine wp_region_any hm ?_;have hlex:=IR ord (WP ops.size Ur) e H hc.1 h;have := Fx hok hg ord.length _ e H hlex c.drew c0 a hH (hx.trans c.drew_ext) ⟨hs.size,hs.defers,λt=>(hs.rel t).ext hs.heap c.drew_ext,Cx.drew_rel hs.heap⟩;rw [hc.2] at this;exact this
variable {d:Tmp} {op:Op} {ty:TypeId} {pos:String} {af:Array Edge} {en:List (Nat×AV)} {cls:Nat->Xc} {ops:Array Oper} {i:Nat} {K:Env->AH->Prop} {l:List Nat}
theorem TX.nil (h:K e H):TX P ops cls [] K e H:=h
theorem xN (h0:ops[i]? = Us ⟨Us d,op,ty,pos,af,Ut⟩) (hc:cls i=(Ur,[])) (hv:TS P (rho<|ak en) op r) (h:TX P ops cls l K (ak ((d,r)::en)) H):TX P ops cls (i::l) K (ak en) H:=
 ⟨_,h0,by rw [hc];exact ⟨r,λ_ h=>(by cases h),λG _=>hv _ rfl G,h⟩⟩
theorem xR (F:List Nat) (h0:ops[i]? = Us ⟨Us d,op,ty,pos,af,Ut⟩) (hc:cls i=(Ur,F)) (hb:F.all (λb=>Nat.blt b H.length)=Uq) (hv:∀ G,agr F G H->EvA P (rho<|ak en) op G r G) (h:TX P ops cls l K (ak ((d,r)::en)) H):TX P ops cls (i::l) K (ak en) H:=
 ⟨_,h0,by rw [hc];exact ⟨r,λb hm=>nlb<|Wn.1 hb b hm,λG hG=>hv G hG _ rfl,h⟩⟩
theorem xT {W:List Nat} {o:Oper} {R:AV->AH->Prop} {e:Env} (h0:ops[i]? = Us o) (hc:cls i=(Uq,W)) (hv:OpG P o (rho e) H R) (hk:∀ r G,R r G->Aw W H G/\TX P ops cls l K (rN e o.dst r) G):TX P ops cls (i::l) K e H:=by
 refine ⟨o,h0,?_⟩;rw [hc];exact OpG.mono (R':=λr H'=>Aw W H H'/\TX P ops cls l K (rN e o.dst r) H') hv hk
theorem xA {W:List Nat} (h0:ops[i]? = Us ⟨Us d,op,ty,pos,af,Ut⟩) (hc:cls i=(Uq,W)) (hv:EvA P (rho<|ak en) op H r H') (hk:Aw W H H') (h:TX P ops cls l K (ak ((d,r)::en)) H'):TX P ops cls (i::l) K (ak en) H:=
 xT h0 hc (TP.opG<|hv ⟨Us d,op,ty,pos,af,Ut⟩ rfl) λr' G hG=>by obtain ⟨e1,e2⟩:=hG;subst e1 e2;exact ⟨hk,h⟩
theorem xV {W:List Nat} (h0:ops[i]? = Us ⟨Ut,op,ty,pos,af,Ut⟩) (hc:cls i=(Uq,W)) (hv:EvA P (rho<|ak en) op H r H') (hk:Aw W H H') (h:TX P ops cls l K (ak en) H'):TX P ops cls (i::l) K (ak en) H:=
 xT h0 hc (TP.opG<|hv ⟨Ut,op,ty,pos,af,Ut⟩ rfl) λr' G hG=>by obtain ⟨e1,e2⟩:=hG;subst e1 e2;exact ⟨hk,h⟩
end
end
end Go.Proofs.YtdmahcaohkplcaaGreatDoor
