/-
 Contracts and words, several texts joined. No conditions.
-/
import Derived.Test.YtlmjnhnpahicmaaGC
namespace Go.Proofs.Ytlmjnhnpahicmaa
open Go.RowKit
set_option maxRecDepth 100000
section
variable {P : Program} {o : Oper} {ρ : Operand -> AV} {H : AH} {x y : Operand} {t e : TypeId}
theorem newS_makeSlice {lo co : Operand} {l k : Int} {z : Value} (ho : o.op = .makeSlice t lo co) (ht : P.underlying t = some (.slice e)) (hlo : ρ lo = .v (.int .i64 l)) (hco : ρ co = .v (.int .i64 k)) (hz : (P.info? e).bind (·.zero) = some z)
  (h0 : 0 <= l) (h1 : l <= k) (hb : k * (P.bytesOf e : Int) <= 140737488355328) (hk : k <= 140737488355328) (hs : 0 < P.cellsOf e) (hzs : (zcells z).length = P.cellsOf e) (hz1 : allOne z.cells = true) :
  NewS P o ρ H ⟨0,P.cellsOf e,e,List.replicate k.toNat (zcells z)⟩ (.hs H.length 0 (P.cellsOf e) 0 l.toNat) := by
 cases hi : P.info? e with
 | none => rw [hi] at hz; cases hz
 | some i =>
  simp only [hi,Option.bind_some] at hz
  have hby : P.bytesOf e = i.bytes := by simp [Program.bytesOf,hi]
  have hce : P.cellsOf e = i.size := by simp [Program.cellsOf,hi]
  have hzsz : z.cells.size = P.cellsOf e := by simpa [zcells] using hzs
  refine fun c a hH hr hx => ?_
  have hl1 := (rel_v (hlo ▸ hx lo (by rw [ho]; simp [Op.operands]))).1
  have hk1 := (rel_v (hco ▸ hx co (by rw [ho]; simp [Op.operands]))).1
  have hzc := zcells_rel c hz1
  have hsize : (sizeOf e).run P c.w = .ok (P.cellsOf e) c.w := run_sizeOf c.w hi
  have hzero : (zeroValue e).run P c.w = .ok z c.w := by simp [zeroValue,typeInfo,hi,hz]
  refine ⟨(Array.range (k.toNat * P.cellsOf e)).map (z.cells[· % z.cells.size]!),.slice (some ⟨c.w.heap.size,0,none⟩) l.toNat k.toNat,?_,Cx.new_rel hr _ _ hs (by simp) (fun q row h => ?_) (fun q row j a' h1' h2 => ?_),?_⟩
  ·rw [execOp,ho]
   refine (?_ : Sem.run P _ c.w = _)
   have hneg : ¬ ((((decide (k < 0) || decide (i.bytes * k > 2 ^ 48)) || decide (l < 0)) || decide (l > k)) = true) := by
    simp only [Bool.or_eq_true,decide_eq_true_eq,not_or]
    rw [hby,Int.mul_comm] at hb
    omega
   have : (Instr.makeSlice t (a.eval lo) (a.eval co)).run P c.w = .ok (.slice (some ⟨c.w.heap.size,0,none⟩) l.toNat k.toNat) (c.w.alloc (.cells ((Array.range (k.toNat * P.cellsOf e)).map (z.cells[· % z.cells.size]!)) e)) := by
    rw [hl1,hk1]
    simp only [Instr.makeSlice,Sem.run_bind,run_underlying' ht,Result.andThen_ok,asInt,asIntOf,Sem.run_pure,run_typeInfo c.w hi,wrap_id (n:=l) h0 (by omega),wrap_id (n:=k) (by omega) (by omega)]
    rw [if_neg hneg]
    simp only [Sem.run_bind,run_askRoom,Result.andThen_ok,hsize]
    by_cases h00 : k.toNat * P.cellsOf e = 0
    ·rw [if_pos h00,h00]
     have h00' : ∀ f : Nat -> Value,Array.map f (Array.range 0) = #[] := fun f => Array.eq_empty_of_size_eq_zero (by simp)
     simp [newRow,h00']
    ·rw [if_neg h00]
     simp [hzero,newRow]
   simp only [Sem.run_bind,this,Result.andThen_ok,Sem.run_pure]
   rfl
  ·have := List.mem_of_getElem? h
   rw [List.mem_replicate] at this
   rw [this.2]
   exact hzs
  ·have hq : q < k.toNat := by
    have := (List.getElem?_eq_some_iff.1 h1').1
    simpa using this
   have := List.mem_of_getElem? h1'
   rw [List.mem_replicate] at this
   rw [this.2] at h2
   have hj : j < P.cellsOf e := by
    have := (List.getElem?_eq_some_iff.1 h2).1
    omega
   have hfit : q * P.cellsOf e + j < k.toNat * P.cellsOf e := by
    have : (q + 1) * P.cellsOf e <= k.toNat * P.cellsOf e := Nat.mul_le_mul_right _ (by omega)
    rw [Nat.add_mul] at this
    omega
   simp only
   rw [zero_get _ _ _ hfit (by omega),hzsz,Nat.mul_comm,Nat.mul_add_mod,Nat.mod_eq_of_lt hj]
   exact hzc.get h2
  ·subst hH
   have := Cx.new_hs c ⟨0,P.cellsOf e,e,List.replicate k.toNat (zcells z)⟩ ((Array.range (k.toNat * P.cellsOf e)).map (z.cells[· % z.cells.size]!)) (n:=l.toNat) (cap:=k.toNat) (by simp; omega) (by omega) (by omega) (by simp)
   exact this
theorem newS_mk {ag : Bool} {w m : Nat} {zs : List AV} {a b : Int} (q : SlT P t e ag w zs m) (ho : o.op = .makeSlice t x y) (hx : ρ x = .v (.int .i64 a)) (hy : ρ y = .v (.int .i64 b)) (hq : 0 <= a /\ a <= b /\ b * (m : Int) <= 140737488355328 /\ b <= 140737488355328) :
  NewS P o ρ H ⟨0,w,e,List.replicate b.toNat zs⟩ (.hs H.length 0 w 0 a.toNat) := by
 have hz := q.z.z
 have h1 := q.z.one
 cases hb : (P.info? e).bind (·.zero) with
 | none => rw [hb] at hz; cases hz
 | some z =>
  rw [hb] at hz h1
  simp only [Option.map_some,Option.some.injEq] at hz h1
  have h := newS_makeSlice (P:=P) (o:=o) (ρ:=ρ) (H:=H) ho q.u hx hy hb hq.1 hq.2.1 (by rw [q.by_]; exact hq.2.2.1) hq.2.2.2 (by rw [q.ty.cells]; exact Nat.le_of_ble_eq_true q.pos) (by rw [hz,q.ty.cells]; exact q.zl) h1
  rw [hz,q.ty.cells] at h
  exact h
theorem EvN.msF {α : Type} [Inhabited α] {c : α -> List AV} {ag : Bool} {w m : Nat} {zs : List AV} {a b : Int} (v : α) (q : SlT P t e ag w zs m) (hx : ρ x = .v (.int .i64 a)) (hy : ρ y = .v (.int .i64 b)) (hq : 0 <= a /\ a <= b /\ b * (m : Int) <= 140737488355328 /\ b <= 140737488355328) (hab : a = b) (hv : zs = c v) (hF : ∀ x,(c x).all (isF 9) = true) :
  EvN P ρ (.makeSlice t x y) (eL c (List.replicate a.toNat v)) := by
 subst hab hv
 refine .newF ⟨0,w,e,(List.replicate a.toNat v).map c⟩ (fun b => .hs b 0 w 0 a.toNat) (fun o ho G => ?_) fun m G hG => ?_
 ·rw [List.map_replicate]
  exact newS_mk q ho hx hy hq
 ·exact Fz.own (g:=false) (ver:=0) (l:=List.replicate a.toNat v) (f:=c) (ty:=e) (Nat.ble_eq_true_of_le (Nat.le_refl _)) (by rw [<- hG]; simp [bE]) (by simp) nofun hF
theorem EvN.msZ {α : Type} [Inhabited α] {f : α -> List AV} {ag : Bool} {w m : Nat} {a b : Int} (q : SlT P t e ag w [.nil] m) (hx : ρ x = .v (.int .i64 a)) (hy : ρ y = .v (.int .i64 b)) (hq : 0 <= a /\ a <= b /\ b * (m : Int) <= 140737488355328 /\ b <= 140737488355328) (hab : a = b) :
  EvN P ρ (.makeSlice t x y) (eL (cL f) (List.replicate a.toNat ([] : List α))) := by
 subst hab
 refine .newF ⟨0,w,e,List.replicate a.toNat [.nil]⟩ (fun b => .hs b 0 w 0 a.toNat) (fun o ho G => newS_mk q ho hx hy hq) fun m G hG => ?_
 show Fz _ _ _ (.sl (List.replicate a.toNat ([] : List α)).length _)
 rw [List.length_replicate]
 refine .hs (k:=⟨0,w,e,List.replicate a.toNat [.nil]⟩) (Nat.le_refl _) (by rw [<- hG]; simp) rfl rfl (by simp) (fun i r hi hr => ?_) (fun i r j c d hi hr hc hd => ?_)
 ·have := List.mem_of_getElem? hr
  rw [List.mem_replicate] at this
  rw [this.2]
  rfl
 ·have := List.mem_of_getElem? hr
  rw [List.mem_replicate] at this
  rw [this.2] at hc
  have e0 : (List.replicate a.toNat ([] : List α)).getD i default = [] := by simp [List.getElem?_replicate]; split <;> rfl
  rw [e0] at hd
  match j with
  | 0 =>
   obtain rfl := Option.some.inj hc
   obtain rfl := Option.some.inj hd
   exact .nil0
  | j + 1 => simp at hc
end
end Go.Proofs.Ytlmjnhnpahicmaa
namespace Go.Proofs.Ytlmjnhnpahicmaa
open Go.RowKit
set_option maxRecDepth 100000
section
variable {P : Program}
def OSQ (bs : List Nat) (K : AH) (r : AV) : AV -> AH -> Prop := fun r0 G =>
 bs.Nodup /\ bs.length = K.length /\ (∀ (j b : Nat),bs[j]? = some b -> ∃ k,rowsF k /\ G[b]? = some (some k) /\ K[j]? = some (some k)) /\ Ren (fun i j => bs[j]? = some i) r0 r
theorem OSQ.reid {bs : List Nat} {K G : AH} {r r0 : AV} (h : OSQ bs K r r0 G) : Reid 0 (fun i j => bs[j]? = some i) G K := by
 obtain ⟨hnd,hl,hk,_⟩ := h
 refine ⟨fun i j j' h1 h2 => ?_,fun i i' j h1 h2 => ?_,fun i hi => by omega,Nat.zero_le _,fun j k0 hk0 => ?_,fun i j k hS hk0 => ?_⟩
 ·obtain ⟨l1,e1⟩ := List.getElem?_eq_some_iff.1 h1
  obtain ⟨l2,e2⟩ := List.getElem?_eq_some_iff.1 h2
  exact (List.getElem_inj hnd).1 (e1.trans e2.symm)
 ·rw [h1] at h2
  exact Option.some.inj h2
 ·have hj : j < bs.length := by rw [hl]; exact (List.getElem?_eq_some_iff.1 hk0).1
  obtain ⟨k,h1,h2,h3⟩ := hk j bs[j] (List.getElem?_eq_getElem hj)
  rw [hk0] at h3
  obtain rfl := Option.some.inj (Option.some.inj h3)
  exact ⟨bs[j],k0,List.getElem?_eq_getElem hj,h2,.ofF h1⟩
 ·obtain ⟨k1,_,_,h3⟩ := hk j i hS
  exact ⟨k1,h3⟩
theorem ACall.mkOS {g : FuncId} {fn : Func} {body : Code} {ars : List AV} {r : AV} {K : AH} (hf : P.funcs[g]? = some fn) (hb : fn.body = some body) (hcall : callable P g = true) (hn : Nat.ble ars.length fn.ntmps = true)
  (hok : codeOk fn.ntmps body = true) {e0 : Env} (hw : Weak (env0 ars) e0) (h : T P fn.ntmps 0 body (Fin P fn fun r0 G => ∃ bs,OSQ bs K r r0 G) e0 []) : ACall P g ars [] r K := by
 have hB := BCall.mkT (H:=[]) hf hb hcall hn hok hw h
 refine ⟨hB.1,fun c vs hH hr hall => (hB.2 c vs hH hr hall).mono fun e w' ⟨v,c1,r0,he,hw',⟨bs,hq⟩,hr1,hx,hv⟩ => ?_⟩
 have hs : SRel c1 1 (fun t => bif Nat.beq t 0 then r0 else .top) { tmps := #[v],defers := [] } := by
  refine ⟨rfl,rfl,fun t => ?_,hr1⟩
  match t with
  | 0 => exact hv
  | t + 1 => exact .top
 obtain ⟨c2,h1,h2,h3,h4⟩ := hq.reid.state (e0:=fun t => bif Nat.beq t 0 then r else .top) hx hs (by rw [hH]; exact Nat.zero_le _) fun t => by
  match t with
  | 0 => exact hq.2.2.2
  | t + 1 => exact .top
 exact ⟨v,c2,he,h1.trans hw',h4,h3.heap,h2,h3.rel 0⟩
theorem ACall.freshL {g : FuncId} {ars : List AV} {r r' : AV} {K H : AH} (h : ACall P g ars [] r K) (has : ars.all (isF 9) = true) (hK : ∀ (j : Nat) (k : ABlk),K[j]? = some (some k) -> rowsF k) (n : Nat) (hn : H.length = n) (hr : Ren (sg [] n) r r') : ACall P g ars H r' (H ++ K) := by
 subst hn
 have key : ∀ {i b},sg [] H.length i b -> b = H.length + i := fun {i b} hs => by
  rcases hs with hs | ⟨_,hs⟩
  ·simp at hs
  ·simpa using hs
 have hz : ∀ i,(H ++ K)[H.length + i]? = K[i]? := fun i => by rw [List.getElem?_append_right (by omega),Nat.add_sub_cancel_left]
 refine h.frame [] List.nodup_nil rfl (fun i c hi => by simp at hi) rfl (fun i c d hc hd => ?_) ⟨Nat.zero_le _,by simp,fun i c hi hs hn => ?_,fun i c k0 hs hg => ?_,fun c hc hni => List.getElem?_append_left hc⟩ hr
 ·obtain ⟨rfl,hm⟩ := same_get hc hd
  exact ren_isF 9 c (List.all_eq_true.1 has _ hm)
 ·obtain rfl := key hs
  rw [hz]
  exact hn
 ·obtain rfl := key hs
  exact ⟨k0,(hz i).trans hg,.ofF (hK i k0 hg)⟩
theorem ren_sh {n i j v w m : Nat} (h : j = n + i) : Ren (sg [] n) (hS false i v w m) (hS false j v w m) := .hs (.inr ⟨Nat.zero_le _,by simpa using h⟩)
theorem ren_pl {bs : List Nat} {i j v w m : Nat} (h : bs[j]? = some i) : Ren (fun i j => bs[j]? = some i) (hS false i v w m) (hS false j v w m) := .hs h
theorem Ren.aggL {S : Nat -> Nat -> Prop} {l k : List AV} (h : RenL S l k) : Ren S (.agg l) (.agg k) := .agg h.spec.1 h.spec.2
inductive Lies (G : AH) : List Nat -> AH -> Prop
 | nil : Lies G [] []
 | cons {b : Nat} {k : ABlk} {bs : List Nat} {K : AH} (h : G[b]? = some (some k)) (hk : rowsF k) (t : Lies G bs K) : Lies G (b :: bs) (some k :: K)
theorem Lies.spec {G : AH} {bs : List Nat} {K : AH} (h : Lies G bs K) : bs.length = K.length /\ ∀ (j b : Nat),bs[j]? = some b -> ∃ k,rowsF k /\ G[b]? = some (some k) /\ K[j]? = some (some k) := by
 induction h with
 | nil => exact ⟨rfl,fun j b h => by simp at h⟩
 | @cons b k bs K h hk t ih =>
  refine ⟨by simp [ih.1],fun j c hc => ?_⟩
  match j with
  | 0 =>
   obtain rfl := Option.some.inj hc
   exact ⟨k,hk,h,rfl⟩
  | j + 1 => exact ih.2 j c hc
theorem OSQ.mk {bs : List Nat} {K G : AH} {r r0 : AV} (hnd : bs.Nodup) (hl : Lies G bs K) (hr : Ren (fun i j => bs[j]? = some i) r0 r) : OSQ bs K r r0 G := ⟨hnd,hl.spec.1,hl.spec.2,hr⟩
inductive RowsF : AH -> Prop
 | nil : RowsF []
 | cons {k : ABlk} {K : AH} (hk : rowsF k) (t : RowsF K) : RowsF (some k :: K)
theorem RowsF.spec {K : AH} (h : RowsF K) : ∀ (j : Nat) (k : ABlk),K[j]? = some (some k) -> rowsF k := by
 induction h with
 | nil => intro j k h; simp at h
 | cons hk t ih =>
  intro j k h
  match j with
  | 0 =>
   obtain rfl := Option.some.inj (Option.some.inj h)
   exact hk
  | j + 1 => exact ih j k h
end
end Go.Proofs.Ytlmjnhnpahicmaa
namespace Go.Proofs.Ytlmjnhnpahicmaa
open Go.RowKit
set_option maxRecDepth 100000
def depB (ops : Array Oper) : Nat -> Nat -> Nat -> Bool
 | 0,_,_ => false
 | n + 1,j,i => match ops[j]? with
  | some oj => oj.after.any fun ed => Region.binds .any ed && (ed.on == i || depB ops n ed.on i)
  | none => false
def ClL (ops : Array Oper) (listed : Array Bool) : Prop := ∀ (j : Nat) (oj : Oper),ops[j]? = some oj -> listed.getD j false = true -> ∀ ed ∈ oj.after,Region.binds .any ed = true -> listed.getD ed.on false = true
theorem getD_up {listed : Array Bool} {i j : Nat} (h : listed.getD i false = true) : (listed.setIfInBounds j true).getD i false = true := by
 by_cases e : j = i
 ·subst e
  rcases Nat.lt_or_ge j listed.size with h' | h'
  ·simp [h']
  ·simp [Array.getElem?_eq_none h'] at h
 ·simpa [Array.getElem?_setIfInBounds_ne e] using h
theorem ClL.up {ops : Array Oper} {listed : Array Bool} {j : Nat} (h : ClL ops listed) (hj : j ∈ Region.ready .any ops listed) : ClL ops (listed.setIfInBounds j true) := by
 intro i oi hoi hl ed he hb
 by_cases e : j = i
 ·subst e
  obtain ⟨_,oj,hoj,hall⟩ := mem_ready.1 hj
  rw [hoi] at hoj
  injection hoj with hoj
  subst hoj
  exact getD_up (hall ed he hb)
 ·refine getD_up (h i oi hoi ?_ ed he hb)
  simpa [Array.getElem?_setIfInBounds_ne e] using hl
theorem dep_listed {ops : Array Oper} {listed : Array Bool} {i : Nat} (h : ClL ops listed) (hi : listed.getD i true = false) : ∀ (n j : Nat),(∀ oj,ops[j]? = some oj -> ∀ ed ∈ oj.after,Region.binds .any ed = true -> listed.getD ed.on false = true) -> depB ops n j i = false
 | 0,_,_ => rfl
 | n + 1,j,hj => by
  unfold depB
  split
  ·rename_i oj hoj
   rw [Bool.eq_false_iff]
   intro hany
   rw [Array.any_eq_true'] at hany
   obtain ⟨ed,h1,h2⟩ := hany
   simp only [Bool.and_eq_true,Bool.or_eq_true,beq_iff_eq] at h2
   have hl := hj oj hoj ed h1 h2.1
   rcases h2.2 with h3 | h3
   ·rw [h3] at hl
    rcases Nat.lt_or_ge i listed.size with h' | h'
    ·simp [h'] at hl hi; rw [hi] at hl; cases hl
    ·simp [Array.getElem?_eq_none h'] at hl
   ·rw [dep_listed h hi n ed.on fun oj' hoj' => h ed.on oj' hoj' hl] at h3
    cases h3
  ·rfl
section
variable {P : Program}
theorem fAny_firstH {ops : Array Oper} {fp : Nat -> Fp} {Q : Env -> AH -> Prop} {i n : Nat} {oi : Oper} {r : AV} (hi : ops[i]? = some oi) :
  ∀ (fuel : Nat) (listed : Array Bool) (e : Env) (H Hi : AH),ClL ops listed ->
   (∀ (j : Nat) (oj : Oper),ops[j]? = some oj -> j ≠ i -> listed.getD j true = false -> depB ops (n + 1) j i = false -> oi.apart ops oj = true /\ compatF (fp i) (fp j) = true) ->
   i ∈ Region.ready .any ops listed -> StepF P oi (rho e) H r Hi (fp i).1 -> ((fp i).2 = false -> Hi = H) -> fAny P ops fp Q fuel (listed.setIfInBounds i true) (eset e oi.dst r) Hi -> fAny P ops fp Q (fuel + 1) listed e H := by
 intro fuel
 induction fuel with
 | zero =>
  intro listed e H Hi _ _ hr hy hro hA
  refine ⟨fun h => (by rw [h] at hr; cases hr),fun j hj => ?_⟩
  by_cases hji : j = i
  ·subst hji; exact ⟨oi,r,Hi,hi,hy,hro,hA⟩
  ·have := ready_mono hj hji
   rw [hA.1] at this
   cases this
 | succ fuel ih =>
  intro listed e H Hi hcl hfree hr hy hro hA
  refine ⟨fun h => (by rw [h] at hr; cases hr),fun j hj => ?_⟩
  by_cases hji : j = i
  ·subst hji; exact ⟨oi,r,Hi,hi,hy,hro,hA⟩
  ·obtain ⟨oj,q,Hj,hoj,hsj,hroj,hAj⟩ := hA.2 j (ready_mono hj hji)
   obtain ⟨hjun,oj',hoj',hall⟩ := mem_ready.1 hj
   rw [hoj] at hoj'
   injection hoj' with hoj'
   subst hoj'
   have hnot : depB ops (n + 1) j i = false := dep_listed hcl (mem_ready.1 hr).1 (n + 1) j fun oj' hoj' => by
    rw [hoj] at hoj'
    injection hoj' with hoj'
    subst hoj'
    exact hall
   obtain ⟨hap,hcm⟩ := hfree j oj hoj hji hjun hnot
   obtain ⟨h1,h2,h3⟩ := Oper.apart_spec hap
   have ej := rho_apart (e:=e) (r:=r) h1
   have ei := rho_apart (e:=e) (oi:=oj) (r:=q) h3
   have hsj' := hsj.congr ej
   have hfree' : ∀ (k : Nat) (ok : Oper),ops[k]? = some ok -> k ≠ i -> (listed.setIfInBounds j true).getD k true = false -> depB ops (n + 1) k i = false -> oi.apart ops ok = true /\ compatF (fp i) (fp k) = true := fun k ok hk hki hun hno => by
    refine hfree k ok hk hki ?_ hno
    by_cases hjk : j = k
    ·subst hjk; exact hjun
    ·rw [getD_set_ne true hjk] at hun; exact hun
   have fin : ∀ Hj',StepF P oj (rho e) H q Hj' (fp j).1 -> ((fp j).2 = false -> Hj' = H) -> StepF P oi (rho e) Hj' r Hj (fp i).1 -> ((fp i).2 = false -> Hj = Hj') -> ∃ o r' H',ops[j]? = some o /\ StepF P o (rho e) H r' H' (fp j).1 /\ ((fp j).2 = false -> H' = H) /\ fAny P ops fp Q (fuel + 1) (listed.setIfInBounds j true) (eset e o.dst r') H' := fun Hj' s1 s1' s2 s2' => by
    refine ⟨oj,q,Hj',hoj,s1,s1',ih (listed.setIfInBounds j true) (eset e oj.dst q) Hj' Hj (hcl.up hj) hfree' (ready_mono hr (Ne.symm hji)) (s2.congr fun x hx => (ei x hx).symm) s2' ?_⟩
    rw [Array.setIfInBounds_comm _ _ hji,eset_comm (fun d hd => fun hd' => h2 d (by simpa using hd') (by simpa using hd))]
    exact hAj
   simp only [compatF,Bool.or_eq_true,Bool.and_eq_true,Bool.not_eq_true',List.all_eq_true,List.contains_eq_mem,decide_eq_false_iff_not] at hcm
   rcases hcm with hdis | ⟨w1,w2⟩
   ·have hag : agree (fp j).1 H Hi := ⟨hy.1.symm,fun b hb => (hy.2.1 b (fun hbi => hdis b hbi hb)).symm⟩
    obtain ⟨Hj',a1,a2,a3,a4⟩ := hsj'.at_ hag
    have hag2 : agree (fp i).1 Hj' H := ⟨a1,fun b hb => a3 b (hdis b hb)⟩
    obtain ⟨K,b1,b2,b3,b4⟩ := hy.at_ hag2
    have hKH : K = Hj := by
     apply List.ext_getElem?
     intro b
     by_cases hbi : b ∈ (fp i).1
     ·rw [b2 b hbi,hsj'.2.1 b (hdis b hbi)]
     ·rw [b3 b hbi]
      by_cases hbj : b ∈ (fp j).1
      ·exact a2 b hbj
      ·rw [a3 b hbj,hsj'.2.1 b hbj,hy.2.1 b hbi]
    subst hKH
    refine fin Hj' a4 (fun hw => ?_) b4 (fun hw => ?_)
    ·apply List.ext_getElem?
     intro b
     by_cases hbj : b ∈ (fp j).1
     ·rw [a2 b hbj,hroj hw,hy.2.1 b (fun hbi => hdis b hbi hbj)]
     ·exact a3 b hbj
    ·apply List.ext_getElem?
     intro b
     by_cases hbi : b ∈ (fp i).1
     ·rw [b2 b hbi,hro hw,a3 b (hdis b hbi)]
     ·exact b3 b hbi
   ·obtain rfl := hro w1
    obtain rfl := hroj w2
    exact fin _ hsj' (fun _ => rfl) hy (fun _ => rfl)
def clsH (ops : Array Oper) (fp : Nat -> Fp) : Bool :=
 Region.lexB .any ops && ops.all (fun o => o.guard.isNone) &&
 (List.range ops.size).all fun i => (List.range ops.size).all fun j => decide (j <= i) || compatF (fp i) (fp j) || depB ops 6 j i
theorem fAny_TFH {ops : Array Oper} {fp : Nat -> Fp} {Q : Env -> AH -> Prop} (hc : clsH ops fp = true) : ∀ (l : List Oper) (k : Nat) (listed : Array Bool) (e : Env) (H : AH),ClL ops listed -> (∀ j,l[j]? = ops[k + j]?) -> listed.size = ops.size -> (∀ j,j < k -> listed.getD j true = true) ->
  Region.lexFrom .any ops l.length k listed = true -> TF P fp k l Q e H -> fAny P ops fp Q l.length listed e H
 | [],k,listed,e,H,_,_,_,_,hB,h => ⟨by simpa [Region.lexFrom] using hB,h⟩
 | o :: l,k,listed,e,H,hcl,hl,hsz,hbef,hB,h => by
  have h0 : ops[k]? = some o := by simpa using (hl 0).symm
  have hk : k < ops.size := (Array.getElem?_eq_some_iff.1 h0).1
  simp only [List.length_cons,Region.lexFrom,Bool.and_eq_true] at hB
  obtain ⟨⟨hr,hf⟩,hB'⟩ := hB
  obtain ⟨r,H',hs,hro,hK⟩ := h
  have hrk : k ∈ Region.ready .any ops listed := by simpa using hr
  refine fAny_firstH (n:=5) h0 l.length listed e H H' hcl (fun j oj hj hne hun hno => ?_) hrk hs hro
   (fAny_TFH hc l (k + 1) _ _ _ (hcl.up hrk) (fun j => by have := hl (j + 1); simpa [Nat.add_assoc,Nat.add_comm 1 j] using this) (by simpa using hsz) (fun j hj => ?_) hB' hK)
  ·have hno1 : ∀ ed ∈ oj.after,Region.binds .any ed = true -> ed.on ≠ k := fun ed he hb heq => by
    unfold depB at hno
    simp only [hj] at hno
    rw [Bool.eq_false_iff] at hno
    refine hno ?_
    rw [Array.any_eq_true']
    exact ⟨ed,he,by simp [hb,heq]⟩
   refine ⟨Region.free_spec h0 hf j oj hj hne hun hno1,?_⟩
   have hjs : j < ops.size := (Array.getElem?_eq_some_iff.1 hj).1
   have hkj : ¬ j <= k := fun hle => by
    have := hbef j (by omega)
    rw [this] at hun
    cases hun
   simp only [clsH,Bool.and_eq_true,List.all_eq_true,List.mem_range] at hc
   have := hc.2 k hk j hjs
   simp only [Bool.or_eq_true,decide_eq_true_eq,hkj,false_or] at this
   rcases this with h1 | h1
   ·exact h1
   ·rw [hno] at h1
    cases h1
  ·by_cases e : j = k
   ·subst e
    simp [hsz,hk]
   ·rw [getD_set_ne true (Ne.symm e)]
    exact hbef j (by omega)
variable {nt b0 : Nat} {Q : Exit -> Env -> AH -> Prop} {e : Env} {H : AH}
theorem T.drawH {i : Nat} {ops : Array Oper} (fp : Nat -> Fp) (hm : P.follows .mixedOrders = true) (hc : clsH ops fp = true) (h : TF P fp 0 ops.toList (Q .normal) e H) : T P nt b0 (.region i ops true) Q e H := by
 intro hok c c0 a hH hb hx hs
 simp only [codeOk] at hok
 have hc' := hc
 simp only [clsH,Bool.and_eq_true,Region.lexB] at hc'
 refine wp_region_any hm ?_
 have hlex := fAny_TFH hc ops.toList 0 (Array.replicate ops.size false) e H (fun j oj hj hl => by
  rcases Nat.lt_or_ge j ops.size with h' | h'
  ·simp [h'] at hl
  ·simp [Array.getElem?_eq_none h'] at hj) (fun j => by simp) (by simp) (fun j hj => absurd hj (by omega)) (by simpa using hc'.1.1.2) h
 have := fany_sound hok hc'.1.2 ops.toList.length _ e H hlex c.drew c0 a hH (hx.trans c.drew_ext) ⟨hs.size,hs.defers,fun t => (hs.rel t).ext hs.heap c.drew_ext,Cx.drew_rel hs.heap⟩
 rw [Array.length_toList] at this
 exact this
end
end Go.Proofs.Ytlmjnhnpahicmaa
namespace Go.Proofs.Ytlmjnhnpahicmaa
open Go.RowKit
set_option maxRecDepth 100000
section
variable {P : Program} {ρ : Operand -> AV} {H H' : AH}
structure MethT (P : Program) (t : TypeId) (name : String) (g : FuncId) (off : Nat) : Prop where
 ex : ∃ i m e,P.info? t = some i /\ i.methods.find? (·.name == name) = some m /\ m.func = some (g,true) /\ P.underlying t = some (.pointer e) /\
  ((m.path.toList = [] /\ off = 0) \/ ∃ s k fs fl u,m.path.toList = [⟨s,k,true⟩] /\ P.underlying s = some (.struct fs) /\ fs[k]? = some fl /\ P.cellsOf fl.type ≠ 0 /\ (P.info? fl.type).isSome = true /\ fl.offset = off /\ P.underlying fl.type = some u /\ (∀ e,u ≠ .pointer e))
def methB (P : Program) (t : TypeId) (name : String) (g : FuncId) (off : Nat) : Bool :=
 match P.info? t,P.underlying t with
 | some i,some (.pointer _) => (match i.methods.find? (·.name == name) with
  | some m => m.func == some (g,true) && (match m.path.toList with
   | [] => off == 0
   | [⟨s,k,true⟩] => (match P.underlying s with
    | some (.struct fs) => (match fs[k]? with
     | some fl => P.cellsOf fl.type != 0 && (P.info? fl.type).isSome && fl.offset == off && (match P.underlying fl.type with
      | some (.pointer _) | none => false
      | some _ => true)
     | none => false)
    | _ => false)
   | _ => false)
  | none => false)
 | _,_ => false
theorem MethT.of {t : TypeId} {name : String} {g off : Nat} (h : methB P t name g off = true) : MethT P t name g off := by
 unfold methB at h
 split at h
 ·rename_i i e hi hu
  split at h
  ·rename_i m hm
   simp only [Bool.and_eq_true,beq_iff_eq] at h
   obtain ⟨hf,h⟩ := h
   refine ⟨i,m,e,hi,hm,hf,hu,?_⟩
   split at h
   ·rename_i hp
    exact .inl ⟨hp,by simpa using h⟩
   ·rename_i s k hp
    split at h
    ·rename_i fs hs
     split at h
     ·rename_i fl hfl
      simp only [Bool.and_eq_true,beq_iff_eq,bne_iff_ne,ne_eq] at h
      obtain ⟨⟨⟨h1,h2⟩,h3⟩,h4⟩ := h
      cases hfu : P.underlying fl.type with
      | none => rw [hfu] at h4; cases h4
      | some u => exact .inr ⟨s,k,fs,fl,u,hp,hs,hfl,h1,h2,h3,hfu,fun e' he => by subst he; rw [hfu] at h4; cases h4⟩
     ·cases h
    ·cases h
   ·cases h
  ·cases h
 ·cases h
theorem run_method {t : TypeId} {name : String} {g off : Nat} (hm : MethT P t name g off) (w : World) (n : Nat) {g0 : Nat} {o0 : Nat} (v : Value) (hv : v = .pointer (some ⟨g0,o0,none⟩)) : (method (n + 1) t v name).run P w = .ok (g,.pointer (some ⟨g0,o0 + off,none⟩)) w := by
 obtain ⟨i,m,e,hi,hf,hg,hu,hp⟩ := hm.ex
 have e1 : (typeInfo t).run P w = .ok i w := run_typeInfo w hi
 rcases hp with ⟨hp,rfl⟩ | ⟨s,k,fs,fl,u,hp,hs,hk,hc,_,rfl,hfu,hne⟩
 ·simp only [method,Sem.run_bind,e1,Result.andThen_ok,hf,hp,follow,Sem.run_pure,hg,receiverAt,run_underlying' hu,Place.get,hv,Nat.add_zero]
 ·obtain ⟨i2,hi2⟩ := info_of_cells hc
  have e2 : (receiverAt fl.type (.var ⟨g0,o0 + fl.offset,none⟩) true (if m.path.isEmpty then some ((name.splitOn ".").getLastD name) else none)).run P w = .ok (.pointer (some ⟨g0,o0 + fl.offset,none⟩)) w := by
   unfold receiverAt
   simp only [Sem.run_bind,run_underlying' hfu,Result.andThen_ok]
   cases u <;> first | rfl | exact absurd rfl (hne _)
  simp only [method,Sem.run_bind,e1,Result.andThen_ok,hf,hp,follow,Sem.run_pure,hg,run_underlying' hs,hk,Place.get,hv,asAddr,fieldPlace,run_sizeOf w hi2,hc,if_false,if_true,add0,e2]
theorem run_callMethod {t : TypeId} {name : String} {g off : Nat} (hm : MethT P t name g off) (hcl : callable P g = true) (w : World) {g0 o0 : Nat} (args : Array Value) :
  (callMethod (.iface t (.pointer (some ⟨g0,o0,none⟩))) name args).run P w = .ok (.enter g (#[.pointer (some ⟨g0,o0 + off,none⟩)] ++ args)) w := by
 have h0 : 0 < Made.depth := by decide
 obtain ⟨n,hn⟩ : ∃ n,P.types.size + Made.depth = n + 1 := ⟨P.types.size + Made.depth - 1,by omega⟩
 have h1 := run_method hm w n (g0:=g0) (o0:=o0) _ rfl
 have h2 := run_callFunc hcl (#[.pointer (some ⟨g0,o0 + off,none⟩)] ++ args) w
 have hp : (program : Sem Program).run P w = .ok P w := rfl
 simp only [callMethod,Sem.run_bind,hp,Result.andThen_ok,hn,h1]
 exact h2
theorem opS_invoke {o : Oper} {cl : Call} {x : Operand} {name : String} {t : TypeId} {row : List AV} {j : Nat} {g : FuncId} {off : Nat} {r : AV} (ho : o.op = .call cl) (hc : cl.callee = .invoke x name) (hx : ρ x = .ifc t (.fp row j)) (hm : MethT P t name g off)
  (h : ACall P g (.fp row (j + off) :: cl.args.toList.map ρ) H r H') : OpS P o ρ H r H' := by
 intro c a K Q hH hr hxs hK
 have hf1 := hx ▸ hxs x (by rw [ho]; simp [Op.operands,Call.operands,hc])
 obtain ⟨y,he,hrel⟩ := rel_ifc hf1
 have hfp := rel_fp hrel
 have key : ∃ g0 o0,y = .pointer (some ⟨g0,o0,none⟩) /\ c.rel (.fp row (j + off)) (.pointer (some ⟨g0,o0 + off,none⟩)) := by
  cases hfp with
  | fp us hg hlt hu h1 h =>
   refine ⟨_,_,rfl,?_⟩
   rw [Nat.add_assoc]
   exact .fr (.fp us hg hlt hu h1 h)
 obtain ⟨g0,o0,hy,hrec⟩ := key
 have hargs : RelAll c (.fp row (j + off) :: cl.args.toList.map ρ) (#[.pointer (some ⟨g0,o0 + off,none⟩)] ++ cl.args.map a.eval) := by
  refine ⟨by simp; omega,fun i q v hq hv => ?_⟩
  match i with
  | 0 =>
   simp only [List.getElem?_cons_zero,Option.some.injEq] at hq
   have : (#[Value.pointer (some ⟨g0,o0 + off,none⟩)] ++ cl.args.map a.eval)[0]? = some (Value.pointer (some ⟨g0,o0 + off,none⟩)) := by
    rw [Array.getElem?_append_left (show 0 < 1 by decide)]
    rfl
   rw [this] at hv
   injection hv with hv
   subst hq hv
   exact hrec
  | i + 1 =>
   simp only [List.getElem?_cons_succ,List.getElem?_map,Array.getElem?_toList] at hq
   have e : (#[Value.pointer (some ⟨g0,o0 + off,none⟩)] ++ cl.args.map a.eval)[i + 1]? = (cl.args.map a.eval)[i]? := by
    rw [Array.getElem?_append_right (by simp)]
    simp
   rw [e,Array.getElem?_map] at hv
   cases ha : cl.args[i]? with
   | none => rw [ha] at hq; cases hq
   | some z =>
    rw [ha] at hq hv
    injection hq with hq
    injection hv with hv
    subst hq hv
    refine hxs z ?_
    rw [ho]
    have hz := Array.mem_of_getElem? ha
    simp [Op.operands,Call.operands,hz]
 have hrun : (execOp a.eval o).run P c.w = .ok (.enter g (#[.pointer (some ⟨g0,o0 + off,none⟩)] ++ cl.args.map a.eval)) c.w := by
  have h3 := run_callMethod hm h.1 c.w (g0:=g0) (o0:=o0) (cl.args.map a.eval)
  rw [execOp,ho]
  simp only [resolve,hc,he,hy,Sem.run_bind,Sem.run_pure,Result.andThen_ok,invoke]
  have e1 : ((#[Value.iface t (.pointer (some ⟨g0,o0,none⟩))] ++ cl.args.map a.eval)[0]? : Option Value) = some (Value.iface t (.pointer (some ⟨g0,o0,none⟩))) := by
   rw [Array.getElem?_append_left (show 0 < 1 by decide)]
   rfl
  have e2 : (#[Value.iface t (.pointer (some ⟨g0,o0,none⟩))] ++ cl.args.map a.eval).extract 1 (#[Value.iface t (.pointer (some ⟨g0,o0,none⟩))] ++ cl.args.map a.eval).size = cl.args.map a.eval := by
   apply Array.ext'
   simp
   exact List.take_of_length_le (by simp)
  rw [e1,e2]
  exact h3
 unfold Oper.wp
 rw [hrun,Oper.upon_enter]
 refine (h.2 c _ hH hr hargs).mono fun e w' ⟨v,c',he,hw,hH',hr',hx,hv⟩ => ?_
 subst he hw
 exact hK v c' hH' hr' hx hv
theorem EvN.inv {cl : Call} {x : Operand} {name : String} {t : TypeId} {row : List AV} {j : Nat} {g : FuncId} {off : Nat} {ars : List AV} {r : AV} (hc : cl.callee = .invoke x name) (hx : ρ x = .ifc t (.fp row j)) (hm : MethT P t name g off) (ha : cl.args.toList.map ρ = ars)
  (h : PCall P g (.fp row (j + off) :: ars) r) (hF : ars.all (isF 9) = true) : EvN P ρ (.call cl) r := fun o ho G => by
 subst ha
 refine opS_invoke ho hc hx hm (h.acall ?_ G)
 simp only [List.all_cons,hF,Bool.and_true]
 rfl
end
end Go.Proofs.Ytlmjnhnpahicmaa
namespace Go.Proofs.Ytlmjnhnpahicmaa
open Go.RowKit
set_option maxRecDepth 100000
structure A3 (α : Type) where
 x0 : α
 x1 : α
 x2 : α
section
variable {α : Type}
instance [Inhabited α] : Inhabited (A3 α) := ⟨⟨default,default,default⟩⟩
def A3.set (a : A3 α) (q : Int) (v : α) : A3 α := if q = 0 then ⟨v,a.x1,a.x2⟩ else if q = 1 then ⟨a.x0,v,a.x2⟩ else ⟨a.x0,a.x1,v⟩
theorem sel3 {P : Int -> Prop} {q : Int} (g : 0 <= q /\ q < 3) (h0 : P 0) (h1 : P 1) (h2 : P 2) : P q := by
 have h : q = 0 \/ q = 1 \/ q = 2 := by omega
 rcases h with rfl | rfl | rfl
 ·exact h0
 ·exact h1
 ·exact h2
def ifO (t : TypeId) (c : α -> List AV) : Option α -> AV
 | some x => .ifc t (.fp (c x) 0)
 | none => .v .nilIface
theorem ifO_some [Inhabited α] {t : TypeId} {c : α -> List AV} {o : Option α} (h : o.isSome = true) : ifO t c o = .ifc t (.fp (c (o.getD default)) 0) := by
 cases o with
 | none => cases h
 | some x => rfl
end
section
variable {P : Program} {ρ : Operand -> AV} {H H' : AH} {x y : Operand} {t e : TypeId}
theorem EvN.ixafp {ag : Bool} {n w : Nat} {row : List AV} {j : Nat} {k : IntKind} {q : Int} (hu : P.underlying t = some (.array n e)) (ty : TyF P e ag w) (hx : ρ x = .fp row j) (hy : ρ y = .v (.int k q)) (hq : 0 <= q /\ q < n) : EvN P ρ (.indexAddr t x y) (.fp row (j + q.toNat * w)) := .mk fun K hK => by
 show aindexAddr P t (ρ x) (ρ y) K
 simp only [aindexAddr,hu,hx,hy,ty.cells]
 exact ⟨hq,Ck.intro ty.info hK⟩
theorem EvN.ixahp {ag : Bool} {n w : Nat} {b ver s i j : Nat} {k : IntKind} {q : Int} (hu : P.underlying t = some (.array n e)) (ty : TyF P e ag w) (hx : ρ x = .hp b ver s i j) (hy : ρ y = .v (.int k q)) (hq : 0 <= q /\ q < n) : EvN P ρ (.indexAddr t x y) (.hp b ver s i (j + q.toNat * w)) := .mk fun K hK => by
 show aindexAddr P t (ρ x) (ρ y) K
 simp only [aindexAddr,hu,hx,hy,ty.cells]
 exact ⟨hq,Ck.intro ty.info hK⟩
theorem EvN.ixag {ag : Bool} {n w : Nat} {cs : List AV} {k : IntKind} {q : Int} (a : AV) (hu : P.underlying t = some (.array n e)) (ty : TyF P e ag w) (hx : ρ x = .agg cs) (hy : ρ y = .v (.int k q)) (hq : 0 <= q /\ q < n) (hp : partV ag w cs (q.toNat * w) = some a) : EvN P ρ (.index t x y) a := .mk fun K hK => by
 show aindex P t (ρ x) (ρ y) K
 simp only [aindex,hu,hx,hy,ty.cells]
 exact ⟨hq,Ck.intro ty.info (apart_of ty hp hK)⟩
theorem EvN.mkifc {u : TypeDesc} (a : AV) (hu : P.underlying t = some u) (hn : ∀ m,u ≠ .interface m) (hx : ρ x = a) : EvN P ρ (.makeInterface t x) (.ifc t a) := .mk fun K hK => by
 show aopN P ρ (.makeInterface t x) K
 simp only [aopN,hu,hx]
 cases u <;> first | exact absurd rfl (hn _) | (rw [AV.force_iff]; exact hK)
end
end Go.Proofs.Ytlmjnhnpahicmaa
namespace Go.Proofs.Ytlmjnhnpahicmaa
open Go.RowKit
set_option maxRecDepth 100000
def up (m : Nat) (gh : NG) : NG := fun i => ((gh i).1,(gh i).2.1 + m,(gh i).2.2)
section
variable {α : Type}
def nrs (m : Nat) (gh : NG) (w : Nat) (l : List (List α)) : List (List AV) := nrows (up m gh) w l
theorem nrs_get {m : Nat} {gh : NG} {w : Nat} {l : List (List α)} {i : Nat} (h : i < l.length) : (nrs m gh w l)[i]? = some [hS (gh i).1 ((gh i).2.1 + m) (gh i).2.2 w (l.getD i []).length] := nrows_get h
theorem up_put (m : Nat) (gh : NG) (i : Nat) (g : Bool) (k v : Nat) : (up m gh).put i (g,k + m,v) = up m (gh.put i (g,k,v)) := by
 funext j
 show (bif Nat.beq j i then (g,k + m,v) else ((gh j).1,(gh j).2.1 + m,(gh j).2.2)) = ((bif Nat.beq j i then (g,k,v) else gh j).1,(bif Nat.beq j i then (g,k,v) else gh j).2.1 + m,(bif Nat.beq j i then (g,k,v) else gh j).2.2)
 cases Nat.beq j i <;> rfl
theorem nrs_set {m : Nat} {gh : NG} {w : Nat} {l : List (List α)} {i : Nat} {g : Bool} {k v : Nat} {r : List α} (h : i < l.length) : (nrs m gh w l).set i [hS g (k + m) v w r.length] = nrs m (gh.put i (g,k,v)) w (l.set i r) := by
 unfold nrs
 rw [nrows_set h,up_put]
theorem nrs_snoc {m : Nat} {gh : NG} {w : Nat} {l : List (List α)} {g : Bool} {k v : Nat} {r : List α} : nrs m gh w l ++ [[hS g (k + m) v w r.length]] = nrs m (gh.put l.length (g,k,v)) w (l ++ [r]) := by
 unfold nrs
 rw [nrows_snoc,up_put]
theorem nrs_nil (m w n : Nat) : List.replicate n [AV.nil] = nrs m (fun i => (true,i,0)) w (List.replicate n ([] : List α)) := by
 apply List.ext_getElem
 ·simp [nrs,nrows]
 ·intro i h1 h2
  simp [nrs,nrows,nrow,hS,up]
theorem nrs_rows {m : Nat} {gh : NG} {w : Nat} {l : List (List α)} : (nrs m gh w l).length = l.length := nrows_len _ _ _
structure NN (K : AH) (gh : NG) (w : Nat) (ty : TypeId) (f : α -> List AV) (l : List (List α)) : Prop where
 nk : NK 0 K gh w ty f l
 kf : KF K
variable {K : AH} {gh : NG} {w : Nat} {ty : TypeId} {f : α -> List AV} {l : List (List α)}
theorem NN.at_ (h : NN K gh w ty f l) {i : Nat} (hi : i < l.length) : K[(gh i).2.1]? = some (bE (gh i).1 (gh i).2.2 w ty ((l.getD i []).map f)) := (h.nk.at_ i hi).2
theorem NN.lt (h : NN K gh w ty f l) {i : Nat} (hi : i < l.length) : (gh i).2.1 < K.length := (List.getElem?_eq_some_iff.1 (h.at_ hi)).1
theorem NN.nil_ (h : NN K gh w ty f l) {i : Nat} (hi : i < l.length) : (gh i).1 = true -> l.getD i [] = [] := h.nk.nil_ i hi
theorem KF.set {k : Nat} {x : Option ABlk} (h : KF K) (hx : ∀ b,x = some b -> rowsF b) : KF (K.set k x) := fun i b hb => by
 by_cases e : k = i
 ·subst e
  have hl := (List.getElem?_eq_some_iff.1 hb).1
  rw [List.getElem?_set_self (by simpa using hl)] at hb
  exact hx b (Option.some.inj hb)
 ·rw [List.getElem?_set_ne e] at hb
  exact h i b hb
theorem KF.cons {x : Option ABlk} (h : KF K) (hx : ∀ b,x = some b -> rowsF b) : KF (x :: K) := fun i b hb => by
 match i,hb with
 | 0,hb => exact hx b (Option.some.inj hb)
 | i + 1,hb => exact h i b hb
theorem rowsF_bE {g : Bool} {v : Nat} {l : List α} (hf : ∀ x,(f x).all (isF 9) = true) : ∀ b,bE g v w ty (l.map f) = some b -> rowsF b := fun b hb => by
 cases g with
 | true => cases hb
 | false =>
  obtain rfl := Option.some.inj hb
  exact fun r hr a ha => rowsM hf r hr a ha
theorem NN.set (h : NN K gh w ty f l) {i : Nat} (hi : i < l.length) {g : Bool} {ver : Nat} {r : List α} (hg : g = true -> r = []) (hf : ∀ x,(f x).all (isF 9) = true) : NN (K.set (gh i).2.1 (bE g ver w ty (r.map f))) (gh.put i (g,(gh i).2.1,ver)) w ty f (l.set i r) :=
 ⟨h.nk.set hi hg,h.kf.set (rowsF_bE hf)⟩
theorem NN.push (h : NN K gh w ty f l) {x : Option ABlk} (hx : ∀ b,x = some b -> rowsF b) : NN (x :: K) (up 1 gh) w ty f l :=
 ⟨⟨fun i hi => ⟨Nat.zero_le _,h.at_ hi⟩,fun i hi => h.nil_ hi,fun i j hi hj hne he => h.nk.sep i j hi hj hne (by simpa [up] using he)⟩,h.kf.cons hx⟩
theorem NN.snoc (h : NN K gh w ty f l) {g : Bool} {ver : Nat} {r : List α} (hg : g = true -> r = []) (hf : ∀ x,(f x).all (isF 9) = true) : NN (bE g ver w ty (r.map f) :: K) ((up 1 gh).put l.length (g,0,ver)) w ty f (l ++ [r]) := by
 have h0 := h.push (rowsF_bE (w:=w) (ty:=ty) (g:=g) (v:=ver) (l:=r) hf)
 refine ⟨⟨fun i hi => ⟨Nat.zero_le _,?_⟩,fun i hi hn => ?_,fun i j hi hj hne he => ?_⟩,h0.kf⟩
 ·by_cases e : i = l.length
  ·subst e
   rw [put_same]
   simp
  ·have hi' : i < l.length := by simp at hi; omega
   rw [put_other _ e,h0.at_ hi']
   simp [List.getElem?_append_left hi']
 ·by_cases e : i = l.length
  ·subst e
   rw [put_same] at hn
   simp [hg hn]
  ·have hi' : i < l.length := by simp at hi; omega
   rw [put_other _ e] at hn
   have := h0.nil_ hi' hn
   simpa [List.getElem?_append_left hi'] using this
 ·simp only [List.length_append,List.length_cons,List.length_nil] at hi hj
  by_cases e : i = l.length
  ·by_cases e2 : j = l.length
   ·exact hne (e.trans e2.symm)
   ·subst e
    rw [put_same,put_other _ e2] at he
    simp [up] at he
  ·by_cases e2 : j = l.length
   ·subst e2
    rw [put_same,put_other _ e] at he
    simp [up] at he
   ·rw [put_other _ e,put_other _ e2] at he
    exact h0.nk.sep i j (by omega) (by omega) hne he
theorem NN.nil : NN ([] : AH) gh w ty f [] := ⟨⟨fun i hi => by simp at hi,fun i hi => by simp at hi,fun i j hi => by simp at hi⟩,fun i k hk => by simp at hk⟩
theorem NN.rep (n : Nat) : NN (List.replicate n none) (fun i => (true,i,0)) w ty f (List.replicate n []) := by
 refine ⟨⟨fun i hi => ⟨Nat.zero_le _,?_⟩,fun i hi _ => ?_,fun i j _ _ hne => hne⟩,fun i k hk => ?_⟩
 ·simp only [List.length_replicate] at hi
  simp [hi,bE]
 ·simp only [List.length_replicate] at hi
  simp [hi]
 ·have := List.mem_of_getElem? hk
  rw [List.mem_replicate] at this
  cases this.2
theorem NN.fz [Inhabited α] (h : NN K gh w ty f l) (S : AH) {b ver n : Nat} {to : TypeId} (hb : (S ++ K)[b]? = some (bE false ver 1 to (nrs S.length gh w l))) (hn : n = l.length) (hf : ∀ x,(f x).all (isF 9) = true) : Fz 0 (S ++ K) (hS false b ver 1 n) (eL (cL f) l) := by
 have hk : NK 0 (S ++ K) (up S.length gh) w ty f l := ⟨fun i hi => ⟨Nat.zero_le _,by
  show (S ++ K)[(gh i).2.1 + S.length]? = _
  rw [List.getElem?_append_right (by omega),Nat.add_sub_cancel]
  exact h.at_ hi⟩,fun i hi => h.nil_ hi,fun i j hi hj hne he => h.nk.sep i j hi hj hne (by simpa [up] using he)⟩
 exact hk.fz hb hn hf
end
def Rot (m N : Nat) (i j : Nat) : Prop := (i < m /\ j = i) \/ (m <= i /\ i < N + m /\ j = i + 1) \/ (i = N + m /\ j = m)
theorem Rot.low {m N i : Nat} (h : Nat.blt i m = true) : Rot m N i i := .inl ⟨Nat.le_of_ble_eq_true h,rfl⟩
theorem Rot.up {m N k : Nat} (h : k < N) : Rot m N (k + m) (k + (m + 1)) := .inr (.inl ⟨by omega,by omega,rfl⟩)
theorem Rot.new {m N : Nat} : Rot m N (N + m) m := .inr (.inr ⟨rfl,rfl⟩)
inductive RenHL (S : Nat -> Nat -> Prop) : AH -> AH -> Prop
 | nil : RenHL S [] []
 | none {l l' : AH} (t : RenHL S l l') : RenHL S (none :: l) (none :: l')
 | some {k k' : ABlk} {l l' : AH} (h : RenK S k k') (t : RenHL S l l') : RenHL S (some k :: l) (some k' :: l')
theorem RenHL.bE {S : Nat -> Nat -> Prop} {α : Type} {g : Bool} {v w : Nat} {ty : TypeId} {f : α -> List AV} {x : List α} {l l' : AH} (hf : ∀ x,(f x).all (isF 9) = true) (t : RenHL S l l') : RenHL S (bE g v w ty (x.map f) :: l) (Go.Proofs.Ytlmjnhnpahicmaa.bE g v w ty (x.map f) :: l') := by
 cases g with
 | true => exact .none t
 | false => exact .some (.ofF fun r hr a ha => rowsM hf r hr a ha) t
theorem RenHL.spec {S : Nat -> Nat -> Prop} {l l' : AH} (h : RenHL S l l') : l.length = l'.length /\ (∀ (i : Nat) (k : ABlk),l[i]? = Option.some (Option.some k) -> ∃ k',l'[i]? = Option.some (Option.some k') /\ RenK S k k') /\ ∀ (i : Nat) (k' : ABlk),l'[i]? = Option.some (Option.some k') -> ∃ k,l[i]? = Option.some (Option.some k) /\ RenK S k k' := by
 induction h with
 | nil => exact ⟨rfl,fun i k hk => by simp at hk,fun i k hk => by simp at hk⟩
 | none t ih =>
  refine ⟨by simp [ih.1],fun i k hk => ?_,fun i k hk => ?_⟩
  ·match i,hk with
   | i + 1,hk => exact ih.2.1 i k hk
  ·match i,hk with
   | i + 1,hk => exact ih.2.2 i k hk
 | some h t ih =>
  refine ⟨by simp [ih.1],fun i k hk => ?_,fun i k hk => ?_⟩
  ·match i,hk with
   | 0,hk =>
    obtain rfl := Option.some.inj (Option.some.inj hk)
    exact ⟨_,rfl,h⟩
   | i + 1,hk => exact ih.2.1 i k hk
  ·match i,hk with
   | 0,hk =>
    obtain rfl := Option.some.inj (Option.some.inj hk)
    exact ⟨_,rfl,h⟩
   | i + 1,hk => exact ih.2.2 i k hk
theorem Reid.rot {b0 m N : Nat} {S S' K : AH} {x x' : Option ABlk} (hm : S.length = m) (hN : K.length = N) (hb : Nat.ble b0 m = true) (hS : RenHL (Rot m N) S S') (hK : KF K) (hx : RenHL (Rot m N) [x] [x']) : Reid b0 (Rot m N) (S ++ K ++ [x]) (S' ++ x' :: K) := by
 have hb := Nat.le_of_ble_eq_true hb
 obtain ⟨h1,h2,h3⟩ := hS.spec
 obtain ⟨_,h5,h6⟩ := hx.spec
 have hm' : S'.length = m := h1.symm.trans hm
 have a1 : ∀ i,i < m -> (S ++ K ++ [x])[i]? = S[i]? := fun i hi => by rw [List.append_assoc,List.getElem?_append_left (by omega)]
 have a2 : ∀ k,k < N -> (S ++ K ++ [x])[k + m]? = K[k]? := fun k hk => by
  rw [List.append_assoc,List.getElem?_append_right (by omega),List.getElem?_append_left (by omega)]
  congr 1
  omega
 have a3 : (S ++ K ++ [x])[N + m]? = some x := by
  rw [List.append_assoc,List.getElem?_append_right (by omega),List.getElem?_append_right (by omega)]
  have : N + m - S.length - K.length = 0 := by omega
  rw [this]
  rfl
 have c1 : ∀ i,i < m -> (S' ++ x' :: K)[i]? = S'[i]? := fun i hi => List.getElem?_append_left (by omega)
 have c2 : (S' ++ x' :: K)[m]? = some x' := by
  rw [List.getElem?_append_right (by omega)]
  have : m - S'.length = 0 := by omega
  rw [this]
  rfl
 have c3 : ∀ k,(S' ++ x' :: K)[k + m + 1]? = K[k]? := fun k => by
  rw [List.getElem?_append_right (by omega)]
  have : k + m + 1 - S'.length = k + 1 := by omega
  rw [this]
  rfl
 refine ⟨fun i j j' e1 e2 => ?_,fun i i' j e1 e2 => ?_,fun i hi => .inl ⟨by omega,rfl⟩,by simp; omega,fun j k0 hk => ?_,fun i j k hS hk => ?_⟩
 ·rcases e1 with ⟨_,rfl⟩ | ⟨_,_,rfl⟩ | ⟨_,rfl⟩ <;> rcases e2 with ⟨_,rfl⟩ | ⟨_,_,rfl⟩ | ⟨_,rfl⟩ <;> omega
 ·rcases e1 with ⟨_,e1⟩ | ⟨_,_,e1⟩ | ⟨_,e1⟩ <;> rcases e2 with ⟨_,e2⟩ | ⟨_,_,e2⟩ | ⟨_,e2⟩ <;> omega
 ·rcases Nat.lt_trichotomy j m with hj | hj | hj
  ·rw [c1 j hj] at hk
   obtain ⟨k,g1,g2⟩ := h3 j k0 hk
   exact ⟨j,k,.inl ⟨hj,rfl⟩,by rw [a1 j hj]; exact g1,g2⟩
  ·subst hj
   rw [c2] at hk
   obtain rfl := Option.some.inj hk
   obtain ⟨k,g1,g2⟩ := h6 0 k0 rfl
   obtain rfl := Option.some.inj g1
   exact ⟨_,k,.new,a3,g2⟩
  ·obtain ⟨q,rfl⟩ : ∃ q,j = q + m + 1 := ⟨j - m - 1,by omega⟩
   rw [c3 q] at hk
   have hq : q < N := by rw [<- hN]; exact (List.getElem?_eq_some_iff.1 hk).1
   exact ⟨q + m,k0,.inr (.inl ⟨by omega,by omega,rfl⟩),by rw [a2 q hq]; exact hk,.ofF (hK q k0 hk)⟩
 ·rcases hS with ⟨e1,rfl⟩ | ⟨e1,e2,rfl⟩ | ⟨rfl,rfl⟩
  ·rw [a1 _ e1] at hk
   obtain ⟨k',g1,_⟩ := h2 _ k hk
   exact ⟨k',by rw [c1 _ e1]; exact g1⟩
  ·obtain ⟨q,rfl⟩ : ∃ q,i = q + m := ⟨i - m,by omega⟩
   rw [a2 q (by omega)] at hk
   exact ⟨k,by rw [c3 q]; exact hk⟩
  ·rw [a3] at hk
   obtain rfl := Option.some.inj hk
   obtain ⟨k',g1,_⟩ := h5 0 k rfl
   obtain rfl := Option.some.inj g1
   exact ⟨k',c2⟩
theorem ren_hSg {S : Nat -> Nat -> Prop} {g : Bool} {i j v w n : Nat} (h : S i j) : Ren S (hS g i v w n) (hS g j v w n) := by
 cases g with
 | true => exact .nil
 | false => exact .hs h
theorem NN.renK {α : Type} {K : AH} {gh : NG} {w ver m N : Nat} {ty to : TypeId} {f : α -> List AV} {l : List (List α)} (h : NN K gh w ty f l) (hN : K.length = N) : RenK (Rot m N) ⟨ver,1,to,nrs m gh w l⟩ ⟨ver,1,to,nrs (m + 1) gh w l⟩ := by
 refine ⟨rfl,rfl,rfl,by simp [nrs_rows],fun i r r' hr hr' => ?_⟩
 have hi : i < l.length := by
  have := (List.getElem?_eq_some_iff.1 hr).1
  rwa [nrs_rows] at this
 rw [nrs_get hi] at hr hr'
 obtain rfl := Option.some.inj hr
 obtain rfl := Option.some.inj hr'
 refine ⟨rfl,fun j a a' ha ha' => ?_⟩
 match j with
 | 0 =>
  obtain rfl := Option.some.inj ha
  obtain rfl := Option.some.inj ha'
  exact ren_hSg (.up (by rw [<- hN]; exact h.lt hi))
 | j + 1 => simp at ha
theorem renE_nil {S : Nat -> Nat -> Prop} {e : Env} : ∀ t,Ren S (e t) (envOf [] t) := fun _ => .top
theorem renE_cons {S : Nat -> Nat -> Prop} {e : Env} {t : Nat} {a a0 : AV} {l : List (Nat × AV)} (he : e t = a0) (h : Ren S a0 a) (w : ∀ q,Ren S (e q) (envOf l q)) : ∀ q,Ren S (e q) (envOf ((t,a) :: l) q) := by
 intro q
 rcases envOf_cons t a l q with ⟨rfl,h1⟩ | h1
 ·rw [h1,he]; exact h
 ·rw [h1]; exact w q
theorem renE_F {S : Nat -> Nat -> Prop} {e : Env} {t : Nat} {a : AV} {l : List (Nat × AV)} (he : e t = a) (h : isF 9 a = true) (w : ∀ q,Ren S (e q) (envOf l q)) : ∀ q,Ren S (e q) (envOf ((t,a) :: l) q) := renE_cons he (ren_isF 9 a h) w
end Go.Proofs.Ytlmjnhnpahicmaa
namespace Go.Proofs.Ytlmjnhnpahicmaa
open Go.RowKit
set_option maxRecDepth 100000
theorem rel_fp_sub {c : Cx} {row row2 : List AV} {j n : Nat} {v : Value} (hs : (row.drop j).take n = row2) (h : c.rel (.fp row j) v) : c.rel (.fp row2 0) v := by
 have h := rel_fp h
 cases h with
 | @fp _ _ g o us hg hlt hu h1 hr =>
  subst hs
  have key : ∀ (q : Nat) (a : AV),((row.drop j).take n)[q]? = some a -> row[j + q]? = some a := fun q a hq => by
   rw [List.getElem?_take] at hq
   split at hq
   ·rwa [List.getElem?_drop] at hq
   ·cases hq
  exact .fr (.fp (g:=g) (o:=o + j) (j:=0) (fun q => us (j + q)) hg hlt (fun q a hq => by rw [Nat.add_assoc]; exact hu _ _ (key q a hq)) (fun q a hq => h1 _ _ (key q a hq)) (fun q a hq => hr _ _ (key q a hq)))
section
variable {P : Program} {ρ : Operand -> AV} {H H' : AH} {x y : Operand} {t e : TypeId}
theorem EvN.fafpS (n : Nat) {fs : Array Field} {f : Nat} {fl : Field} {row row2 : List AV} {j : Nat} (hu : P.underlying t = some (.struct fs)) (hf : fs[f]? = some fl) (hc : (P.cellsOf fl.type != 0) = true) (hx : ρ x = .fp row j) (hs : (row.drop (j + fl.offset)).take n = row2) : EvN P ρ (.fieldAddr t x f) (.fp row2 0) :=
 (EvN.fafp hu hf hc hx).res fun _ _ h => rel_fp_sub hs h
theorem ACall.argw {g : FuncId} {as' as2 : List AV} {r : AV} (h : ACall P g as2 H r H') (hl : as2.length = as'.length) (hw : ∀ c : Cx,∀ (i : Nat) (a b : AV) (v : Value),as'[i]? = some a -> as2[i]? = some b -> c.rel a v -> c.rel b v) : ACall P g as' H r H' :=
 ⟨h.1,fun c vs hH hr hall => h.2 c vs hH hr ⟨by rw [hall.1,hl],fun i q v hq hv => by
  obtain ⟨a,ha⟩ := get_of_len hl hq
  exact hw c i a q v ha hq (hall.2 i a v ha hv)⟩⟩
theorem EvN.invS (n : Nat) {cl : Call} {name : String} {t : TypeId} {row row2 : List AV} {j : Nat} {g : FuncId} {off : Nat} {ars : List AV} {r : AV} (hc : cl.callee = .invoke x name) (hx : ρ x = .ifc t (.fp row j)) (hm : MethT P t name g off) (ha : cl.args.toList.map ρ = ars)
  (hs : (row.drop (j + off)).take n = row2) (h : PCall P g (.fp row2 0 :: ars) r) (hF : ars.all (isF 9) = true) : EvN P ρ (.call cl) r := fun o ho G => by
 subst ha
 refine opS_invoke ho hc hx hm ((h.acall ?_ G).argw rfl fun c i a b v h1 h2 hr => ?_)
 ·simp only [List.all_cons,hF,Bool.and_true]
  rfl
 ·match i with
  | 0 =>
   obtain rfl := Option.some.inj h1
   obtain rfl := Option.some.inj h2
   exact rel_fp_sub hs hr
  | i + 1 =>
   simp only [List.getElem?_cons_succ] at h1 h2
   rw [h1] at h2
   obtain rfl := Option.some.inj h2
   exact hr
variable {nt b0 : Nat} {Q : Exit -> Env -> AH -> Prop} {en : Env} {ops : Array Oper}
theorem TO.reserve {l : List Oper} (h : TO P nt b0 ops l Q en (H ++ [none])) : TO P nt b0 ops l Q en H := by
 intro hd k hl hn c c0 a hH hb hx hr
 subst hH
 exact h hd k hl hn c.res c0 a rfl hb (hx.trans c.res_ext) ⟨hr.size,hr.defers,fun t => (hr.rel t).ext hr.heap c.res_ext,Cx.res_heap hr.heap⟩
theorem TO.reserveN {l : List Oper} : ∀ (n : Nat) {H : AH},TO P nt b0 ops l Q en (H ++ List.replicate n none) -> TO P nt b0 ops l Q en H
 | 0,H,h => by simpa using h
 | n + 1,H,h => by
  refine TO.reserve (TO.reserveN n ?_)
  rw [List.append_assoc]
  exact h
end
inductive RenRows (S : Nat -> Nat -> Prop) : List (List AV) -> List (List AV) -> Prop
 | nil : RenRows S [] []
 | cons {a b : List AV} {l k : List (List AV)} (h : RenL S a b) (t : RenRows S l k) : RenRows S (a :: l) (b :: k)
theorem RenRows.spec {S : Nat -> Nat -> Prop} {l k : List (List AV)} (h : RenRows S l k) : l.length = k.length /\ ∀ (i : Nat) (c d : List AV),l[i]? = some c -> k[i]? = some d -> RenL S c d := by
 induction h with
 | nil => exact ⟨rfl,fun i c d hc => by simp at hc⟩
 | cons h t ih =>
  refine ⟨by simp [ih.1],fun i c d hc hd => ?_⟩
  match i,hc,hd with
  | 0,hc,hd =>
   obtain rfl := Option.some.inj hc
   obtain rfl := Option.some.inj hd
   exact h
  | i + 1,hc,hd => exact ih.2 i c d hc hd
theorem RenK.rowsL {S : Nat -> Nat -> Prop} {v s : Nat} {ty : TypeId} {r r' : List (List AV)} (h : RenRows S r r') : RenK S ⟨v,s,ty,r⟩ ⟨v,s,ty,r'⟩ :=
 ⟨rfl,rfl,rfl,h.spec.1,fun i a b ha hb => (h.spec.2 i a b ha hb).spec⟩
theorem RenK.rowL {S : Nat -> Nat -> Prop} {v s : Nat} {ty : TypeId} {r r' : List AV} (h : RenL S r r') : RenK S ⟨v,s,ty,[r]⟩ ⟨v,s,ty,[r']⟩ := .rowsL (.cons h .nil)
section
variable {α : Type} {K : AH} {gh : NG} {w : Nat} {ty : TypeId} {f : α -> List AV} {l : List (List α)}
theorem RenHL.nest {S : Nat -> Nat -> Prop} {g : Bool} {ver s : Nat} {to : TypeId} {rows rows' : List (List AV)} {H H' : AH} (h : RenK S ⟨ver,s,to,rows⟩ ⟨ver,s,to,rows'⟩) (t : RenHL S H H') : RenHL S (Go.Proofs.Ytlmjnhnpahicmaa.bE g ver s to rows :: H) (Go.Proofs.Ytlmjnhnpahicmaa.bE g ver s to rows' :: H') := by
 cases g with
 | true => exact .none t
 | false => exact .some h t
theorem NN.lit (L : List (List α)) (hf : ∀ x,(f x).all (isF 9) = true) : NN (L.map fun r => bE false 0 w ty (r.map f)) (fun i => (false,i,0)) w ty f L := by
 refine ⟨⟨fun i hi => ⟨Nat.zero_le _,?_⟩,fun i hi hn => (by cases hn),fun i j _ _ hne => hne⟩,fun i k hk => ?_⟩
 ·simp [hi]
 ·rw [List.getElem?_map] at hk
  cases hL : L[i]? with
  | none => rw [hL] at hk; cases hk
  | some r =>
   rw [hL] at hk
   exact rowsF_bE hf k (Option.some.inj hk)
def Tk (a : Nat) (i j : Nat) : Prop := (i <= a /\ j = i) \/ (a + 2 <= i /\ j + 1 = i)
theorem Tk.low {a i : Nat} (h : Nat.ble i a = true) : Tk a i i := .inl ⟨Nat.le_of_ble_eq_true h,rfl⟩
theorem Tk.up {a k : Nat} : Tk a (k + (a + 2)) (k + 1 + a) := .inr ⟨by omega,by omega⟩
theorem Reid.take {b0 a : Nat} {S S' K : AH} {x2 x2' x3 : Option ABlk} (hm : S.length = a) (hb : Nat.ble b0 a = true) (hS : RenHL (Tk a) S S') (hK : KF K) (hx : RenHL (Tk a) [x2] [x2']) : Reid b0 (Tk a) (S ++ x2 :: x3 :: K) (S' ++ x2' :: K) := by
 have hb := Nat.le_of_ble_eq_true hb
 obtain ⟨h1,h2,h3⟩ := hS.spec
 obtain ⟨_,h5,h6⟩ := hx.spec
 have hm' : S'.length = a := h1.symm.trans hm
 have a1 : ∀ i,i < a -> (S ++ x2 :: x3 :: K)[i]? = S[i]? := fun i hi => List.getElem?_append_left (by omega)
 have a2 : (S ++ x2 :: x3 :: K)[a]? = some x2 := by
  rw [List.getElem?_append_right (by omega)]
  have : a - S.length = 0 := by omega
  rw [this]
  rfl
 have a3 : ∀ k,(S ++ x2 :: x3 :: K)[k + a + 2]? = K[k]? := fun k => by
  rw [List.getElem?_append_right (by omega)]
  have : k + a + 2 - S.length = k + 1 + 1 := by omega
  rw [this]
  rfl
 have c1 : ∀ i,i < a -> (S' ++ x2' :: K)[i]? = S'[i]? := fun i hi => List.getElem?_append_left (by omega)
 have c2 : (S' ++ x2' :: K)[a]? = some x2' := by
  rw [List.getElem?_append_right (by omega)]
  have : a - S'.length = 0 := by omega
  rw [this]
  rfl
 have c3 : ∀ k,(S' ++ x2' :: K)[k + a + 1]? = K[k]? := fun k => by
  rw [List.getElem?_append_right (by omega)]
  have : k + a + 1 - S'.length = k + 1 := by omega
  rw [this]
  rfl
 refine ⟨fun i j j' e1 e2 => ?_,fun i i' j e1 e2 => ?_,fun i hi => .inl ⟨by omega,rfl⟩,by simp; omega,fun j k0 hk => ?_,fun i j k hS hk => ?_⟩
 ·rcases e1 with ⟨_,rfl⟩ | ⟨_,e1⟩ <;> rcases e2 with ⟨_,rfl⟩ | ⟨_,e2⟩ <;> omega
 ·rcases e1 with ⟨_,e1⟩ | ⟨_,e1⟩ <;> rcases e2 with ⟨_,e2⟩ | ⟨_,e2⟩ <;> omega
 ·rcases Nat.lt_trichotomy j a with hj | hj | hj
  ·rw [c1 j hj] at hk
   obtain ⟨k,g1,g2⟩ := h3 j k0 hk
   exact ⟨j,k,.inl ⟨by omega,rfl⟩,by rw [a1 j hj]; exact g1,g2⟩
  ·subst hj
   rw [c2] at hk
   obtain rfl := Option.some.inj hk
   obtain ⟨k,g1,g2⟩ := h6 0 k0 rfl
   obtain rfl := Option.some.inj g1
   exact ⟨_,k,.inl ⟨by omega,rfl⟩,a2,g2⟩
  ·obtain ⟨q,rfl⟩ : ∃ q,j = q + a + 1 := ⟨j - a - 1,by omega⟩
   rw [c3 q] at hk
   exact ⟨q + a + 2,k0,.inr ⟨by omega,by omega⟩,by rw [a3 q]; exact hk,.ofF (hK q k0 hk)⟩
 ·rcases hS with ⟨e1,rfl⟩ | ⟨e1,e2⟩
  ·rcases Nat.lt_or_ge j a with hj | hj
   ·rw [a1 _ hj] at hk
    obtain ⟨k',g1,_⟩ := h2 _ k hk
    exact ⟨k',by rw [c1 _ hj]; exact g1⟩
   ·obtain rfl : j = a := by omega
    rw [a2] at hk
    obtain rfl := Option.some.inj hk
    obtain ⟨k',g1,_⟩ := h5 0 k rfl
    obtain rfl := Option.some.inj g1
    exact ⟨k',c2⟩
  ·obtain ⟨q,rfl⟩ : ∃ q,i = q + a + 2 := ⟨i - a - 2,by omega⟩
   obtain rfl : j = q + a + 1 := by omega
   rw [a3 q] at hk
   exact ⟨k,by rw [c3 q]; exact hk⟩
theorem NN.renTk {a ver v : Nat} {to : TypeId} {r : List α} : RenK (Tk a) ⟨ver,1,to,nrs (a + 2) gh w l ++ [[hS false a v w r.length]]⟩ ⟨ver,1,to,nrs a ((up 1 gh).put l.length (false,0,v)) w (l ++ [r])⟩ := by
 have e : nrs a ((up 1 gh).put l.length (false,0,v)) w (l ++ [r]) = nrs a (up 1 gh) w l ++ [[hS false (0 + a) v w r.length]] := nrs_snoc.symm
 rw [e]
 refine ⟨rfl,rfl,rfl,by simp [nrs_rows],fun i q q' hq hq' => ?_⟩
 by_cases hi : i < l.length
 ·rw [List.getElem?_append_left (by rw [nrs_rows]; exact hi),nrs_get hi] at hq hq'
  obtain rfl := Option.some.inj hq
  obtain rfl := Option.some.inj hq'
  refine ⟨rfl,fun j c d hc hd => ?_⟩
  match j with
  | 0 =>
   obtain rfl := Option.some.inj hc
   obtain rfl := Option.some.inj hd
   exact ren_hSg .up
  | j + 1 => simp at hc
 ·rw [List.getElem?_append_right (by rw [nrs_rows]; omega),nrs_rows] at hq hq'
  by_cases e : i - l.length = 0
  ·rw [e] at hq hq'
   obtain rfl := Option.some.inj hq
   obtain rfl := Option.some.inj hq'
   refine ⟨rfl,fun j c d hc hd => ?_⟩
   match j with
   | 0 =>
    obtain rfl := Option.some.inj hc
    obtain rfl := Option.some.inj hd
    exact ren_hSg (.inl ⟨Nat.le_refl _,by omega⟩)
   | j + 1 => simp at hc
  ·rw [List.getElem?_eq_none (by simp; omega)] at hq
   cases hq
theorem NN.fzG [Inhabited α] (h : NN K gh w ty f l) (S : AH) {g : Bool} {b ver n : Nat} {to : TypeId} (hb : (S ++ K)[b]? = some (bE g ver 1 to (nrs S.length gh w l))) (hn : n = l.length) (hg : g = true -> l = []) (hf : ∀ x,(f x).all (isF 9) = true) : Fz 0 (S ++ K) (hS g b ver 1 n) (eL (cL f) l) := by
 cases g with
 | true =>
  rw [hg rfl]
  exact .nil0
 | false => exact h.fz S hb hn hf
structure NX (K : AH) (gh : NG) (w : Nat) (ty : TypeId) (f : α -> List AV) (l : List (List α)) (i : Nat) : Prop where
 hi : i < l.length
 at_ : ∀ j,j < l.length -> j ≠ i -> K[(gh j).2.1]? = some (bE (gh j).1 (gh j).2.2 w ty ((l.getD j []).map f))
 nil_ : ∀ j,j < l.length -> j ≠ i -> (gh j).1 = true -> l.getD j [] = []
 sep : ∀ j k,j < l.length -> k < l.length -> j ≠ i -> k ≠ i -> j ≠ k -> (gh j).2.1 ≠ (gh k).2.1
 kf : KF K
theorem NN.opened (h : NN K gh w ty f l) {i : Nat} (hi : i < l.length) : NX (K.set (gh i).2.1 none) gh w ty f l i :=
 ⟨hi,fun j hj hne => by rw [List.getElem?_set_ne (h.nk.sep i j hi hj (Ne.symm hne))]; exact h.at_ hj,fun j hj _ => h.nil_ hj,fun j k hj hk _ _ hne => h.nk.sep j k hj hk hne,h.kf.set nofun⟩
theorem NX.close {i : Nat} (h : NX K gh w ty f l i) {g : Bool} {v : Nat} {r : List α} (hg : g = true -> r = []) (hf : ∀ x,(f x).all (isF 9) = true) : NN (bE g v w ty (r.map f) :: K) ((up 1 gh).put i (g,0,v)) w ty f (l.set i r) := by
 refine ⟨⟨fun j hj => ⟨Nat.zero_le _,?_⟩,fun j hj hn => ?_,fun j k hj hk hne he => ?_⟩,h.kf.cons (rowsF_bE hf)⟩
 ·have hj' : j < l.length := by simpa using hj
  by_cases e : j = i
  ·subst e
   rw [put_same]
   simp [hj']
  ·rw [put_other _ e]
   have : (l.set i r).getD j [] = l.getD j [] := by simp [List.getElem?_set_ne (Ne.symm e)]
   rw [this]
   exact h.at_ j hj' e
 ·have hj' : j < l.length := by simpa using hj
  by_cases e : j = i
  ·subst e
   rw [put_same] at hn
   simp [hj',hg hn]
  ·rw [put_other _ e] at hn
   have : (l.set i r).getD j [] = l.getD j [] := by simp [List.getElem?_set_ne (Ne.symm e)]
   rw [this]
   exact h.nil_ j hj' e hn
 ·have hj' : j < l.length := by simpa using hj
  have hk' : k < l.length := by simpa using hk
  by_cases e : j = i
  ·by_cases e2 : k = i
   ·exact hne (e.trans e2.symm)
   ·subst e
    rw [put_same,put_other _ e2] at he
    simp [up] at he
  ·by_cases e2 : k = i
   ·subst e2
    rw [put_same,put_other _ e] at he
    simp [up] at he
   ·rw [put_other _ e,put_other _ e2] at he
    exact h.sep j k hj' hk' e e2 hne (by simpa [up] using he)
def nxs (m : Nat) (gh : NG) (w : Nat) (l : List (List α)) (i : Nat) (g : Bool) (q v n : Nat) : List (List AV) := (nrs m gh w l).set i [hS g q v w n]
theorem nxs_close {m : Nat} {i : Nat} {g : Bool} {v : Nat} {r : List α} (hi : i < l.length) : nxs m (up 1 gh) w l i g (0 + m) v r.length = nrs m ((up 1 gh).put i (g,0,v)) w (l.set i r) := nrs_set hi
theorem nxs_get {m i q v n : Nat} {g : Bool} (hi : i < l.length) : (nxs m gh w l i g q v n)[i]? = some [hS g q v w n] := by
 unfold nxs
 rw [List.getElem?_set_self (by rw [nrs_rows]; exact hi)]
theorem nxs_set {m i q v n q' v' n' : Nat} {g g' : Bool} : (nxs m gh w l i g q v n).set i [hS g' q' v' w n'] = nxs m gh w l i g' q' v' n' := by
 unfold nxs
 rw [List.set_set]
theorem nxs_len {m i q v n : Nat} {g : Bool} : (nxs m gh w l i g q v n).length = l.length := by
 unfold nxs
 rw [List.length_set,nrs_rows]
theorem NX.renK {ver m N i q v n : Nat} {g : Bool} {to : TypeId} (h : NX K gh w ty f l i) (hN : K.length = N) (hq : q < m) : RenK (Rot m N) ⟨ver,1,to,nxs m gh w l i g q v n⟩ ⟨ver,1,to,nxs (m + 1) gh w l i g q v n⟩ := by
 refine ⟨rfl,rfl,rfl,by rw [nxs_len,nxs_len],fun j r r' hr hr' => ?_⟩
 have hj : j < l.length := by
  have := (List.getElem?_eq_some_iff.1 hr).1
  rwa [nxs_len] at this
 by_cases e : j = i
 ·subst e
  rw [nxs_get hj] at hr hr'
  obtain rfl := Option.some.inj hr
  obtain rfl := Option.some.inj hr'
  refine ⟨rfl,fun p a a' ha ha' => ?_⟩
  match p with
  | 0 =>
   obtain rfl := Option.some.inj ha
   obtain rfl := Option.some.inj ha'
   exact ren_hSg (.inl ⟨hq,rfl⟩)
  | p + 1 => simp at ha
 ·unfold nxs at hr hr'
  rw [List.getElem?_set_ne (Ne.symm e),nrs_get hj] at hr hr'
  obtain rfl := Option.some.inj hr
  obtain rfl := Option.some.inj hr'
  refine ⟨rfl,fun p a a' ha ha' => ?_⟩
  match p with
  | 0 =>
   obtain rfl := Option.some.inj ha
   obtain rfl := Option.some.inj ha'
   exact ren_hSg (.up (by rw [<- hN]; exact (List.getElem?_eq_some_iff.1 (h.at_ j hj e)).1))
  | p + 1 => simp at ha
def Opn (m k : Nat) (i j : Nat) : Prop := (i < m /\ j = i) \/ (i = k + m /\ j = m) \/ (m <= i /\ i ≠ k + m /\ j = i + 1)
theorem Opn.low {m k i : Nat} (h : Nat.blt i m = true) : Opn m k i i := .inl ⟨Nat.le_of_ble_eq_true h,rfl⟩
theorem Reid.open {b0 m : Nat} {S S' K : AH} {k : Nat} {x : Option ABlk} (hm : S.length = m) (hk : K[k]? = some x) (hb : Nat.ble b0 m = true) (hS : RenHL (Opn m k) S S') (hK : KF K) : Reid b0 (Opn m k) (S ++ K) (S' ++ x :: K.set k none) := by
 have hb := Nat.le_of_ble_eq_true hb
 obtain ⟨h1,h2,h3⟩ := hS.spec
 have hm' : S'.length = m := h1.symm.trans hm
 have hkl := (List.getElem?_eq_some_iff.1 hk).1
 have a1 : ∀ i,i < m -> (S ++ K)[i]? = S[i]? := fun i hi => List.getElem?_append_left (by omega)
 have a2 : ∀ q,(S ++ K)[q + m]? = K[q]? := fun q => by
  rw [List.getElem?_append_right (by omega)]
  congr 1
  omega
 have c1 : ∀ i,i < m -> (S' ++ x :: K.set k none)[i]? = S'[i]? := fun i hi => List.getElem?_append_left (by omega)
 have c2 : (S' ++ x :: K.set k none)[m]? = some x := by
  rw [List.getElem?_append_right (by omega)]
  have : m - S'.length = 0 := by omega
  rw [this]
  rfl
 have c3 : ∀ q,(S' ++ x :: K.set k none)[q + m + 1]? = (K.set k none)[q]? := fun q => by
  rw [List.getElem?_append_right (by omega)]
  have : q + m + 1 - S'.length = q + 1 := by omega
  rw [this]
  rfl
 refine ⟨fun i j j' e1 e2 => ?_,fun i i' j e1 e2 => ?_,fun i hi => .inl ⟨by omega,rfl⟩,by simp; omega,fun j k0 hk0 => ?_,fun i j k1 hS1 hk1 => ?_⟩
 ·rcases e1 with ⟨_,rfl⟩ | ⟨_,rfl⟩ | ⟨_,_,rfl⟩ <;> rcases e2 with ⟨_,rfl⟩ | ⟨_,rfl⟩ | ⟨_,_,rfl⟩ <;> omega
 ·rcases e1 with ⟨_,e1⟩ | ⟨_,e1⟩ | ⟨_,_,e1⟩ <;> rcases e2 with ⟨_,e2⟩ | ⟨_,e2⟩ | ⟨_,_,e2⟩ <;> omega
 ·rcases Nat.lt_trichotomy j m with hj | hj | hj
  ·rw [c1 j hj] at hk0
   obtain ⟨k1,g1,g2⟩ := h3 j k0 hk0
   exact ⟨j,k1,.inl ⟨hj,rfl⟩,by rw [a1 j hj]; exact g1,g2⟩
  ·subst hj
   rw [c2] at hk0
   obtain rfl := Option.some.inj hk0
   exact ⟨k + j,k0,.inr (.inl ⟨rfl,rfl⟩),by rw [a2]; exact hk,.ofF (hK k k0 hk)⟩
  ·obtain ⟨q,rfl⟩ : ∃ q,j = q + m + 1 := ⟨j - m - 1,by omega⟩
   rw [c3 q] at hk0
   have hq : q ≠ k := fun e => by
    subst e
    rw [List.getElem?_set_self hkl] at hk0
    cases hk0
   rw [List.getElem?_set_ne (Ne.symm hq)] at hk0
   exact ⟨q + m,k0,.inr (.inr ⟨by omega,by omega,by omega⟩),by rw [a2]; exact hk0,.ofF (hK q k0 hk0)⟩
 ·rcases hS1 with ⟨e1,rfl⟩ | ⟨rfl,rfl⟩ | ⟨e1,e2,rfl⟩
  ·rw [a1 _ e1] at hk1
   obtain ⟨k',g1,_⟩ := h2 _ k1 hk1
   exact ⟨k',by rw [c1 _ e1]; exact g1⟩
  ·rw [a2,hk] at hk1
   obtain rfl := Option.some.inj hk1
   exact ⟨k1,c2⟩
  ·obtain ⟨q,rfl⟩ : ∃ q,i = q + m := ⟨i - m,by omega⟩
   rw [a2] at hk1
   exact ⟨k1,by rw [c3 q,List.getElem?_set_ne (by omega)]; exact hk1⟩
theorem NN.renOpn {ver m i : Nat} {to : TypeId} (h : NN K gh w ty f l) (hi : i < l.length) : RenK (Opn m (gh i).2.1) ⟨ver,1,to,nrs m gh w l⟩ ⟨ver,1,to,nxs (m + 1) gh w l i (gh i).1 m (gh i).2.2 (l.getD i []).length⟩ := by
 refine ⟨rfl,rfl,rfl,by rw [nrs_rows,nxs_len],fun j r r' hr hr' => ?_⟩
 have hj : j < l.length := by
  have := (List.getElem?_eq_some_iff.1 hr).1
  rwa [nrs_rows] at this
 by_cases e : j = i
 ·subst e
  rw [nrs_get hj] at hr
  rw [nxs_get hj] at hr'
  obtain rfl := Option.some.inj hr
  obtain rfl := Option.some.inj hr'
  refine ⟨rfl,fun p a a' ha ha' => ?_⟩
  match p with
  | 0 =>
   obtain rfl := Option.some.inj ha
   obtain rfl := Option.some.inj ha'
   exact ren_hSg (.inr (.inl ⟨rfl,rfl⟩))
  | p + 1 => simp at ha
 ·unfold nxs at hr'
  rw [List.getElem?_set_ne (Ne.symm e),nrs_get hj] at hr'
  rw [nrs_get hj] at hr
  obtain rfl := Option.some.inj hr
  obtain rfl := Option.some.inj hr'
  refine ⟨rfl,fun p a a' ha ha' => ?_⟩
  match p with
  | 0 =>
   obtain rfl := Option.some.inj ha
   obtain rfl := Option.some.inj ha'
   exact ren_hSg (.inr (.inr ⟨by omega,fun e2 => h.nk.sep j i hj hi e (by omega),by omega⟩))
  | p + 1 => simp at ha
end
end Go.Proofs.Ytlmjnhnpahicmaa
namespace Go.Proofs.Ytlmjnhnpahicmaa
open Go.RowKit
set_option maxRecDepth 100000
section
variable {P : Program} {H : AH} {s : Nat}
def SrcN (P : Program) (H : AH) (s : Nat) (a : AV) (news : List (List AV)) : Prop := ∀ (c : Cx) (u : Value),c.H = H -> HRel c -> c.rel a u ->
 (∀ w,(Builtin.lenOf u).run P w = .ok news.length w) /\ (∀ (i : Nat) (row : List AV),news[i]? = some row -> row.length = s) /\
 ∀ n,n <= news.length -> ∃ vs : List Value,(∀ w,w.heap = c.w.heap -> (Builtin.firstCells s n u).run P w = .ok vs.toArray w) /\ RowsIs c s (news.take n) vs
theorem SrcN.of {a : AV} {news : List (List AV)} (len : Nat) (hl : news.length = len) (h : ∀ (c : Cx) (u : Value),c.H = H -> HRel c -> c.rel a u -> ∃ A cap,u = .slice A len cap /\ ∀ n,n <= len -> ∃ vs,SrcIs P c s (.slice A n cap) (news.take n) vs) : SrcN P H s a news := fun c u hH hr hu => by
 obtain ⟨A,cap,rfl,h1⟩ := h c u hH hr hu
 refine ⟨fun w => by rw [hl]; simp [Builtin.lenOf],fun i row hi => ?_,fun n hn => ?_⟩
 ·obtain ⟨vs,h2⟩ := h1 len (Nat.le_refl _)
  refine h2.rows i row ?_
  rw [List.take_of_length_le (by omega)]
  exact hi
 ·obtain ⟨vs,h2⟩ := h1 n (by omega)
  refine ⟨vs,fun w hw => ?_,h2.is⟩
  have h3 := h2.cells w hw
  rw [List.length_take,Nat.min_eq_left hn] at h3
  rw [<- h3]
  cases A <;> rfl
theorem SrcN.own {b ver off len : Nat} {k : ABlk} (hk : H[b]? = some (some k)) (hv : k.ver = ver) (hs : k.s = s) (hn : off + len <= k.rows.length) : SrcN P H s (.hs b ver s off len) ((k.rows.drop off).take len) :=
 .of len (by simp; omega) fun c u hH hr hu => by
  cases hu with
  | fr h => cases h
  | @hs _ _ _ _ _ cap A hb hc hm h0 hx =>
   refine ⟨A,cap,rfl,fun n hn' => ?_⟩
   rw [List.take_take,Nat.min_eq_left hn']
   exact SrcOk.own hk hv hs (by omega) rfl c _ hH hr (.hs hb (by omega) hm h0 fun x hx' => ⟨(hx x hx').1,by have := (hx x hx').2.1; omega,(hx x hx').2.2.1,(hx x hx').2.2.2⟩)
theorem SrcN.fz {α : Type} [Inhabited α] {f : α -> List AV} {l : List α} (hf : ∀ x,(f x).length = s) : SrcN P H s (eL f l) (l.map f) :=
 .of l.length (by simp) fun c u hH hr hu => by
  have h := rel_sl hu
  cases h with
  | @sl _ cap sz g o _ a us hc hm ha hs hu2 h1 h =>
   refine ⟨a,cap,rfl,fun n hn => ?_⟩
   have e : (l.map f).take n = (List.range n).map fun i => f (l.getD i default) := by
    rw [<- List.map_take,<- range_map_getD f (l.take n),List.length_take,Nat.min_eq_left hn]
    apply List.map_congr_left
    intro i hi
    have hi' : i < n := by simpa using hi
    simp [List.getElem?_take,hi']
   rw [e]
   refine SrcOk.sl (H:=c.H) (n:=n) (row:=fun i => f (l.getD i default)) (fun i _ => hf _) c _ rfl hr (.fr (.sl (s:=sz) (g:=g) (o:=o) us (by omega) hm (fun h0 => ha (by omega)) (fun i hi => hs i (by omega)) (fun i j a hi => hu2 i j a (by omega)) (fun i j a hi => h1 i j a (by omega)) (fun i j a hi => h i j a (by omega))))
variable {o : Oper} {ρ : Operand -> AV}
theorem opS_copy {cl : Call} {x y : Operand} {t u e : TypeId} {b ver off len : Nat} {k : ABlk} {news : List (List AV)} (ho : o.op = .call cl) (h1 : cl.callee = .builtin .copy) (h2 : cl.args.toList = [x,y]) (h3 : cl.argTypes.toList = [t,u])
  (ht : P.underlying t = some (.slice e)) (hi : (P.info? e).isSome = true) (hse : P.cellsOf e = s) (hx : ρ x = .hs b ver s off len) (hb : H[b]? = some (some k)) (hv : k.ver = ver) (hs : k.s = s) (hoff : off + len <= k.rows.length) (hsrc : SrcN P H s (ρ y) news) :
  OpS P o ρ H (.v (.int .i64 (min news.length len : Nat))) (H.set b (some { k with rows := k.rows.take off ++ news.take (min news.length len) ++ k.rows.drop (off + min news.length len) })) := by
 intro c a K Q hH hr hxs hK
 obtain ⟨callee,args,ts⟩ := cl
 simp only at h1 h2 h3
 obtain rfl : args = #[x,y] := by cases args; simp_all
 obtain rfl : ts = #[t,u] := by cases ts; simp_all
 subst h1
 have hx1 := hx ▸ hxs x (by rw [ho]; simp [Op.operands,Call.operands])
 obtain ⟨hlen,hrl,hfirst⟩ := hsrc c _ hH hr (hxs y (by rw [ho]; simp [Op.operands,Call.operands]))
 generalize hn : min news.length len = n at hK ⊢
 obtain ⟨vs,hvs,his⟩ := hfirst n (by omega)
 obtain ⟨hvl,hv1,hvr⟩ := his
 rw [List.length_take,Nat.min_eq_left (by omega)] at hvl
 have hl : c.live b k := by unfold Cx.live; rw [hH]; exact hb
 generalize hux : a.eval x = ux at hx1
 cases hx1 with
 | fr h => cases h
 | @hs _ _ _ _ _ cap A hbn hcl hcm h0 hh =>
  obtain ⟨cur,fr,hB⟩ := hr.blk b k hl
  obtain ⟨fr,rfl,hat,hd⟩ := hB.cells hl (fun x hx => (hh x (hv ▸ hx)).1.trans hs.symm)
  rw [hv] at hd
  obtain ⟨_,_,hA,hcf⟩ := hh _ hd
  simp only at hA hcf
  obtain ⟨ti,hti⟩ := elem_info hi
  have hsize : (sizeOf e).run P c.w = .ok s c.w := by rw [run_sizeOf c.w hti,<- hse]
  have hexec : ∀ w',(match A with | some ad => (storeCells ad vs).run P c.w | none => .ok () c.w) = .ok () w' -> (execOp a.eval o).run P c.w = .ok (.value (.int .i64 (n : Int))) w' := fun w' hw => by
   have e1 : (Builtin.copy_ #[t,u] o.type #[.slice A len cap,a.eval y]).run P c.w = .ok (.int .i64 (n : Int)) w' := by
    have hm : Nat.min news.length len = n := hn
    cases A with
    | none =>
     simp only at hw
     injection hw with _ hw
     subst hw
     simp [Builtin.copy_,Sem.run_bind,run_underlying' ht,hlen,hsize,hm,hvs c.w rfl,goInt]
    | some ad =>
     simp only at hw
     simp [Builtin.copy_,Sem.run_bind,run_underlying' ht,hlen,hsize,hm,hvs c.w rfl,hw,goInt]
   simp [execOp,ho,resolve,invoke,builtin,hux,e1]
  unfold Oper.wp
  rcases Nat.eq_zero_or_pos n with h00 | hpos
  ·-- nothing is copied
   have hv0 : vs = [] := List.eq_nil_of_length_eq_zero (by rw [hvl,h00,Nat.zero_mul])
   have hk0 : ({ k with rows := k.rows.take off ++ news.take n ++ k.rows.drop (off + n) } : ABlk) = k := by
    rw [h00]
    simp
   rw [hexec c.w (by subst hv0; cases A <;> rfl)]
   refine hK _ c ?_ hr (Ext.refl c) (rel_v_mk rfl)
   rw [hk0,set_same H b _ hb,hH]
  ·have h0' : 0 < cap := by omega
   obtain rfl := hA h0'
   have hfit := hB.fits
   have hsp := hB.pos
   have hle : (c.φ b).2 + off * s + vs.length <= cur.toList.length := by
    have h5 : (off + len) * s <= k.rows.length * s := Nat.mul_le_mul_right _ hoff
    have h6 : n * s <= len * s := Nat.mul_le_mul_right _ (by omega)
    rw [Nat.add_mul] at h5
    have hct : cur.toList.length = cur.size := Array.length_toList
    rw [hs] at hfit
    rw [hvl,hct]
    omega
   have hst := run_storeCells_fr (P:=P) (c.φ b).1 ((c.φ b).2 + off * s) k.ty fr vs 0 cur c.w hat (hB.free fr rfl) (by simpa using hle) hv1
   rw [Nat.add_zero] at hst
   have hg2 := fun q => seg_get cur.toList _ _ hle q
   have hs2 := seg_size cur.toList _ _ hle
   generalize hcs2 : (cur.toList.take ((c.φ b).2 + off * s) ++ vs ++ cur.toList.drop ((c.φ b).2 + off * s + vs.length)) = ls at *
   have hsz2 : ls.toArray.size = cur.size := by simpa using hs2
   have hget : ∀ q,ls.toArray[q]? = if (c.φ b).2 + off * s <= q /\ q < (c.φ b).2 + off * s + vs.length then vs[q - ((c.φ b).2 + off * s)]? else cur[q]? := fun q => by
    rw [List.getElem?_toArray,hg2,Array.getElem?_toList (xs:=cur)]
   have hrl2 : (k.rows.take off ++ news.take n ++ k.rows.drop (off + n)).length = k.rows.length := by
    simp only [List.length_append,List.length_take,List.length_drop]
    omega
   have hrow : ∀ (i : Nat) (row : List AV),(k.rows.take off ++ news.take n ++ k.rows.drop (off + n))[i]? = some row -> (off <= i /\ i < off + n /\ news[i - off]? = some row) \/ ((i < off \/ off + n <= i) /\ k.rows[i]? = some row) := fun i row h => by
    have hnl : (news.take n).length = n := by simp; omega
    have e := seg_get k.rows off (news.take n) (by rw [hnl]; omega) i
    rw [hnl] at e
    rw [e] at h
    split at h
    ·rename_i h2
     refine .inl ⟨h2.1,h2.2,?_⟩
     rw [List.getElem?_take,if_pos (by omega)] at h
     exact h
    ·rename_i h2
     exact .inr ⟨by omega,h⟩
   have hlen2 : ∀ (i : Nat) (row : List AV),(k.rows.take off ++ news.take n ++ k.rows.drop (off + n))[i]? = some row -> row.length = k.s := fun i row h => by
    rcases hrow i row h with ⟨_,_,h2⟩ | ⟨_,h2⟩
    ·rw [hrl _ row h2,hs]
    ·exact hB.len i row h2
   have hext := Cx.upd_ext (k:={ k with rows := k.rows.take off ++ news.take n ++ k.rows.drop (off + n) }) (o:=(c.φ b).2) (cs:=ls.toArray) hr hl hB hsz2 (.inl ⟨rfl,rfl,hrl2,rfl⟩)
   have hrel := Cx.upd_rel (k:={ k with rows := k.rows.take off ++ news.take n ++ k.rows.drop (off + n) }) (o:=(c.φ b).2) (cs:=ls.toArray) hr hl hB hsz2 rfl hext hsp (by simp only; rw [hrl2,hsz2]; exact hfit) hlen2 (fun i row j a' h h' => by
    have hj : j < s := by
     have := (List.getElem?_eq_some_iff.1 h').1
     rw [hlen2 i row h,hs] at this
     exact this
    simp only
    rw [hget,hs,hvl]
    rcases hrow i row h with ⟨g1,g2,g3⟩ | ⟨g1,g3⟩
    ·have hf := row_fits (s:=s) (show i - off < n by omega) (j:=j + 1) hj
     have e : i * s = (i - off) * s + off * s := by
      rw [<- Nat.add_mul]
      congr 1
      omega
     rw [if_pos (by omega)]
     obtain ⟨u',q1,q2,q3⟩ := hvr (i - off) row j a' (by rw [List.getElem?_take,if_pos (by omega)]; exact g3) h'
     refine ⟨u',?_,q2,q3⟩
     rw [<- q1]
     congr 1
     omega
    ·have hi' := (List.getElem?_eq_some_iff.1 g3).1
     rw [if_neg (fun hq => ?_)]
     ·have := hB.rel i row j a' g3 h'
      rw [hs] at this
      exact this
     ·rcases g1 with g1 | g1
      ·have hf := row_fits (s:=s) g1 (j:=j + 1) hj
       omega
      ·have hf : (off + n) * s <= i * s := Nat.mul_le_mul_right _ g1
       rw [Nat.add_mul] at hf
       omega)
   rw [hexec _ hst]
   exact hK _ _ (by rw [<- hH]; rfl) hrel hext (rel_v_mk rfl)
variable {α : Type} {c : α -> List AV} {l k : List α} {x y : Operand} {t u e : TypeId} {ag : Bool} {w m b ver off len : Nat} {zs : List AV}
def cpy (l : List α) (off : Nat) (k : List α) (len : Nat) : List α := if off + len <= l.length then l.take off ++ k.take (min k.length len) ++ l.drop (off + min k.length len) else l
theorem cpy_length (l : List α) (off : Nat) (k : List α) (len : Nat) : (cpy l off k len).length = l.length := by
 unfold cpy
 split
 ·simp only [List.length_append,List.length_take,List.length_drop]
  omega
 ·rfl
theorem osl_le {lo hi : Int} {n : Nat} (h : 0 <= lo /\ lo <= hi /\ hi <= (n : Int)) (hn : n = l.length) : (0 + lo.toNat) + (hi.toNat - lo.toNat) <= l.length := by omega
theorem EvA.copyO (k : List α) (q : SlT P t e ag w zs m) (hx : ρ x = .hs b ver w off len) (hk : H[b]? = some (bE false ver w e (l.map c))) (ho : off + len <= l.length) (hsrc : SrcN P H w (ρ y) (k.map c)) :
  EvA P ρ (.call ⟨.builtin .copy,#[x,y],#[t,u]⟩) H (I (min k.length len : Nat)) (H.set b (bE false ver w e ((cpy l off k len).map c))) := fun o ho' => by
 have h := opS_copy (o:=o) (P:=P) (ρ:=ρ) (H:=H) (k:=⟨ver,w,e,l.map c⟩) ho' rfl rfl rfl q.u q.ty.info q.ty.cells hx hk rfl rfl (by simpa using ho) hsrc
 unfold cpy
 rw [if_pos ho]
 simpa [bE,List.map_take,List.map_drop] using h
theorem SrcN.ow {b ver : Nat} {ty : TypeId} (lo n : Nat) (hx : ρ y = .hs b ver w lo n) (hk : H[b]? = some (bE false ver w ty (l.map c))) (h : lo + n <= l.length) : SrcN P H w (ρ y) (((l.drop lo).take n).map c) := by
 rw [hx]
 have := SrcN.own (P:=P) (k:=⟨ver,w,ty,l.map c⟩) hk rfl rfl (off:=lo) (len:=n) (by simpa using h)
 simpa [List.map_take,List.map_drop] using this
theorem SrcN.el [Inhabited α] (hx : ρ y = eL c l) (hc : ∀ x,(c x).length = w) : SrcN P H w (ρ y) (l.map c) := by
 rw [hx]
 exact SrcN.fz hc
end
end Go.Proofs.Ytlmjnhnpahicmaa
namespace Go.Proofs.Ytlmjnhnpahicmaa
open Go.RowKit
set_option maxRecDepth 100000
section
variable {P : Program} {K V : Type} [DecidableEq K] {kn vn : Nat} {kc : K -> List Value} {cv : V -> List AV} {keyT t e : TypeId} {l : List (K × V)} {ρ : Operand -> AV} {H : AH} {x y z : Operand} {b : Nat}
theorem EvA.look (q : KeyA P keyT kn kc) (hv : ∀ v,(cv v).length = vn) (d : V) {zv : Value} {ok : Bool} (ht : P.underlying t = some (.map keyT e)) (hz : ∀ w,(zeroValue e).run P w = .ok zv w) (hzr : ∀ c : Cx,c.rel (mkA (cv d)) zv) (k : K)
  (hx : ρ x = .mp b (kn + vn)) (hy : ρ y = mkA ((kc k).map AV.v)) (hb : H[b]? = some (some (mB kn vn kc cv l))) :
  EvA P ρ (.lookup t x y ok) H (bif ok then .tup [mkA (cv ((mget l k).getD d)),.v (.bool (mget l k).isSome)] else mkA (cv ((mget l k).getD d))) H := fun _ ho => opS_lookup q hv d ho ht hz hzr k hx hy hb
theorem EvA.mset (q : KeyA P keyT kn kc) (hv : ∀ v,(cv v).length = vn) (ht : P.underlying t = some (.map keyT e)) (hs : 0 < kn + vn) (k : K) (v : V)
  (hx : ρ x = .mp b (kn + vn)) (hy : ρ y = mkA ((kc k).map AV.v)) (hz : (ρ z).cells = some (cv v)) (hzm : mkA (cv v) = ρ z) (hb : H[b]? = some (some (mB kn vn kc cv l))) :
  EvA P ρ (.mapUpdate t x y z) H .top (H.set b (some (mB kn vn kc cv (mput l k v)))) := fun _ ho => opS_mapUpdate q hv (.inl ho) ht hs k v hx hy hz hzm hb
end
section
variable {K V : Type} {kn vn : Nat} {kc : K -> List Value} {cv : V -> List AV} {l : List (K × V)} {H : AH}
theorem StayB.mp {m : Nat} (hv : ∀ v,(cv v).all (isF 9) = true) : StayB m H (some (mB kn vn kc cv l)) (some (mB kn vn kc cv l)) := .keep fun r hr a ha => by
 obtain ⟨p,_,rfl⟩ := List.mem_map.1 hr
 rcases List.mem_append.1 ha with ha | ha
 ·obtain ⟨x,_,rfl⟩ := List.mem_map.1 ha
  rfl
 ·exact isF_low 9 m a (List.all_eq_true.1 (hv p.2) a ha)
end
section
variable {P : Program} {K V : Type} {kn vn : Nat} {kc : K -> List Value} {cv : V -> List AV} {keyT t e : TypeId} {l : List (K × V)} {ρ : Operand -> AV} {H : AH} {x : Operand} {b : Nat}
end
section
variable {P : Program} {kn : Nat} {t : TypeId} {ρ : Operand -> AV} {H : AH}
end
end Go.Proofs.Ytlmjnhnpahicmaa
namespace Go.Proofs.Ytlmjnhnpahicmaa
open Go.RowKit
set_option maxRecDepth 100000
def kI3 (k : Int × Int × Int) : List Value := [.int .i64 k.1,.int .i64 k.2.1,.int .i64 k.2.2]
section
variable {P : Program} {keyT e : TypeId} {i : TypeInfo}
theorem equal_d (ht : P.underlying keyT = some (.array 3 e)) (he : P.underlying e = some (.int .i64)) (hp : P.plainKey e = true) (hi : P.info? e = some i) (hc : P.cellsOf e = 1) (d : Nat) (a b : Int × Int × Int) (w : World) :
  (Op.equalIn (d + 1 + 1) keyT (.agg #[.int .i64 a.1,.int .i64 a.2.1,.int .i64 a.2.2]) (.agg #[.int .i64 b.1,.int .i64 b.2.1,.int .i64 b.2.2])).run P w = .ok (decide (b = a)) w := by
 have q1 : ∀ m n : Int,(Op.equalIn (d + 1) e (.int .i64 m) (.int .i64 n)).run P w = .ok (m == n) w := fun m n => by simp [Op.equalIn,run_underlying he]
 have p1 : ∀ (xs : Array Value) (o : Nat) (v : Value),xs[o]? = some v -> (part e xs o).run P w = .ok v w := fun xs o v hx => run_part_plain w hp hx
 rw [run_equalIn_array w (d + 1) _ _ ht hi,hc]
 obtain ⟨a1,a2,a3⟩ := a
 obtain ⟨b1,b2,b3⟩ := b
 have r0 := p1 #[.int .i64 a1,.int .i64 a2,.int .i64 a3] 0 _ rfl
 have r1 := p1 #[.int .i64 a1,.int .i64 a2,.int .i64 a3] 1 _ rfl
 have r2 := p1 #[.int .i64 a1,.int .i64 a2,.int .i64 a3] 2 _ rfl
 have t0 := p1 #[.int .i64 b1,.int .i64 b2,.int .i64 b3] 0 _ rfl
 have t1 := p1 #[.int .i64 b1,.int .i64 b2,.int .i64 b3] 1 _ rfl
 have t2 := p1 #[.int .i64 b1,.int .i64 b2,.int .i64 b3] 2 _ rfl
 by_cases e1 : a1 = b1
 ·by_cases e2 : a2 = b2
  ·by_cases e3 : a3 = b3
   ·subst e1 e2 e3
    simp [List.range_succ,Op.eqItems,Sem.run_bind,r0,r1,r2,q1]
   ·subst e1 e2
    simp [List.range_succ,Op.eqItems,Sem.run_bind,r0,r1,r2,t0,t1,t2,q1,e3,Ne.symm e3]
  ·subst e1
   simp [List.range_succ,Op.eqItems,Sem.run_bind,r0,r1,t0,t1,q1,e2,Ne.symm e2]
 ·simp [List.range_succ,Op.eqItems,Sem.run_bind,r0,t0,q1,e1,Ne.symm e1]
theorem equal_i3 (ht : P.underlying keyT = some (.array 3 e)) (he : P.underlying e = some (.int .i64)) (hp : P.plainKey e = true) (hi : P.info? e = some i) (hc : P.cellsOf e = 1) (a b : Int × Int × Int) (w : World) :
  (Op.equal keyT (mkv (kI3 a)) (mkv (kI3 b))).run P w = .ok (decide (b = a)) w := equal_d ht he hp hi hc 9998 a b w
theorem check_d (ht : P.underlying keyT = some (.array 3 e)) (he : P.underlying e = some (.int .i64)) (hp : P.plainKey e = true) (hi : P.info? e = some i) (hc : P.cellsOf e = 1) (d : Nat) (em : Bool) (x y z : Int) (w : World) :
  (Instr.checkKey em (d + 1 + 1) keyT (.agg #[.int .i64 x,.int .i64 y,.int .i64 z])).run P w = .ok () w := by
 have c1 : ∀ n : Int,(Instr.checkKey em (d + 1) e (.int .i64 n)).run P w = .ok () w := fun n => by simp [Instr.checkKey,run_underlying he]
 have r0 : (part e #[.int .i64 x,.int .i64 y,.int .i64 z] 0).run P w = .ok (.int .i64 x) w := run_part_plain w hp rfl
 have r1 : (part e #[.int .i64 x,.int .i64 y,.int .i64 z] 1).run P w = .ok (.int .i64 y) w := run_part_plain w hp rfl
 have r2 : (part e #[.int .i64 x,.int .i64 y,.int .i64 z] 2).run P w = .ok (.int .i64 z) w := run_part_plain w hp rfl
 rw [Instr.checkKey]
 simp only [Sem.run_bind,run_underlying ht,Result.andThen_ok]
 simp [Std.Legacy.Range.forIn_eq_forIn_range',Std.Legacy.Range.size,List.range'_succ,Sem.run_bind,run_sizeOf w hi,hc,r0,r1,r2,c1]
theorem same_d (d : Nat) (x y z : Int) : Instr.sameBits (d + 1) (.agg #[.int .i64 x,.int .i64 y,.int .i64 z]) (.agg #[.int .i64 x,.int .i64 y,.int .i64 z]) = true := by
 simp [Instr.sameBits]
theorem findAsking_i3 (ht : P.underlying keyT = some (.array 3 e)) (he : P.underlying e = some (.int .i64)) (hp : P.plainKey e = true) (hi : P.info? e = some i) (hc : P.cellsOf e = 1) (k : Int × Int × Int) (w : World) : ∀ (es : List MapEntry) (ks : List (Int × Int × Int)) (q : Nat),es.map (·.key) = ks.map (fun k => mkv (kI3 k)) ->
  (Instr.findAsking keyT (mkv (kI3 k)) es q).run P w = .ok ((ks.findIdx? (fun x => decide (x = k))).bind fun j => es[j]?.map fun e => (q + j,e.val)) w
 | [],[],_,_ => rfl
 | [],_ :: _,_,h => by simp at h
 | _ :: _,[],_,h => by simp at h
 | en :: es,s :: ks,q,h => by
  simp only [List.map_cons,List.cons.injEq] at h
  obtain ⟨h1,h2⟩ := h
  have ih := findAsking_i3 ht he hp hi hc k w es ks (q + 1) h2
  unfold Instr.findAsking
  simp only [Sem.run_bind,h1,equal_i3 ht he hp hi hc,Result.andThen_ok]
  by_cases hs : s = k
  ·subst hs
   simp [List.findIdx?_cons]
  ·rw [decide_eq_false hs]
   simp only [Bool.false_eq_true,if_false,ih,List.findIdx?_cons,decide_eq_false hs]
   cases ks.findIdx? fun x => decide (x = k) with
   | none => rfl
   | some j =>
    simp only [Option.map_some,Option.bind_some,List.getElem?_cons_succ]
    rw [show q + 1 + j = q + (j + 1) by omega]
theorem keyI3 (ht : P.underlying keyT = some (.array 3 e)) (he : P.underlying e = some (.int .i64)) (hp : P.plainKey e = true) (hi : P.info? e = some i) (hc : P.cellsOf e = 1) : KeyA P keyT 3 kI3 where
 len := fun _ => rfl
 plain := fun k x hx => by
  simp only [kI3,List.mem_cons,List.not_mem_nil,or_false] at hx
  rcases hx with rfl | rfl | rfl <;> rfl
 check := fun w em k => check_d ht he hp hi hc 9998 em k.1 k.2.1 k.2.2 w
 find := fun w k es ks h => by
  rw [run_findKey_eq w (by rw [ht]) _ es,findAsking_i3 ht he hp hi hc k w es ks 0 h]
  simp only [Nat.zero_add]
 stays := fun w k => by
  have : Instr.sameBits 10000 (mkv (kI3 k)) (mkv (kI3 k)) = true := same_d 9999 k.1 k.2.1 k.2.2
  unfold Instr.keyThatStays
  rw [if_pos this]
  rfl
end
end Go.Proofs.Ytlmjnhnpahicmaa
