/-
  Contracts and words, several texts joined. No conditions.
-/
import Derived.Test.YtjogdblionfmiaaGC
namespace Go.Proofs.Ytjogdblionfmiaa
open Go.RowKit
set_option maxRecDepth 100000
section
variable {P : Program} {o : Oper} {ρ : Operand → AV} {H : AH} {x y : Operand} {t e : TypeId}
theorem newS_makeSlice {lo co : Operand} {l k : Int} {z : Value} (ho : o.op = .makeSlice t lo co) (ht : P.underlying t = some (.slice e)) (hlo : ρ lo = .v (.int .i64 l)) (hco : ρ co = .v (.int .i64 k)) (hz : (P.info? e).bind (·.zero) = some z)
    (h0 : 0 ≤ l) (h1 : l ≤ k) (hb : k * (P.bytesOf e : Int) ≤ 140737488355328) (hk : k ≤ 140737488355328) (hs : 0 < P.cellsOf e) (hzs : (zcells z).length = P.cellsOf e) (hz1 : allOne z.cells = true) :
    NewS P o ρ H ⟨0, P.cellsOf e, e, List.replicate k.toNat (zcells z)⟩ (.hs H.length 0 (P.cellsOf e) 0 l.toNat) := by
  cases hi : P.info? e with
  | none => rw [hi] at hz; cases hz
  | some i =>
    simp only [hi, Option.bind_some] at hz
    have hby : P.bytesOf e = i.bytes := by simp [Program.bytesOf, hi]
    have hce : P.cellsOf e = i.size := by simp [Program.cellsOf, hi]
    have hzsz : z.cells.size = P.cellsOf e := by simpa [zcells] using hzs
    refine fun c a hH hr hx => ?_
    have hl1 := (rel_v (hlo ▸ hx lo (by rw [ho]; simp [Op.operands]))).1
    have hk1 := (rel_v (hco ▸ hx co (by rw [ho]; simp [Op.operands]))).1
    have hzc := zcells_rel c hz1
    have hsize : (sizeOf e).run P c.w = .ok (P.cellsOf e) c.w := run_sizeOf c.w hi
    have hzero : (zeroValue e).run P c.w = .ok z c.w := by simp [zeroValue, typeInfo, hi, hz]
    refine ⟨(Array.range (k.toNat * P.cellsOf e)).map (z.cells[· % z.cells.size]!), .slice (some ⟨c.w.heap.size, 0, none⟩) l.toNat k.toNat, ?_, Cx.new_rel hr _ _ hs (by simp) (fun q row h => ?_) (fun q row j a' h1' h2 => ?_), ?_⟩
    · rw [execOp, ho]
      refine (?_ : Sem.run P _ c.w = _)
      have hneg : ¬ ((((decide (k < 0) || decide (i.bytes * k > 2 ^ 48)) || decide (l < 0)) || decide (l > k)) = true) := by
        simp only [Bool.or_eq_true, decide_eq_true_eq, not_or]
        rw [hby, Int.mul_comm] at hb
        omega
      have : (Instr.makeSlice t (a.eval lo) (a.eval co)).run P c.w = .ok (.slice (some ⟨c.w.heap.size, 0, none⟩) l.toNat k.toNat) (c.w.alloc (.cells ((Array.range (k.toNat * P.cellsOf e)).map (z.cells[· % z.cells.size]!)) e)) := by
        rw [hl1, hk1]
        simp only [Instr.makeSlice, Sem.run_bind, run_underlying' ht, Result.andThen_ok, asInt, asIntOf, Sem.run_pure, run_typeInfo c.w hi, wrap_id (n := l) h0 (by omega), wrap_id (n := k) (by omega) (by omega)]
        rw [if_neg hneg]
        simp only [Sem.run_bind, run_askRoom, Result.andThen_ok, hsize]
        by_cases h00 : k.toNat * P.cellsOf e = 0
        · rw [if_pos h00, h00]
          have h00' : ∀ f : Nat → Value, Array.map f (Array.range 0) = #[] := fun f => Array.eq_empty_of_size_eq_zero (by simp)
          simp [newRow, h00']
        · rw [if_neg h00]
          simp [hzero, newRow]
      simp only [Sem.run_bind, this, Result.andThen_ok, Sem.run_pure]
      rfl
    · have := List.mem_of_getElem? h
      rw [List.mem_replicate] at this
      rw [this.2]
      exact hzs
    · have hq : q < k.toNat := by
        have := (List.getElem?_eq_some_iff.1 h1').1
        simpa using this
      have := List.mem_of_getElem? h1'
      rw [List.mem_replicate] at this
      rw [this.2] at h2
      have hj : j < P.cellsOf e := by
        have := (List.getElem?_eq_some_iff.1 h2).1
        omega
      have hfit : q * P.cellsOf e + j < k.toNat * P.cellsOf e := by
        have : (q + 1) * P.cellsOf e ≤ k.toNat * P.cellsOf e := Nat.mul_le_mul_right _ (by omega)
        rw [Nat.add_mul] at this
        omega
      simp only
      rw [zero_get _ _ _ hfit (by omega), hzsz, Nat.mul_comm, Nat.mul_add_mod, Nat.mod_eq_of_lt hj]
      exact hzc.get h2
    · subst hH
      have := Cx.new_hs c ⟨0, P.cellsOf e, e, List.replicate k.toNat (zcells z)⟩ ((Array.range (k.toNat * P.cellsOf e)).map (z.cells[· % z.cells.size]!)) (n := l.toNat) (cap := k.toNat) (by simp; omega) (by omega) (by omega) (by simp)
      exact this
theorem newS_mk {ag : Bool} {w m : Nat} {zs : List AV} {a b : Int} (q : SlT P t e ag w zs m) (ho : o.op = .makeSlice t x y) (hx : ρ x = .v (.int .i64 a)) (hy : ρ y = .v (.int .i64 b)) (hq : 0 ≤ a ∧ a ≤ b ∧ b * (m : Int) ≤ 140737488355328 ∧ b ≤ 140737488355328) :
    NewS P o ρ H ⟨0, w, e, List.replicate b.toNat zs⟩ (.hs H.length 0 w 0 a.toNat) := by
  have hz := q.z.z
  have h1 := q.z.one
  cases hb : (P.info? e).bind (·.zero) with
  | none => rw [hb] at hz; cases hz
  | some z =>
    rw [hb] at hz h1
    simp only [Option.map_some, Option.some.injEq] at hz h1
    have h := newS_makeSlice (P := P) (o := o) (ρ := ρ) (H := H) ho q.u hx hy hb hq.1 hq.2.1 (by rw [q.by_]; exact hq.2.2.1) hq.2.2.2 (by rw [q.ty.cells]; exact Nat.le_of_ble_eq_true q.pos) (by rw [hz, q.ty.cells]; exact q.zl) h1
    rw [hz, q.ty.cells] at h
    exact h
/-- zeros that are only read -/
theorem EvN.msF {α : Type} [Inhabited α] {c : α → List AV} {ag : Bool} {w m : Nat} {zs : List AV} {a b : Int} (v : α) (q : SlT P t e ag w zs m) (hx : ρ x = .v (.int .i64 a)) (hy : ρ y = .v (.int .i64 b)) (hq : 0 ≤ a ∧ a ≤ b ∧ b * (m : Int) ≤ 140737488355328 ∧ b ≤ 140737488355328) (hab : a = b) (hv : zs = c v) (hF : ∀ x, (c x).all (isF 9) = true) :
    EvN P ρ (.makeSlice t x y) (eL c (List.replicate a.toNat v)) := by
  subst hab hv
  refine .newF ⟨0, w, e, (List.replicate a.toNat v).map c⟩ (fun b => .hs b 0 w 0 a.toNat) (fun o ho G => ?_) fun m G hG => ?_
  · rw [List.map_replicate]
    exact newS_mk q ho hx hy hq
  · exact Fz.own (g := false) (ver := 0) (l := List.replicate a.toNat v) (f := c) (ty := e) (Nat.ble_eq_true_of_le (Nat.le_refl _)) (by rw [← hG]; simp [bE]) (by simp) nofun hF
/-- nils that are only read -/
theorem EvN.msZ {α : Type} [Inhabited α] {f : α → List AV} {ag : Bool} {w m : Nat} {a b : Int} (q : SlT P t e ag w [.nil] m) (hx : ρ x = .v (.int .i64 a)) (hy : ρ y = .v (.int .i64 b)) (hq : 0 ≤ a ∧ a ≤ b ∧ b * (m : Int) ≤ 140737488355328 ∧ b ≤ 140737488355328) (hab : a = b) :
    EvN P ρ (.makeSlice t x y) (eL (cL f) (List.replicate a.toNat ([] : List α))) := by
  subst hab
  refine .newF ⟨0, w, e, List.replicate a.toNat [.nil]⟩ (fun b => .hs b 0 w 0 a.toNat) (fun o ho G => newS_mk q ho hx hy hq) fun m G hG => ?_
  show Fz _ _ _ (.sl (List.replicate a.toNat ([] : List α)).length _)
  rw [List.length_replicate]
  refine .hs (k := ⟨0, w, e, List.replicate a.toNat [.nil]⟩) (Nat.le_refl _) (by rw [← hG]; simp) rfl (by simp) (fun i r hi hr => ?_) (fun i r j c d hi hr hc hd => ?_)
  · have := List.mem_of_getElem? hr
    rw [List.mem_replicate] at this
    rw [this.2]
    rfl
  · have := List.mem_of_getElem? hr
    rw [List.mem_replicate] at this
    rw [this.2] at hc
    have e0 : (List.replicate a.toNat ([] : List α)).getD i default = [] := by simp [List.getElem?_replicate]; split <;> rfl
    rw [e0] at hd
    match j with
    | 0 =>
      obtain rfl := Option.some.inj hc
      obtain rfl := Option.some.inj hd
      exact .nil0
    | j + 1 => simp at hc
/-- zeros in a place that was kept -/
theorem EvA.msR {α : Type} {c : α → List AV} {ag : Bool} {w m : Nat} {zs : List AV} {a b : Int} (bl : Nat) (v : α) (q : SlT P t e ag w zs m) (hx : ρ x = .v (.int .i64 a)) (hy : ρ y = .v (.int .i64 b)) (hq : 0 ≤ a ∧ a ≤ b ∧ b * (m : Int) ≤ 140737488355328 ∧ b ≤ 140737488355328) (hab : a = b) (hv : zs = c v) (hF : ∀ x, (c x).all (isF 9) = true) (hb : H[bl]? = some none) :
    EvA P ρ (.makeSlice t x y) H (hS false bl 0 w (List.replicate a.toNat v).length) (H.set bl (bE false 0 w e ((List.replicate a.toNat v).map c))) := fun o ho => by
  subst hab hv
  have h := newS_mk (H := H) q ho hx hy hq
  rw [List.map_replicate, List.length_replicate]
  refine h.at_ hb (fun r hr z hz => ?_) (.inl ⟨_, rfl, rfl⟩)
  rw [List.mem_replicate] at hr
  rw [hr.2] at hz
  exact List.all_eq_true.1 (hF v) z hz
end
/-- places are kept for many blocks to come -/
theorem T.reserveN {P : Program} {nt b0 : Nat} {Q : Exit → Env → AH → Prop} {e : Env} {code : Code} : ∀ (n : Nat) {H : AH}, T P nt b0 code Q e (H ++ List.replicate n none) → T P nt b0 code Q e H
  | 0, H, h => by simpa using h
  | n + 1, H, h => by
    refine T.reserve (T.reserveN n ?_)
    rw [List.append_assoc]
    exact h
end Go.Proofs.Ytjogdblionfmiaa

namespace Go.Proofs.Ytjogdblionfmiaa
open Go.RowKit
set_option maxRecDepth 100000
section
variable {P : Program}
/-- the blocks of K lie in G in the places bs -/
def OSQ (bs : List Nat) (K : AH) (r : AV) : AV → AH → Prop := fun r0 G =>
  bs.Nodup ∧ bs.length = K.length ∧ (∀ (j b : Nat), bs[j]? = some b → ∃ k, rowsF k ∧ G[b]? = some (some k) ∧ K[j]? = some (some k)) ∧ Ren (fun i j => bs[j]? = some i) r0 r
theorem OSQ.reid {bs : List Nat} {K G : AH} {r r0 : AV} (h : OSQ bs K r r0 G) : Reid 0 (fun i j => bs[j]? = some i) G K := by
  obtain ⟨hnd, hl, hk, _⟩ := h
  refine ⟨fun i j j' h1 h2 => ?_, fun i i' j h1 h2 => ?_, fun i hi => by omega, Nat.zero_le _, fun j k0 hk0 => ?_, fun i j k hS hk0 => ?_⟩
  · obtain ⟨l1, e1⟩ := List.getElem?_eq_some_iff.1 h1
    obtain ⟨l2, e2⟩ := List.getElem?_eq_some_iff.1 h2
    exact (List.getElem_inj hnd).1 (e1.trans e2.symm)
  · rw [h1] at h2
    exact Option.some.inj h2
  · have hj : j < bs.length := by rw [hl]; exact (List.getElem?_eq_some_iff.1 hk0).1
    obtain ⟨k, h1, h2, h3⟩ := hk j bs[j] (List.getElem?_eq_getElem hj)
    rw [hk0] at h3
    obtain rfl := Option.some.inj (Option.some.inj h3)
    exact ⟨bs[j], k0, List.getElem?_eq_getElem hj, h2, .ofF h1⟩
  · obtain ⟨k1, _, _, h3⟩ := hk j i hS
    exact ⟨k1, h3⟩
theorem ACall.mkOS {g : FuncId} {fn : Func} {body : Code} {ars : List AV} {r : AV} {K : AH} (hf : P.funcs[g]? = some fn) (hb : fn.body = some body) (hcall : callable P g = true) (hn : Nat.ble ars.length fn.ntmps = true)
    (hok : codeOk fn.ntmps body = true) {e0 : Env} (hw : Weak (env0 ars) e0) (h : T P fn.ntmps 0 body (Fin P fn fun r0 G => ∃ bs, OSQ bs K r r0 G) e0 []) : ACall P g ars [] r K := by
  have hB := BCall.mkT (H := []) hf hb hcall hn hok hw h
  refine ⟨hB.1, fun c vs hH hr hall => (hB.2 c vs hH hr hall).mono fun e w' ⟨v, c1, r0, he, hw', ⟨bs, hq⟩, hr1, hx, hv⟩ => ?_⟩
  have hs : SRel c1 1 (fun t => bif Nat.beq t 0 then r0 else .top) { tmps := #[v], defers := [] } := by
    refine ⟨rfl, rfl, fun t => ?_, hr1⟩
    match t with
    | 0 => exact hv
    | t + 1 => exact .top
  obtain ⟨c2, h1, h2, h3, h4⟩ := hq.reid.state (e0 := fun t => bif Nat.beq t 0 then r else .top) hx hs (by rw [hH]; exact Nat.zero_le _) fun t => by
    match t with
    | 0 => exact hq.2.2.2
    | t + 1 => exact .top
  exact ⟨v, c2, he, h1.trans hw', h4, h3.heap, h2, h3.rel 0⟩
/-- the same in the caller's memory -/
theorem ACall.freshL {g : FuncId} {ars : List AV} {r r' : AV} {K H : AH} (h : ACall P g ars [] r K) (has : ars.all (isF 9) = true) (hK : ∀ (j : Nat) (k : ABlk), K[j]? = some (some k) → rowsF k) (n : Nat) (hn : H.length = n) (hr : Ren (sg [] n) r r') : ACall P g ars H r' (H ++ K) := by
  subst hn
  have key : ∀ {i b}, sg [] H.length i b → b = H.length + i := fun {i b} hs => by
    rcases hs with hs | ⟨_, hs⟩
    · simp at hs
    · simpa using hs
  have hz : ∀ i, (H ++ K)[H.length + i]? = K[i]? := fun i => by rw [List.getElem?_append_right (by omega), Nat.add_sub_cancel_left]
  refine h.frame [] List.nodup_nil rfl (fun i c hi => by simp at hi) rfl (fun i c d hc hd => ?_) ⟨Nat.zero_le _, by simp, fun i c hi hs hn => ?_, fun i c k0 hs hg => ?_, fun c hc hni => List.getElem?_append_left hc⟩ hr
  · obtain ⟨rfl, hm⟩ := same_get hc hd
    exact ren_isF 9 c (List.all_eq_true.1 has _ hm)
  · obtain rfl := key hs
    rw [hz]
    exact hn
  · obtain rfl := key hs
    exact ⟨k0, (hz i).trans hg, .ofF (hK i k0 hg)⟩
theorem ren_sh {n i j v w m : Nat} (h : j = n + i) : Ren (sg [] n) (hS false i v w m) (hS false j v w m) := .hs (.inr ⟨Nat.zero_le _, by simpa using h⟩)
theorem ren_pl {bs : List Nat} {i j v w m : Nat} (h : bs[j]? = some i) : Ren (fun i j => bs[j]? = some i) (hS false i v w m) (hS false j v w m) := .hs h
theorem Ren.aggL {S : Nat → Nat → Prop} {l k : List AV} (h : RenL S l k) : Ren S (.agg l) (.agg k) := .agg h.spec.1 h.spec.2
/-- one by one -/
inductive Lies (G : AH) : List Nat → AH → Prop
  | nil : Lies G [] []
  | cons {b : Nat} {k : ABlk} {bs : List Nat} {K : AH} (h : G[b]? = some (some k)) (hk : rowsF k) (t : Lies G bs K) : Lies G (b :: bs) (some k :: K)
theorem Lies.spec {G : AH} {bs : List Nat} {K : AH} (h : Lies G bs K) : bs.length = K.length ∧ ∀ (j b : Nat), bs[j]? = some b → ∃ k, rowsF k ∧ G[b]? = some (some k) ∧ K[j]? = some (some k) := by
  induction h with
  | nil => exact ⟨rfl, fun j b h => by simp at h⟩
  | @cons b k bs K h hk t ih =>
    refine ⟨by simp [ih.1], fun j c hc => ?_⟩
    match j with
    | 0 =>
      obtain rfl := Option.some.inj hc
      exact ⟨k, hk, h, rfl⟩
    | j + 1 => exact ih.2 j c hc
theorem OSQ.mk {bs : List Nat} {K G : AH} {r r0 : AV} (hnd : bs.Nodup) (hl : Lies G bs K) (hr : Ren (fun i j => bs[j]? = some i) r0 r) : OSQ bs K r r0 G := ⟨hnd, hl.spec.1, hl.spec.2, hr⟩
/-- blocks whose rows hold nothing of the call's own -/
inductive RowsF : AH → Prop
  | nil : RowsF []
  | cons {k : ABlk} {K : AH} (hk : rowsF k) (t : RowsF K) : RowsF (some k :: K)
theorem RowsF.spec {K : AH} (h : RowsF K) : ∀ (j : Nat) (k : ABlk), K[j]? = some (some k) → rowsF k := by
  induction h with
  | nil => intro j k h; simp at h
  | cons hk t ih =>
    intro j k h
    match j with
    | 0 =>
      obtain rfl := Option.some.inj (Option.some.inj h)
      exact hk
    | j + 1 => exact ih j k h
end
end Go.Proofs.Ytjogdblionfmiaa

namespace Go.Proofs.Ytjogdblionfmiaa
open Go.RowKit
set_option maxRecDepth 100000
/-- j stands behind i -/
def depB (ops : Array Oper) : Nat → Nat → Nat → Bool
  | 0, _, _ => false
  | n + 1, j, i => match ops[j]? with
    | some oj => oj.after.any fun ed => Region.binds .any ed && (ed.on == i || depB ops n ed.on i)
    | none => false
/-- what stands before what is listed is listed -/
def ClL (ops : Array Oper) (listed : Array Bool) : Prop := ∀ (j : Nat) (oj : Oper), ops[j]? = some oj → listed.getD j false = true → ∀ ed ∈ oj.after, Region.binds .any ed = true → listed.getD ed.on false = true
theorem getD_up {listed : Array Bool} {i j : Nat} (h : listed.getD i false = true) : (listed.setIfInBounds j true).getD i false = true := by
  by_cases e : j = i
  · subst e
    rcases Nat.lt_or_ge j listed.size with h' | h'
    · simp [h']
    · simp [Array.getElem?_eq_none h'] at h
  · simpa [Array.getElem?_setIfInBounds_ne e] using h
theorem ClL.up {ops : Array Oper} {listed : Array Bool} {j : Nat} (h : ClL ops listed) (hj : j ∈ Region.ready .any ops listed) : ClL ops (listed.setIfInBounds j true) := by
  intro i oi hoi hl ed he hb
  by_cases e : j = i
  · subst e
    obtain ⟨_, oj, hoj, hall⟩ := mem_ready.1 hj
    rw [hoi] at hoj
    injection hoj with hoj
    subst hoj
    exact getD_up (hall ed he hb)
  · refine getD_up (h i oi hoi ?_ ed he hb)
    simpa [Array.getElem?_setIfInBounds_ne e] using hl
theorem dep_listed {ops : Array Oper} {listed : Array Bool} {i : Nat} (h : ClL ops listed) (hi : listed.getD i true = false) : ∀ (n j : Nat), (∀ oj, ops[j]? = some oj → ∀ ed ∈ oj.after, Region.binds .any ed = true → listed.getD ed.on false = true) → depB ops n j i = false
  | 0, _, _ => rfl
  | n + 1, j, hj => by
    unfold depB
    split
    · rename_i oj hoj
      rw [Bool.eq_false_iff]
      intro hany
      rw [Array.any_eq_true'] at hany
      obtain ⟨ed, h1, h2⟩ := hany
      simp only [Bool.and_eq_true, Bool.or_eq_true, beq_iff_eq] at h2
      have hl := hj oj hoj ed h1 h2.1
      rcases h2.2 with h3 | h3
      · rw [h3] at hl
        rcases Nat.lt_or_ge i listed.size with h' | h'
        · simp [h'] at hl hi; rw [hi] at hl; cases hl
        · simp [Array.getElem?_eq_none h'] at hl
      · rw [dep_listed h hi n ed.on fun oj' hoj' => h ed.on oj' hoj' hl] at h3
        cases h3
    · rfl
section
variable {P : Program}
theorem fAny_firstH {ops : Array Oper} {fp : Nat → Fp} {Q : Env → AH → Prop} {i n : Nat} {oi : Oper} {r : AV} (hi : ops[i]? = some oi) :
    ∀ (fuel : Nat) (listed : Array Bool) (e : Env) (H Hi : AH), ClL ops listed →
      (∀ (j : Nat) (oj : Oper), ops[j]? = some oj → j ≠ i → listed.getD j true = false → depB ops (n + 1) j i = false → oi.apart ops oj = true ∧ compatF (fp i) (fp j) = true) →
      i ∈ Region.ready .any ops listed → StepF P oi (rho e) H r Hi (fp i).1 → ((fp i).2 = false → Hi = H) → fAny P ops fp Q fuel (listed.setIfInBounds i true) (eset e oi.dst r) Hi → fAny P ops fp Q (fuel + 1) listed e H := by
  intro fuel
  induction fuel with
  | zero =>
    intro listed e H Hi _ _ hr hy hro hA
    refine ⟨fun h => (by rw [h] at hr; cases hr), fun j hj => ?_⟩
    by_cases hji : j = i
    · subst hji; exact ⟨oi, r, Hi, hi, hy, hro, hA⟩
    · have := ready_mono hj hji
      rw [hA.1] at this
      cases this
  | succ fuel ih =>
    intro listed e H Hi hcl hfree hr hy hro hA
    refine ⟨fun h => (by rw [h] at hr; cases hr), fun j hj => ?_⟩
    by_cases hji : j = i
    · subst hji; exact ⟨oi, r, Hi, hi, hy, hro, hA⟩
    · obtain ⟨oj, q, Hj, hoj, hsj, hroj, hAj⟩ := hA.2 j (ready_mono hj hji)
      obtain ⟨hjun, oj', hoj', hall⟩ := mem_ready.1 hj
      rw [hoj] at hoj'
      injection hoj' with hoj'
      subst hoj'
      have hnot : depB ops (n + 1) j i = false := dep_listed hcl (mem_ready.1 hr).1 (n + 1) j fun oj' hoj' => by
        rw [hoj] at hoj'
        injection hoj' with hoj'
        subst hoj'
        exact hall
      obtain ⟨hap, hcm⟩ := hfree j oj hoj hji hjun hnot
      obtain ⟨h1, h2, h3⟩ := Oper.apart_spec hap
      have ej := rho_apart (e := e) (r := r) h1
      have ei := rho_apart (e := e) (oi := oj) (r := q) h3
      have hsj' := hsj.congr ej
      have hfree' : ∀ (k : Nat) (ok : Oper), ops[k]? = some ok → k ≠ i → (listed.setIfInBounds j true).getD k true = false → depB ops (n + 1) k i = false → oi.apart ops ok = true ∧ compatF (fp i) (fp k) = true := fun k ok hk hki hun hno => by
        refine hfree k ok hk hki ?_ hno
        by_cases hjk : j = k
        · subst hjk; exact hjun
        · rw [getD_set_ne true hjk] at hun; exact hun
      have fin : ∀ Hj', StepF P oj (rho e) H q Hj' (fp j).1 → ((fp j).2 = false → Hj' = H) → StepF P oi (rho e) Hj' r Hj (fp i).1 → ((fp i).2 = false → Hj = Hj') → ∃ o r' H', ops[j]? = some o ∧ StepF P o (rho e) H r' H' (fp j).1 ∧ ((fp j).2 = false → H' = H) ∧ fAny P ops fp Q (fuel + 1) (listed.setIfInBounds j true) (eset e o.dst r') H' := fun Hj' s1 s1' s2 s2' => by
        refine ⟨oj, q, Hj', hoj, s1, s1', ih (listed.setIfInBounds j true) (eset e oj.dst q) Hj' Hj (hcl.up hj) hfree' (ready_mono hr (Ne.symm hji)) (s2.congr fun x hx => (ei x hx).symm) s2' ?_⟩
        rw [Array.setIfInBounds_comm _ _ hji, eset_comm (fun d hd => fun hd' => h2 d (by simpa using hd') (by simpa using hd))]
        exact hAj
      simp only [compatF, Bool.or_eq_true, Bool.and_eq_true, Bool.not_eq_true', List.all_eq_true, List.contains_eq_mem, decide_eq_false_iff_not] at hcm
      rcases hcm with hdis | ⟨w1, w2⟩
      · have hag : agree (fp j).1 H Hi := ⟨hy.1.symm, fun b hb => (hy.2.1 b (fun hbi => hdis b hbi hb)).symm⟩
        obtain ⟨Hj', a1, a2, a3, a4⟩ := hsj'.at_ hag
        have hag2 : agree (fp i).1 Hj' H := ⟨a1, fun b hb => a3 b (hdis b hb)⟩
        obtain ⟨K, b1, b2, b3, b4⟩ := hy.at_ hag2
        have hKH : K = Hj := by
          apply List.ext_getElem?
          intro b
          by_cases hbi : b ∈ (fp i).1
          · rw [b2 b hbi, hsj'.2.1 b (hdis b hbi)]
          · rw [b3 b hbi]
            by_cases hbj : b ∈ (fp j).1
            · exact a2 b hbj
            · rw [a3 b hbj, hsj'.2.1 b hbj, hy.2.1 b hbi]
        subst hKH
        refine fin Hj' a4 (fun hw => ?_) b4 (fun hw => ?_)
        · apply List.ext_getElem?
          intro b
          by_cases hbj : b ∈ (fp j).1
          · rw [a2 b hbj, hroj hw, hy.2.1 b (fun hbi => hdis b hbi hbj)]
          · exact a3 b hbj
        · apply List.ext_getElem?
          intro b
          by_cases hbi : b ∈ (fp i).1
          · rw [b2 b hbi, hro hw, a3 b (hdis b hbi)]
          · exact b3 b hbi
      · obtain rfl := hro w1
        obtain rfl := hroj w2
        exact fin _ hsj' (fun _ => rfl) hy (fun _ => rfl)
def clsH (ops : Array Oper) (fp : Nat → Fp) : Bool :=
  Region.lexB .any ops && ops.all (fun o => o.guard.isNone) &&
  (List.range ops.size).all fun i => (List.range ops.size).all fun j => decide (j ≤ i) || compatF (fp i) (fp j) || depB ops 6 j i
theorem fAny_TFH {ops : Array Oper} {fp : Nat → Fp} {Q : Env → AH → Prop} (hc : clsH ops fp = true) : ∀ (l : List Oper) (k : Nat) (listed : Array Bool) (e : Env) (H : AH), ClL ops listed → (∀ j, l[j]? = ops[k + j]?) → listed.size = ops.size → (∀ j, j < k → listed.getD j true = true) →
    Region.lexFrom .any ops l.length k listed = true → TF P fp k l Q e H → fAny P ops fp Q l.length listed e H
  | [], k, listed, e, H, _, _, _, _, hB, h => ⟨by simpa [Region.lexFrom] using hB, h⟩
  | o :: l, k, listed, e, H, hcl, hl, hsz, hbef, hB, h => by
    have h0 : ops[k]? = some o := by simpa using (hl 0).symm
    have hk : k < ops.size := (Array.getElem?_eq_some_iff.1 h0).1
    simp only [List.length_cons, Region.lexFrom, Bool.and_eq_true] at hB
    obtain ⟨⟨hr, hf⟩, hB'⟩ := hB
    obtain ⟨r, H', hs, hro, hK⟩ := h
    have hrk : k ∈ Region.ready .any ops listed := by simpa using hr
    refine fAny_firstH (n := 5) h0 l.length listed e H H' hcl (fun j oj hj hne hun hno => ?_) hrk hs hro
      (fAny_TFH hc l (k + 1) _ _ _ (hcl.up hrk) (fun j => by have := hl (j + 1); simpa [Nat.add_assoc, Nat.add_comm 1 j] using this) (by simpa using hsz) (fun j hj => ?_) hB' hK)
    · have hno1 : ∀ ed ∈ oj.after, Region.binds .any ed = true → ed.on ≠ k := fun ed he hb heq => by
        unfold depB at hno
        simp only [hj] at hno
        rw [Bool.eq_false_iff] at hno
        refine hno ?_
        rw [Array.any_eq_true']
        exact ⟨ed, he, by simp [hb, heq]⟩
      refine ⟨Region.free_spec h0 hf j oj hj hne hun hno1, ?_⟩
      have hjs : j < ops.size := (Array.getElem?_eq_some_iff.1 hj).1
      have hkj : ¬ j ≤ k := fun hle => by
        have := hbef j (by omega)
        rw [this] at hun
        cases hun
      simp only [clsH, Bool.and_eq_true, List.all_eq_true, List.mem_range] at hc
      have := hc.2 k hk j hjs
      simp only [Bool.or_eq_true, decide_eq_true_eq, hkj, false_or] at this
      rcases this with h1 | h1
      · exact h1
      · rw [hno] at h1
        cases h1
    · by_cases e : j = k
      · subst e
        simp [hsz, hk]
      · rw [getD_set_ne true (Ne.symm e)]
        exact hbef j (by omega)
variable {nt b0 : Nat} {Q : Exit → Env → AH → Prop} {e : Env} {H : AH}
theorem T.drawH {i : Nat} {ops : Array Oper} (fp : Nat → Fp) (hm : P.follows .mixedOrders = true) (hc : clsH ops fp = true) (h : TF P fp 0 ops.toList (Q .normal) e H) : T P nt b0 (.region i ops true) Q e H := by
  intro hok c c0 a hH hb hx hs
  simp only [codeOk] at hok
  have hc' := hc
  simp only [clsH, Bool.and_eq_true, Region.lexB] at hc'
  refine wp_region_any hm ?_
  have hlex := fAny_TFH hc ops.toList 0 (Array.replicate ops.size false) e H (fun j oj hj hl => by
    rcases Nat.lt_or_ge j ops.size with h' | h'
    · simp [h'] at hl
    · simp [Array.getElem?_eq_none h'] at hj) (fun j => by simp) (by simp) (fun j hj => absurd hj (by omega)) (by simpa using hc'.1.1.2) h
  have := fany_sound hok hc'.1.2 ops.toList.length _ e H hlex c.drew c0 a hH (hx.trans c.drew_ext) ⟨hs.size, hs.defers, fun t => (hs.rel t).ext hs.heap c.drew_ext, Cx.drew_rel hs.heap⟩
  rw [Array.length_toList] at this
  exact this
end
end Go.Proofs.Ytjogdblionfmiaa
