/-
  Computable twins of plain functions (loops with fuel), and that they answer alike; printed by fuel.py. No conditions.
-/
import Derived.Test.YtjogdblionfmiaaS21d
import Derived.Test.YtjogdblionfmiaaFu
namespace Go.Proofs.Ytjogdblionfmiaa
open Go.RowKit
set_option maxRecDepth 100000
noncomputable def C_impl_events_L6  : ((List Ximpl_Event) × Int) → Option (((List Ximpl_Event) × Int) ⊕ (List Ximpl_Event)) := fun s5 =>
  bif decide (s5.2 < (3 : Int)) then
    gd (capOK (s5.1.length + 1) 32) <|
    gd (inK .i64 (s5.2 + (1 : Int))) <|
    some (.inl ((s5.1 ++ [(⟨(-1 : Int), s5.2, s5.2, false, true⟩ : Ximpl_Event)]), (s5.2 + (1 : Int))))
  else
    some (.inr s5.1)
theorem C_impl_events_L6_le  (sQ : _) : Le (C_impl_events_L6  sQ) (F_impl_events_L6  sQ) := by
  unfold C_impl_events_L6 F_impl_events_L6
  repeat' (first | with_reducible exact Le.refl _ | with_reducible refine Le.gd _ ?_ | with_reducible refine Le.bif _ ?_ ?_ | with_reducible refine Le.bind ?_ (fun _ => ?_) | with_reducible refine Le.sumK ?_ (fun _ => ?_) | with_reducible refine Le.loop (fun _ => ?_) _ | with_reducible refine Le.nilK ?_ ?_ | with_reducible refine Le.ifc _ ?_ ?_)
noncomputable def C_impl_Instr_reads (x : Ximpl_Instr) : Option Bool :=
  Option.bind (bif (x.Op == (1 : Int)) then
    some true
  else
    some (x.Op == (5 : Int))
  ) fun s1 =>
  some s1
theorem C_impl_Instr_reads_le (x : Ximpl_Instr) : Le (C_impl_Instr_reads x) (F_impl_Instr_reads x) := by
  unfold C_impl_Instr_reads F_impl_Instr_reads
  repeat' (first | with_reducible exact Le.refl _ | with_reducible refine Le.gd _ ?_ | with_reducible refine Le.bif _ ?_ ?_ | with_reducible refine Le.bind ?_ (fun _ => ?_) | with_reducible refine Le.sumK ?_ (fun _ => ?_) | with_reducible refine Le.loop (fun _ => ?_) _ | with_reducible refine Le.nilK ?_ ?_ | with_reducible refine Le.ifc _ ?_ ?_)
noncomputable def C_impl_Instr_writes (x : Ximpl_Instr) : Option Bool :=
  Option.bind (bif (x.Op == (2 : Int)) then
    some true
  else
    some (x.Op == (3 : Int))
  ) fun s1 =>
  Option.bind (bif s1 then
    some true
  else
    some (x.Op == (5 : Int))
  ) fun s3 =>
  some s3
theorem C_impl_Instr_writes_le (x : Ximpl_Instr) : Le (C_impl_Instr_writes x) (F_impl_Instr_writes x) := by
  unfold C_impl_Instr_writes F_impl_Instr_writes
  repeat' (first | with_reducible exact Le.refl _ | with_reducible refine Le.gd _ ?_ | with_reducible refine Le.bif _ ?_ ?_ | with_reducible refine Le.bind ?_ (fun _ => ?_) | with_reducible refine Le.sumK ?_ (fun _ => ?_) | with_reducible refine Le.loop (fun _ => ?_) _ | with_reducible refine Le.nilK ?_ ?_ | with_reducible refine Le.ifc _ ?_ ?_)
noncomputable def C_impl_events_L32 (p : List (List Ximpl_Instr)) (s20 : (List Ximpl_Event) × Int) : ((List Ximpl_Event) × Int) → Option (((List Ximpl_Event) × Int) ⊕ (List Ximpl_Event)) := fun s31 =>
  bif decide (s31.2 < ((p.getD s20.2.toNat default).length : Int)) then
    Option.bind (
      gd (decide (0 ≤ s31.2 ∧ s31.2 < ((p.getD s20.2.toNat default).length : Int))) <|
      bif ((((p.getD s20.2.toNat default).getD s31.2.toNat default).Op) != (4 : Int)) then
        Option.bind (C_impl_Instr_reads (⟨((p.getD s20.2.toNat default).getD s31.2.toNat default).Op, ((p.getD s20.2.toNat default).getD s31.2.toNat default).Loc, ((p.getD s20.2.toNat default).getD s31.2.toNat default).Reg, ((p.getD s20.2.toNat default).getD s31.2.toNat default).Val⟩ : Ximpl_Instr)) fun v40 =>
        Option.bind (C_impl_Instr_writes (⟨((p.getD s20.2.toNat default).getD s31.2.toNat default).Op, ((p.getD s20.2.toNat default).getD s31.2.toNat default).Loc, ((p.getD s20.2.toNat default).getD s31.2.toNat default).Reg, ((p.getD s20.2.toNat default).getD s31.2.toNat default).Val⟩ : Ximpl_Instr)) fun v41 =>
        gd (capOK (s31.1.length + 1) 32) <|
        some (s31.1 ++ [(⟨s20.2, s31.2, ((p.getD s20.2.toNat default).getD s31.2.toNat default).Loc, v40, v41⟩ : Ximpl_Event)])
      else
        some s31.1
    ) fun s37 =>
    gd (inK .i64 (s31.2 + (1 : Int))) <|
    some (.inl (s37, (s31.2 + (1 : Int))))
  else
    some (.inr s31.1)
theorem C_impl_events_L32_le (p : List (List Ximpl_Instr)) (s20 : (List Ximpl_Event) × Int) (sQ : _) : Le (C_impl_events_L32 p s20 sQ) (F_impl_events_L32 p s20 sQ) := by
  unfold C_impl_events_L32 F_impl_events_L32
  repeat' (first | with_reducible exact Le.refl _ | with_reducible exact C_impl_Instr_reads_le .. | with_reducible exact C_impl_Instr_writes_le .. | with_reducible refine Le.gd _ ?_ | with_reducible refine Le.bif _ ?_ ?_ | with_reducible refine Le.bind ?_ (fun _ => ?_) | with_reducible refine Le.sumK ?_ (fun _ => ?_) | with_reducible refine Le.loop (fun _ => ?_) _ | with_reducible refine Le.nilK ?_ ?_ | with_reducible refine Le.ifc _ ?_ ?_)
noncomputable def C_impl_events_L21 (p : List (List Ximpl_Instr)) : ((List Ximpl_Event) × Int) → Option (((List Ximpl_Event) × Int) ⊕ (List Ximpl_Event)) := fun s20 =>
  bif decide (s20.2 < (p.length : Int)) then
    Option.bind (
      gd (decide (0 ≤ s20.2 ∧ s20.2 < (p.length : Int))) <|
      loopN' 25 (C_impl_events_L32 p s20) (s20.1, (0 : Int))
    ) fun s26 =>
    gd (inK .i64 (s20.2 + (1 : Int))) <|
    some (.inl (s26, (s20.2 + (1 : Int))))
  else
    some (.inr s20.1)
theorem C_impl_events_L21_le (p : List (List Ximpl_Instr)) (sQ : _) : Le (C_impl_events_L21 p sQ) (F_impl_events_L21 p sQ) := by
  unfold C_impl_events_L21 F_impl_events_L21
  repeat' (first | with_reducible exact Le.refl _ | with_reducible exact C_impl_events_L32_le .. | with_reducible refine Le.gd _ ?_ | with_reducible refine Le.bif _ ?_ ?_ | with_reducible refine Le.bind ?_ (fun _ => ?_) | with_reducible refine Le.sumK ?_ (fun _ => ?_) | with_reducible refine Le.loop (fun _ => ?_) _ | with_reducible refine Le.nilK ?_ ?_ | with_reducible refine Le.ifc _ ?_ ?_)
noncomputable def C_impl_events (p : List (List Ximpl_Instr)) : Option (List Ximpl_Event) :=
  Option.bind (
    loopN' 25 C_impl_events_L6 (([] : List Ximpl_Event), (0 : Int))
  ) fun s1 =>
  Option.bind (
    loopN' 25 (C_impl_events_L21 p) (s1, (0 : Int))
  ) fun s16 =>
  some s16
theorem C_impl_events_le (p : List (List Ximpl_Instr)) : Le (C_impl_events p) (F_impl_events p) := by
  unfold C_impl_events F_impl_events
  repeat' (first | with_reducible exact Le.refl _ | with_reducible exact C_impl_events_L6_le .. | with_reducible exact C_impl_events_L21_le .. | with_reducible refine Le.gd _ ?_ | with_reducible refine Le.bif _ ?_ ?_ | with_reducible refine Le.bind ?_ (fun _ => ?_) | with_reducible refine Le.sumK ?_ (fun _ => ?_) | with_reducible refine Le.loop (fun _ => ?_) _ | with_reducible refine Le.nilK ?_ ?_ | with_reducible refine Le.ifc _ ?_ ?_)
noncomputable def C_impl_delayRel_1 (i : Int) (k_ : Int) (a2 : List Ximpl_Event) : Option Bool :=
  Option.bind (
    gd (decide (0 ≤ i ∧ i < (a2.length : Int))) <|
    bif decide ((0 : Int) ≤ ((a2.getD i.toNat default).Thread)) then
      gd (decide (0 ≤ k_ ∧ k_ < (a2.length : Int))) <|
      bif (((a2.getD i.toNat default).Thread) == ((a2.getD k_.toNat default).Thread)) then
        some (decide (((a2.getD i.toNat default).Index) < ((a2.getD k_.toNat default).Index)))
      else
        some false
    else
      some false
  ) fun s1 =>
  some s1
theorem C_impl_delayRel_1_le (i : Int) (k_ : Int) (a2 : List Ximpl_Event) : Le (C_impl_delayRel_1 i k_ a2) (F_impl_delayRel_1 i k_ a2) := by
  unfold C_impl_delayRel_1 F_impl_delayRel_1
  repeat' (first | with_reducible exact Le.refl _ | with_reducible refine Le.gd _ ?_ | with_reducible refine Le.bif _ ?_ ?_ | with_reducible refine Le.bind ?_ (fun _ => ?_) | with_reducible refine Le.sumK ?_ (fun _ => ?_) | with_reducible refine Le.loop (fun _ => ?_) _ | with_reducible refine Le.nilK ?_ ?_ | with_reducible refine Le.ifc _ ?_ ?_)
noncomputable def C_impl_pairsOf__impl_delayRel_1_L11 (n : Int) (is0 : List Ximpl_Event) (s4 : (List Int) × Int) : ((List Int) × Int) → Option (((List Int) × Int) ⊕ (List Int)) := fun s10 =>
  bif decide (s10.2 < n) then
    Option.bind (
      Option.bind (C_impl_delayRel_1 s4.2 s10.2 is0) fun v15 =>
      bif v15 then
        gd (decide (0 ≤ s4.2 ∧ s4.2 < (s10.1.length : Int))) <|
        gd (decide (0 ≤ s10.2)) <|
        some (s10.1.set s4.2.toNat (bOr .i64 (s10.1.getD s4.2.toNat default) (bShl .i64 (1 : Int) s10.2)))
      else
        some s10.1
    ) fun s14 =>
    gd (inK .i64 (s10.2 + (1 : Int))) <|
    some (.inl (s14, (s10.2 + (1 : Int))))
  else
    some (.inr s10.1)
theorem C_impl_pairsOf__impl_delayRel_1_L11_le (n : Int) (is0 : List Ximpl_Event) (s4 : (List Int) × Int) (sQ : _) : Le (C_impl_pairsOf__impl_delayRel_1_L11 n is0 s4 sQ) (F_impl_pairsOf__impl_delayRel_1_L11 n is0 s4 sQ) := by
  unfold C_impl_pairsOf__impl_delayRel_1_L11 F_impl_pairsOf__impl_delayRel_1_L11
  repeat' (first | with_reducible exact Le.refl _ | with_reducible exact C_impl_delayRel_1_le .. | with_reducible refine Le.gd _ ?_ | with_reducible refine Le.bif _ ?_ ?_ | with_reducible refine Le.bind ?_ (fun _ => ?_) | with_reducible refine Le.sumK ?_ (fun _ => ?_) | with_reducible refine Le.loop (fun _ => ?_) _ | with_reducible refine Le.nilK ?_ ?_ | with_reducible refine Le.ifc _ ?_ ?_)
noncomputable def C_impl_pairsOf__impl_delayRel_1_L5 (n : Int) (is0 : List Ximpl_Event) : ((List Int) × Int) → Option (((List Int) × Int) ⊕ (List Int)) := fun s4 =>
  bif decide (s4.2 < n) then
    Option.bind (
      loopN' 25 (C_impl_pairsOf__impl_delayRel_1_L11 n is0 s4) (s4.1, (0 : Int))
    ) fun s8 =>
    gd (inK .i64 (s4.2 + (1 : Int))) <|
    some (.inl (s8, (s4.2 + (1 : Int))))
  else
    some (.inr s4.1)
theorem C_impl_pairsOf__impl_delayRel_1_L5_le (n : Int) (is0 : List Ximpl_Event) (sQ : _) : Le (C_impl_pairsOf__impl_delayRel_1_L5 n is0 sQ) (F_impl_pairsOf__impl_delayRel_1_L5 n is0 sQ) := by
  unfold C_impl_pairsOf__impl_delayRel_1_L5 F_impl_pairsOf__impl_delayRel_1_L5
  repeat' (first | with_reducible exact Le.refl _ | with_reducible exact C_impl_pairsOf__impl_delayRel_1_L11_le .. | with_reducible refine Le.gd _ ?_ | with_reducible refine Le.bif _ ?_ ?_ | with_reducible refine Le.bind ?_ (fun _ => ?_) | with_reducible refine Le.sumK ?_ (fun _ => ?_) | with_reducible refine Le.loop (fun _ => ?_) _ | with_reducible refine Le.nilK ?_ ?_ | with_reducible refine Le.ifc _ ?_ ?_)
noncomputable def C_impl_pairsOf__impl_delayRel_1 (n : Int) (is0 : List Ximpl_Event) : Option (List Int) :=
  gd (decide (0 ≤ n ∧ n ≤ n ∧ n * ((8 : Nat) : Int) ≤ 140737488355328 ∧ n ≤ 140737488355328)) <|
  Option.bind (
    loopN' 25 (C_impl_pairsOf__impl_delayRel_1_L5 n is0) ((List.replicate n.toNat (default : Int)), (0 : Int))
  ) fun s2 =>
  some s2
theorem C_impl_pairsOf__impl_delayRel_1_le (n : Int) (is0 : List Ximpl_Event) : Le (C_impl_pairsOf__impl_delayRel_1 n is0) (F_impl_pairsOf__impl_delayRel_1 n is0) := by
  unfold C_impl_pairsOf__impl_delayRel_1 F_impl_pairsOf__impl_delayRel_1
  repeat' (first | with_reducible exact Le.refl _ | with_reducible exact C_impl_pairsOf__impl_delayRel_1_L5_le .. | with_reducible refine Le.gd _ ?_ | with_reducible refine Le.bif _ ?_ ?_ | with_reducible refine Le.bind ?_ (fun _ => ?_) | with_reducible refine Le.sumK ?_ (fun _ => ?_) | with_reducible refine Le.loop (fun _ => ?_) _ | with_reducible refine Le.nilK ?_ ?_ | with_reducible refine Le.ifc _ ?_ ?_)
noncomputable def C_impl_conflict (x : Ximpl_Instr) (y : Ximpl_Instr) : Option Bool :=
  Option.bind (bif (x.Op != (4 : Int)) then
    some (y.Op != (4 : Int))
  else
    some false
  ) fun s1 =>
  Option.bind (bif s1 then
    some (x.Loc == y.Loc)
  else
    some false
  ) fun s3 =>
  Option.bind (bif s3 then
    Option.bind (C_impl_Instr_writes x) fun v7 =>
    Option.bind (bif v7 then
      some true
    else
      Option.bind (C_impl_Instr_writes y) fun v10 =>
      some v10
    ) fun s8 =>
    some s8
  else
    some false
  ) fun s5 =>
  some s5
theorem C_impl_conflict_le (x : Ximpl_Instr) (y : Ximpl_Instr) : Le (C_impl_conflict x y) (F_impl_conflict x y) := by
  unfold C_impl_conflict F_impl_conflict
  repeat' (first | with_reducible exact Le.refl _ | with_reducible exact C_impl_Instr_writes_le .. | with_reducible refine Le.gd _ ?_ | with_reducible refine Le.bif _ ?_ ?_ | with_reducible refine Le.bind ?_ (fun _ => ?_) | with_reducible refine Le.sumK ?_ (fun _ => ?_) | with_reducible refine Le.loop (fun _ => ?_) _ | with_reducible refine Le.nilK ?_ ?_ | with_reducible refine Le.ifc _ ?_ ?_)
noncomputable def C_impl_conflictRel_1 (i : Int) (k_ : Int) (a2 : List Ximpl_Event) (a3 : List (List Ximpl_Instr)) : Option Bool :=
  gd (decide (0 ≤ i ∧ i < (a2.length : Int))) <|
  gd (decide (0 ≤ k_ ∧ k_ < (a2.length : Int))) <|
  Option.bind (
    bif decide ((0 : Int) ≤ ((a2.getD i.toNat default).Thread)) then
      bif decide ((0 : Int) ≤ ((a2.getD k_.toNat default).Thread)) then
        bif (((a2.getD i.toNat default).Thread) != ((a2.getD k_.toNat default).Thread)) then
          gd (decide (0 ≤ (a2.getD i.toNat default).Thread ∧ (a2.getD i.toNat default).Thread < (a3.length : Int))) <|
          gd (decide (0 ≤ (a2.getD i.toNat default).Index ∧ (a2.getD i.toNat default).Index < ((a3.getD ((a2.getD i.toNat default).Thread).toNat default).length : Int))) <|
          gd (decide (0 ≤ (a2.getD k_.toNat default).Thread ∧ (a2.getD k_.toNat default).Thread < (a3.length : Int))) <|
          gd (decide (0 ≤ (a2.getD k_.toNat default).Index ∧ (a2.getD k_.toNat default).Index < ((a3.getD ((a2.getD k_.toNat default).Thread).toNat default).length : Int))) <|
          Option.bind (C_impl_conflict ((a3.getD ((a2.getD i.toNat default).Thread).toNat default).getD ((a2.getD i.toNat default).Index).toNat default) ((a3.getD ((a2.getD k_.toNat default).Thread).toNat default).getD ((a2.getD k_.toNat default).Index).toNat default)) fun v11 =>
          some v11
        else
          some false
      else
        some false
    else
      some false
  ) fun s3 =>
  some s3
theorem C_impl_conflictRel_1_le (i : Int) (k_ : Int) (a2 : List Ximpl_Event) (a3 : List (List Ximpl_Instr)) : Le (C_impl_conflictRel_1 i k_ a2 a3) (F_impl_conflictRel_1 i k_ a2 a3) := by
  unfold C_impl_conflictRel_1 F_impl_conflictRel_1
  repeat' (first | with_reducible exact Le.refl _ | with_reducible exact C_impl_conflict_le .. | with_reducible refine Le.gd _ ?_ | with_reducible refine Le.bif _ ?_ ?_ | with_reducible refine Le.bind ?_ (fun _ => ?_) | with_reducible refine Le.sumK ?_ (fun _ => ?_) | with_reducible refine Le.loop (fun _ => ?_) _ | with_reducible refine Le.nilK ?_ ?_ | with_reducible refine Le.ifc _ ?_ ?_)
noncomputable def C_impl_pairsOf__impl_conflictRel_1_L11 (n : Int) (is0 : List Ximpl_Event) (is1 : List (List Ximpl_Instr)) (s4 : (List Int) × Int) : ((List Int) × Int) → Option (((List Int) × Int) ⊕ (List Int)) := fun s10 =>
  bif decide (s10.2 < n) then
    Option.bind (
      Option.bind (C_impl_conflictRel_1 s4.2 s10.2 is0 is1) fun v15 =>
      bif v15 then
        gd (decide (0 ≤ s4.2 ∧ s4.2 < (s10.1.length : Int))) <|
        gd (decide (0 ≤ s10.2)) <|
        some (s10.1.set s4.2.toNat (bOr .i64 (s10.1.getD s4.2.toNat default) (bShl .i64 (1 : Int) s10.2)))
      else
        some s10.1
    ) fun s14 =>
    gd (inK .i64 (s10.2 + (1 : Int))) <|
    some (.inl (s14, (s10.2 + (1 : Int))))
  else
    some (.inr s10.1)
theorem C_impl_pairsOf__impl_conflictRel_1_L11_le (n : Int) (is0 : List Ximpl_Event) (is1 : List (List Ximpl_Instr)) (s4 : (List Int) × Int) (sQ : _) : Le (C_impl_pairsOf__impl_conflictRel_1_L11 n is0 is1 s4 sQ) (F_impl_pairsOf__impl_conflictRel_1_L11 n is0 is1 s4 sQ) := by
  unfold C_impl_pairsOf__impl_conflictRel_1_L11 F_impl_pairsOf__impl_conflictRel_1_L11
  repeat' (first | with_reducible exact Le.refl _ | with_reducible exact C_impl_conflictRel_1_le .. | with_reducible refine Le.gd _ ?_ | with_reducible refine Le.bif _ ?_ ?_ | with_reducible refine Le.bind ?_ (fun _ => ?_) | with_reducible refine Le.sumK ?_ (fun _ => ?_) | with_reducible refine Le.loop (fun _ => ?_) _ | with_reducible refine Le.nilK ?_ ?_ | with_reducible refine Le.ifc _ ?_ ?_)
noncomputable def C_impl_pairsOf__impl_conflictRel_1_L5 (n : Int) (is0 : List Ximpl_Event) (is1 : List (List Ximpl_Instr)) : ((List Int) × Int) → Option (((List Int) × Int) ⊕ (List Int)) := fun s4 =>
  bif decide (s4.2 < n) then
    Option.bind (
      loopN' 25 (C_impl_pairsOf__impl_conflictRel_1_L11 n is0 is1 s4) (s4.1, (0 : Int))
    ) fun s8 =>
    gd (inK .i64 (s4.2 + (1 : Int))) <|
    some (.inl (s8, (s4.2 + (1 : Int))))
  else
    some (.inr s4.1)
theorem C_impl_pairsOf__impl_conflictRel_1_L5_le (n : Int) (is0 : List Ximpl_Event) (is1 : List (List Ximpl_Instr)) (sQ : _) : Le (C_impl_pairsOf__impl_conflictRel_1_L5 n is0 is1 sQ) (F_impl_pairsOf__impl_conflictRel_1_L5 n is0 is1 sQ) := by
  unfold C_impl_pairsOf__impl_conflictRel_1_L5 F_impl_pairsOf__impl_conflictRel_1_L5
  repeat' (first | with_reducible exact Le.refl _ | with_reducible exact C_impl_pairsOf__impl_conflictRel_1_L11_le .. | with_reducible refine Le.gd _ ?_ | with_reducible refine Le.bif _ ?_ ?_ | with_reducible refine Le.bind ?_ (fun _ => ?_) | with_reducible refine Le.sumK ?_ (fun _ => ?_) | with_reducible refine Le.loop (fun _ => ?_) _ | with_reducible refine Le.nilK ?_ ?_ | with_reducible refine Le.ifc _ ?_ ?_)
noncomputable def C_impl_pairsOf__impl_conflictRel_1 (n : Int) (is0 : List Ximpl_Event) (is1 : List (List Ximpl_Instr)) : Option (List Int) :=
  gd (decide (0 ≤ n ∧ n ≤ n ∧ n * ((8 : Nat) : Int) ≤ 140737488355328 ∧ n ≤ 140737488355328)) <|
  Option.bind (
    loopN' 25 (C_impl_pairsOf__impl_conflictRel_1_L5 n is0 is1) ((List.replicate n.toNat (default : Int)), (0 : Int))
  ) fun s2 =>
  some s2
theorem C_impl_pairsOf__impl_conflictRel_1_le (n : Int) (is0 : List Ximpl_Event) (is1 : List (List Ximpl_Instr)) : Le (C_impl_pairsOf__impl_conflictRel_1 n is0 is1) (F_impl_pairsOf__impl_conflictRel_1 n is0 is1) := by
  unfold C_impl_pairsOf__impl_conflictRel_1 F_impl_pairsOf__impl_conflictRel_1
  repeat' (first | with_reducible exact Le.refl _ | with_reducible exact C_impl_pairsOf__impl_conflictRel_1_L5_le .. | with_reducible refine Le.gd _ ?_ | with_reducible refine Le.bif _ ?_ ?_ | with_reducible refine Le.bind ?_ (fun _ => ?_) | with_reducible refine Le.sumK ?_ (fun _ => ?_) | with_reducible refine Le.loop (fun _ => ?_) _ | with_reducible refine Le.nilK ?_ ?_ | with_reducible refine Le.ifc _ ?_ ?_)
noncomputable def C_impl_conflictRel (p : List (List Ximpl_Instr)) : Option (List Int) :=
  Option.bind (C_impl_events p) fun v1 =>
  Option.bind (C_impl_pairsOf__impl_conflictRel_1 (v1.length : Int) v1 p) fun v2 =>
  some v2
theorem C_impl_conflictRel_le (p : List (List Ximpl_Instr)) : Le (C_impl_conflictRel p) (F_impl_conflictRel p) := by
  unfold C_impl_conflictRel F_impl_conflictRel
  repeat' (first | with_reducible exact Le.refl _ | with_reducible exact C_impl_events_le .. | with_reducible exact C_impl_pairsOf__impl_conflictRel_1_le .. | with_reducible refine Le.gd _ ?_ | with_reducible refine Le.bif _ ?_ ?_ | with_reducible refine Le.bind ?_ (fun _ => ?_) | with_reducible refine Le.sumK ?_ (fun _ => ?_) | with_reducible refine Le.loop (fun _ => ?_) _ | with_reducible refine Le.nilK ?_ ?_ | with_reducible refine Le.ifc _ ?_ ?_)
noncomputable def C_impl_RelValid_1 (x : Int) (a1 : List Int) : Option Bool :=
  Option.bind (bif decide (x < (0 : Int)) then
    some true
  else
    gd (decide (0 ≤ (a1.length : Int))) <|
    some (decide ((0 : Int) < (bShr .i64 x (a1.length : Int))))
  ) fun s1 =>
  some s1
theorem C_impl_RelValid_1_le (x : Int) (a1 : List Int) : Le (C_impl_RelValid_1 x a1) (F_impl_RelValid_1 x a1) := by
  unfold C_impl_RelValid_1 F_impl_RelValid_1
  repeat' (first | with_reducible exact Le.refl _ | with_reducible refine Le.gd _ ?_ | with_reducible refine Le.bif _ ?_ ?_ | with_reducible refine Le.bind ?_ (fun _ => ?_) | with_reducible refine Le.sumK ?_ (fun _ => ?_) | with_reducible refine Le.loop (fun _ => ?_) _ | with_reducible refine Le.nilK ?_ ?_ | with_reducible refine Le.ifc _ ?_ ?_)
noncomputable def C_slices_IndexFunc_int_int__impl_RelValid_1_L3 (s : List Int) (f0 : List Int) : Int → Option (Int ⊕ (Unit ⊕ Int)) := fun s2 =>
  bif decide (s2 < (s.length : Int)) then
    gd (decide (0 ≤ s2 ∧ s2 < (s.length : Int))) <|
    Option.bind (C_impl_RelValid_1 (s.getD s2.toNat default) f0) fun v6 =>
    bif v6 then
      some (.inr (.inr s2))
    else
      gd (inK .i64 (s2 + (1 : Int))) <|
      some (.inl (s2 + (1 : Int)))
  else
    some (.inr (.inl ()))
theorem C_slices_IndexFunc_int_int__impl_RelValid_1_L3_le (s : List Int) (f0 : List Int) (sQ : _) : Le (C_slices_IndexFunc_int_int__impl_RelValid_1_L3 s f0 sQ) (F_slices_IndexFunc_int_int__impl_RelValid_1_L3 s f0 sQ) := by
  unfold C_slices_IndexFunc_int_int__impl_RelValid_1_L3 F_slices_IndexFunc_int_int__impl_RelValid_1_L3
  repeat' (first | with_reducible exact Le.refl _ | with_reducible exact C_impl_RelValid_1_le .. | with_reducible refine Le.gd _ ?_ | with_reducible refine Le.bif _ ?_ ?_ | with_reducible refine Le.bind ?_ (fun _ => ?_) | with_reducible refine Le.sumK ?_ (fun _ => ?_) | with_reducible refine Le.loop (fun _ => ?_) _ | with_reducible refine Le.nilK ?_ ?_ | with_reducible refine Le.ifc _ ?_ ?_)
noncomputable def C_slices_IndexFunc_int_int__impl_RelValid_1 (s : List Int) (f0 : List Int) : Option Int :=
  sumK (
    loopN' 25 (C_slices_IndexFunc_int_int__impl_RelValid_1_L3 s f0) (0 : Int)
  ) fun s1 =>
  some (-1 : Int)
theorem C_slices_IndexFunc_int_int__impl_RelValid_1_le (s : List Int) (f0 : List Int) : Le (C_slices_IndexFunc_int_int__impl_RelValid_1 s f0) (F_slices_IndexFunc_int_int__impl_RelValid_1 s f0) := by
  unfold C_slices_IndexFunc_int_int__impl_RelValid_1 F_slices_IndexFunc_int_int__impl_RelValid_1
  repeat' (first | with_reducible exact Le.refl _ | with_reducible exact C_slices_IndexFunc_int_int__impl_RelValid_1_L3_le .. | with_reducible refine Le.gd _ ?_ | with_reducible refine Le.bif _ ?_ ?_ | with_reducible refine Le.bind ?_ (fun _ => ?_) | with_reducible refine Le.sumK ?_ (fun _ => ?_) | with_reducible refine Le.loop (fun _ => ?_) _ | with_reducible refine Le.nilK ?_ ?_ | with_reducible refine Le.ifc _ ?_ ?_)
noncomputable def C_slices_ContainsFunc_int_int__impl_RelValid_1 (s : List Int) (f0 : List Int) : Option Bool :=
  Option.bind (C_slices_IndexFunc_int_int__impl_RelValid_1 s f0) fun v1 =>
  some (decide ((0 : Int) ≤ v1))
theorem C_slices_ContainsFunc_int_int__impl_RelValid_1_le (s : List Int) (f0 : List Int) : Le (C_slices_ContainsFunc_int_int__impl_RelValid_1 s f0) (F_slices_ContainsFunc_int_int__impl_RelValid_1 s f0) := by
  unfold C_slices_ContainsFunc_int_int__impl_RelValid_1 F_slices_ContainsFunc_int_int__impl_RelValid_1
  repeat' (first | with_reducible exact Le.refl _ | with_reducible exact C_slices_IndexFunc_int_int__impl_RelValid_1_le .. | with_reducible refine Le.gd _ ?_ | with_reducible refine Le.bif _ ?_ ?_ | with_reducible refine Le.bind ?_ (fun _ => ?_) | with_reducible refine Le.sumK ?_ (fun _ => ?_) | with_reducible refine Le.loop (fun _ => ?_) _ | with_reducible refine Le.nilK ?_ ?_ | with_reducible refine Le.ifc _ ?_ ?_)
noncomputable def C_impl_RelValid (r_ : List Int) : Option Bool :=
  Option.bind (bif decide ((r_.length : Int) ≤ (16 : Int)) then
    Option.bind (C_slices_ContainsFunc_int_int__impl_RelValid_1 r_ r_) fun v3 =>
    some (!v3)
  else
    some false
  ) fun s1 =>
  some s1
theorem C_impl_RelValid_le (r_ : List Int) : Le (C_impl_RelValid r_) (F_impl_RelValid r_) := by
  unfold C_impl_RelValid F_impl_RelValid
  repeat' (first | with_reducible exact Le.refl _ | with_reducible exact C_slices_ContainsFunc_int_int__impl_RelValid_1_le .. | with_reducible refine Le.gd _ ?_ | with_reducible refine Le.bif _ ?_ ?_ | with_reducible refine Le.bind ?_ (fun _ => ?_) | with_reducible refine Le.sumK ?_ (fun _ => ?_) | with_reducible refine Le.loop (fun _ => ?_) _ | with_reducible refine Le.nilK ?_ ?_ | with_reducible refine Le.ifc _ ?_ ?_)
noncomputable def C_impl_areRels (a : List Int) (b : List Int) : Option Bool :=
  Option.bind (bif ((a.length : Int) == (b.length : Int)) then
    Option.bind (C_impl_RelValid a) fun v3 =>
    some v3
  else
    some false
  ) fun s1 =>
  Option.bind (bif s1 then
    Option.bind (C_impl_RelValid b) fun v6 =>
    some v6
  else
    some false
  ) fun s4 =>
  some s4
theorem C_impl_areRels_le (a : List Int) (b : List Int) : Le (C_impl_areRels a b) (F_impl_areRels a b) := by
  unfold C_impl_areRels F_impl_areRels
  repeat' (first | with_reducible exact Le.refl _ | with_reducible exact C_impl_RelValid_le .. | with_reducible refine Le.gd _ ?_ | with_reducible refine Le.bif _ ?_ ?_ | with_reducible refine Le.bind ?_ (fun _ => ?_) | with_reducible refine Le.sumK ?_ (fun _ => ?_) | with_reducible refine Le.loop (fun _ => ?_) _ | with_reducible refine Le.nilK ?_ ?_ | with_reducible refine Le.ifc _ ?_ ?_)
noncomputable def C_impl_related (r_ : List Int) (i : Int) (k_ : Int) : Option Bool :=
  gd (decide (0 ≤ i ∧ i < (r_.length : Int))) <|
  gd (decide (0 ≤ k_)) <|
  some ((bAnd .i64 (bShr .i64 (r_.getD i.toNat default) k_) (1 : Int)) == (1 : Int))
theorem C_impl_related_le (r_ : List Int) (i : Int) (k_ : Int) : Le (C_impl_related r_ i k_) (F_impl_related r_ i k_) := by
  unfold C_impl_related F_impl_related
  repeat' (first | with_reducible exact Le.refl _ | with_reducible refine Le.gd _ ?_ | with_reducible refine Le.bif _ ?_ ?_ | with_reducible refine Le.bind ?_ (fun _ => ?_) | with_reducible refine Le.sumK ?_ (fun _ => ?_) | with_reducible refine Le.loop (fun _ => ?_) _ | with_reducible refine Le.nilK ?_ ?_ | with_reducible refine Le.ifc _ ?_ ?_)
noncomputable def C_impl_ComposeRel_L13 (a : List Int) (b : List Int) (s6 : (List Int) × Int) : ((List Int) × Int) → Option (((List Int) × Int) ⊕ (List Int)) := fun s12 =>
  bif decide (s12.2 < (b.length : Int)) then
    Option.bind (
      Option.bind (C_impl_related a s6.2 s12.2) fun v17 =>
      bif v17 then
        gd (decide (0 ≤ s6.2 ∧ s6.2 < (s12.1.length : Int))) <|
        gd (decide (0 ≤ s12.2 ∧ s12.2 < (b.length : Int))) <|
        some (s12.1.set s6.2.toNat (bOr .i64 (s12.1.getD s6.2.toNat default) (b.getD s12.2.toNat default)))
      else
        some s12.1
    ) fun s16 =>
    gd (inK .i64 (s12.2 + (1 : Int))) <|
    some (.inl (s16, (s12.2 + (1 : Int))))
  else
    some (.inr s12.1)
theorem C_impl_ComposeRel_L13_le (a : List Int) (b : List Int) (s6 : (List Int) × Int) (sQ : _) : Le (C_impl_ComposeRel_L13 a b s6 sQ) (F_impl_ComposeRel_L13 a b s6 sQ) := by
  unfold C_impl_ComposeRel_L13 F_impl_ComposeRel_L13
  repeat' (first | with_reducible exact Le.refl _ | with_reducible exact C_impl_related_le .. | with_reducible refine Le.gd _ ?_ | with_reducible refine Le.bif _ ?_ ?_ | with_reducible refine Le.bind ?_ (fun _ => ?_) | with_reducible refine Le.sumK ?_ (fun _ => ?_) | with_reducible refine Le.loop (fun _ => ?_) _ | with_reducible refine Le.nilK ?_ ?_ | with_reducible refine Le.ifc _ ?_ ?_)
noncomputable def C_impl_ComposeRel_L7 (a : List Int) (b : List Int) : ((List Int) × Int) → Option (((List Int) × Int) ⊕ (List Int)) := fun s6 =>
  bif decide (s6.2 < (a.length : Int)) then
    Option.bind (
      loopN' 25 (C_impl_ComposeRel_L13 a b s6) (s6.1, (0 : Int))
    ) fun s10 =>
    gd (inK .i64 (s6.2 + (1 : Int))) <|
    some (.inl (s10, (s6.2 + (1 : Int))))
  else
    some (.inr s6.1)
theorem C_impl_ComposeRel_L7_le (a : List Int) (b : List Int) (sQ : _) : Le (C_impl_ComposeRel_L7 a b sQ) (F_impl_ComposeRel_L7 a b sQ) := by
  unfold C_impl_ComposeRel_L7 F_impl_ComposeRel_L7
  repeat' (first | with_reducible exact Le.refl _ | with_reducible exact C_impl_ComposeRel_L13_le .. | with_reducible refine Le.gd _ ?_ | with_reducible refine Le.bif _ ?_ ?_ | with_reducible refine Le.bind ?_ (fun _ => ?_) | with_reducible refine Le.sumK ?_ (fun _ => ?_) | with_reducible refine Le.loop (fun _ => ?_) _ | with_reducible refine Le.nilK ?_ ?_ | with_reducible refine Le.ifc _ ?_ ?_)
noncomputable def C_impl_ComposeRel (a : List Int) (b : List Int) : Option (List Int) :=
  Option.bind (C_impl_areRels a b) fun v1 =>
  bif !v1 then
    some ([] : List Int)
  else
    gd (decide (0 ≤ (a.length : Int) ∧ (a.length : Int) ≤ (a.length : Int) ∧ (a.length : Int) * ((8 : Nat) : Int) ≤ 140737488355328 ∧ (a.length : Int) ≤ 140737488355328)) <|
    Option.bind (
      loopN' 25 (C_impl_ComposeRel_L7 a b) ((List.replicate (a.length : Int).toNat (default : Int)), (0 : Int))
    ) fun s4 =>
    some s4
theorem C_impl_ComposeRel_le (a : List Int) (b : List Int) : Le (C_impl_ComposeRel a b) (F_impl_ComposeRel a b) := by
  unfold C_impl_ComposeRel F_impl_ComposeRel
  repeat' (first | with_reducible exact Le.refl _ | with_reducible exact C_impl_areRels_le .. | with_reducible exact C_impl_ComposeRel_L7_le .. | with_reducible refine Le.gd _ ?_ | with_reducible refine Le.bif _ ?_ ?_ | with_reducible refine Le.bind ?_ (fun _ => ?_) | with_reducible refine Le.sumK ?_ (fun _ => ?_) | with_reducible refine Le.loop (fun _ => ?_) _ | with_reducible refine Le.nilK ?_ ?_ | with_reducible refine Le.ifc _ ?_ ?_)
noncomputable def C_impl_UnionRel_1 (x : Int) (y : Int) : Option Int :=
  some (bOr .i64 x y)
theorem C_impl_UnionRel_1_le (x : Int) (y : Int) : Le (C_impl_UnionRel_1 x y) (F_impl_UnionRel_1 x y) := by
  unfold C_impl_UnionRel_1 F_impl_UnionRel_1
  repeat' (first | with_reducible exact Le.refl _ | with_reducible refine Le.gd _ ?_ | with_reducible refine Le.bif _ ?_ ?_ | with_reducible refine Le.bind ?_ (fun _ => ?_) | with_reducible refine Le.sumK ?_ (fun _ => ?_) | with_reducible refine Le.loop (fun _ => ?_) _ | with_reducible refine Le.nilK ?_ ?_ | with_reducible refine Le.ifc _ ?_ ?_)
noncomputable def C_impl_combined__impl_UnionRel_1_L7 (a : List Int) (b : List Int) : ((List Int) × Int) → Option (((List Int) × Int) ⊕ (List Int)) := fun s6 =>
  bif decide (s6.2 < (a.length : Int)) then
    gd (decide (0 ≤ s6.2 ∧ s6.2 < (a.length : Int))) <|
    gd (decide (0 ≤ s6.2 ∧ s6.2 < (b.length : Int))) <|
    Option.bind (C_impl_UnionRel_1 (a.getD s6.2.toNat default) (b.getD s6.2.toNat default)) fun v12 =>
    gd (decide (0 ≤ s6.2 ∧ s6.2 < (s6.1.length : Int))) <|
    gd (inK .i64 (s6.2 + (1 : Int))) <|
    some (.inl ((s6.1.set s6.2.toNat v12), (s6.2 + (1 : Int))))
  else
    some (.inr s6.1)
theorem C_impl_combined__impl_UnionRel_1_L7_le (a : List Int) (b : List Int) (sQ : _) : Le (C_impl_combined__impl_UnionRel_1_L7 a b sQ) (F_impl_combined__impl_UnionRel_1_L7 a b sQ) := by
  unfold C_impl_combined__impl_UnionRel_1_L7 F_impl_combined__impl_UnionRel_1_L7
  repeat' (first | with_reducible exact Le.refl _ | with_reducible exact C_impl_UnionRel_1_le .. | with_reducible refine Le.gd _ ?_ | with_reducible refine Le.bif _ ?_ ?_ | with_reducible refine Le.bind ?_ (fun _ => ?_) | with_reducible refine Le.sumK ?_ (fun _ => ?_) | with_reducible refine Le.loop (fun _ => ?_) _ | with_reducible refine Le.nilK ?_ ?_ | with_reducible refine Le.ifc _ ?_ ?_)
noncomputable def C_impl_combined__impl_UnionRel_1 (a : List Int) (b : List Int) : Option (List Int) :=
  Option.bind (C_impl_areRels a b) fun v1 =>
  bif !v1 then
    some ([] : List Int)
  else
    gd (decide (0 ≤ (a.length : Int) ∧ (a.length : Int) ≤ (a.length : Int) ∧ (a.length : Int) * ((8 : Nat) : Int) ≤ 140737488355328 ∧ (a.length : Int) ≤ 140737488355328)) <|
    Option.bind (
      loopN' 25 (C_impl_combined__impl_UnionRel_1_L7 a b) ((List.replicate (a.length : Int).toNat (default : Int)), (0 : Int))
    ) fun s4 =>
    some s4
theorem C_impl_combined__impl_UnionRel_1_le (a : List Int) (b : List Int) : Le (C_impl_combined__impl_UnionRel_1 a b) (F_impl_combined__impl_UnionRel_1 a b) := by
  unfold C_impl_combined__impl_UnionRel_1 F_impl_combined__impl_UnionRel_1
  repeat' (first | with_reducible exact Le.refl _ | with_reducible exact C_impl_areRels_le .. | with_reducible exact C_impl_combined__impl_UnionRel_1_L7_le .. | with_reducible refine Le.gd _ ?_ | with_reducible refine Le.bif _ ?_ ?_ | with_reducible refine Le.bind ?_ (fun _ => ?_) | with_reducible refine Le.sumK ?_ (fun _ => ?_) | with_reducible refine Le.loop (fun _ => ?_) _ | with_reducible refine Le.nilK ?_ ?_ | with_reducible refine Le.ifc _ ?_ ?_)
noncomputable def C_impl_UnionRel (a : List Int) (b : List Int) : Option (List Int) :=
  Option.bind (C_impl_combined__impl_UnionRel_1 a b) fun v1 =>
  some v1
theorem C_impl_UnionRel_le (a : List Int) (b : List Int) : Le (C_impl_UnionRel a b) (F_impl_UnionRel a b) := by
  unfold C_impl_UnionRel F_impl_UnionRel
  repeat' (first | with_reducible exact Le.refl _ | with_reducible exact C_impl_combined__impl_UnionRel_1_le .. | with_reducible refine Le.gd _ ?_ | with_reducible refine Le.bif _ ?_ ?_ | with_reducible refine Le.bind ?_ (fun _ => ?_) | with_reducible refine Le.sumK ?_ (fun _ => ?_) | with_reducible refine Le.loop (fun _ => ?_) _ | with_reducible refine Le.nilK ?_ ?_ | with_reducible refine Le.ifc _ ?_ ?_)
noncomputable def C_slices_Clone_int_int (s : List Int) : Option (List Int) :=
  nilK' (s.isEmpty) (
    some ([] : List Int)
  ) (
    gd (capOK (([] : List Int).length + s.length) 8) <|
    some (([] : List Int) ++ s)
  )
theorem C_slices_Clone_int_int_le (s : List Int) : Le (C_slices_Clone_int_int s) (F_slices_Clone_int_int s) := by
  unfold C_slices_Clone_int_int F_slices_Clone_int_int
  repeat' (first | with_reducible exact Le.refl _ | with_reducible refine Le.gd _ ?_ | with_reducible refine Le.bif _ ?_ ?_ | with_reducible refine Le.bind ?_ (fun _ => ?_) | with_reducible refine Le.sumK ?_ (fun _ => ?_) | with_reducible refine Le.loop (fun _ => ?_) _ | with_reducible refine Le.nilK ?_ ?_ | with_reducible refine Le.ifc _ ?_ ?_)
noncomputable def C_impl_ClosureRel_L25 (s14 : (List Int) × Int) : ((List Int) × Int) → Option (((List Int) × Int) ⊕ (List Int)) := fun s24 =>
  bif decide (s24.2 < (s14.1.length : Int)) then
    Option.bind (
      Option.bind (C_impl_related s24.1 s24.2 s14.2) fun v31 =>
      bif v31 then
        gd (decide (0 ≤ s24.2 ∧ s24.2 < (s24.1.length : Int))) <|
        gd (decide (0 ≤ s14.2 ∧ s14.2 < (s24.1.length : Int))) <|
        some (s24.1.set s24.2.toNat (bOr .i64 (s24.1.getD s24.2.toNat default) (s24.1.getD s14.2.toNat default)))
      else
        some s24.1
    ) fun s30 =>
    gd (inK .i64 (s24.2 + (1 : Int))) <|
    some (.inl (s30, (s24.2 + (1 : Int))))
  else
    some (.inr s24.1)
theorem C_impl_ClosureRel_L25_le (s14 : (List Int) × Int) (sQ : _) : Le (C_impl_ClosureRel_L25 s14 sQ) (F_impl_ClosureRel_L25 s14 sQ) := by
  unfold C_impl_ClosureRel_L25 F_impl_ClosureRel_L25
  repeat' (first | with_reducible exact Le.refl _ | with_reducible exact C_impl_related_le .. | with_reducible refine Le.gd _ ?_ | with_reducible refine Le.bif _ ?_ ?_ | with_reducible refine Le.bind ?_ (fun _ => ?_) | with_reducible refine Le.sumK ?_ (fun _ => ?_) | with_reducible refine Le.loop (fun _ => ?_) _ | with_reducible refine Le.nilK ?_ ?_ | with_reducible refine Le.ifc _ ?_ ?_)
noncomputable def C_impl_ClosureRel_L15 (v3 : (List Int)) : ((List Int) × Int) → Option (((List Int) × Int) ⊕ (List Int)) := fun s14 =>
  bif decide (s14.2 < (v3.length : Int)) then
    Option.bind (
      loopN' 25 (C_impl_ClosureRel_L25 s14) (s14.1, (0 : Int))
    ) fun s20 =>
    gd (inK .i64 (s14.2 + (1 : Int))) <|
    some (.inl (s20, (s14.2 + (1 : Int))))
  else
    some (.inr s14.1)
theorem C_impl_ClosureRel_L15_le (v3 : (List Int)) (sQ : _) : Le (C_impl_ClosureRel_L15 v3 sQ) (F_impl_ClosureRel_L15 v3 sQ) := by
  unfold C_impl_ClosureRel_L15 F_impl_ClosureRel_L15
  repeat' (first | with_reducible exact Le.refl _ | with_reducible exact C_impl_ClosureRel_L25_le .. | with_reducible refine Le.gd _ ?_ | with_reducible refine Le.bif _ ?_ ?_ | with_reducible refine Le.bind ?_ (fun _ => ?_) | with_reducible refine Le.sumK ?_ (fun _ => ?_) | with_reducible refine Le.loop (fun _ => ?_) _ | with_reducible refine Le.nilK ?_ ?_ | with_reducible refine Le.ifc _ ?_ ?_)
noncomputable def C_impl_ClosureRel (r_ : List Int) : Option (List Int) :=
  Option.bind (C_impl_RelValid r_) fun v1 =>
  bif !v1 then
    some ([] : List Int)
  else
    Option.bind (C_slices_Clone_int_int r_) fun v3 =>
    Option.bind (
      loopN' 25 (C_impl_ClosureRel_L15 v3) (v3, (0 : Int))
    ) fun s7 =>
    some s7
theorem C_impl_ClosureRel_le (r_ : List Int) : Le (C_impl_ClosureRel r_) (F_impl_ClosureRel r_) := by
  unfold C_impl_ClosureRel F_impl_ClosureRel
  repeat' (first | with_reducible exact Le.refl _ | with_reducible exact C_impl_RelValid_le .. | with_reducible exact C_slices_Clone_int_int_le .. | with_reducible exact C_impl_ClosureRel_L15_le .. | with_reducible refine Le.gd _ ?_ | with_reducible refine Le.bif _ ?_ ?_ | with_reducible refine Le.bind ?_ (fun _ => ?_) | with_reducible refine Le.sumK ?_ (fun _ => ?_) | with_reducible refine Le.loop (fun _ => ?_) _ | with_reducible refine Le.nilK ?_ ?_ | with_reducible refine Le.ifc _ ?_ ?_)
noncomputable def C_impl_InverseRel_1 (i : Int) (k_ : Int) (a2 : List Int) : Option Bool :=
  Option.bind (C_impl_related a2 k_ i) fun v1 =>
  some v1
theorem C_impl_InverseRel_1_le (i : Int) (k_ : Int) (a2 : List Int) : Le (C_impl_InverseRel_1 i k_ a2) (F_impl_InverseRel_1 i k_ a2) := by
  unfold C_impl_InverseRel_1 F_impl_InverseRel_1
  repeat' (first | with_reducible exact Le.refl _ | with_reducible exact C_impl_related_le .. | with_reducible refine Le.gd _ ?_ | with_reducible refine Le.bif _ ?_ ?_ | with_reducible refine Le.bind ?_ (fun _ => ?_) | with_reducible refine Le.sumK ?_ (fun _ => ?_) | with_reducible refine Le.loop (fun _ => ?_) _ | with_reducible refine Le.nilK ?_ ?_ | with_reducible refine Le.ifc _ ?_ ?_)
noncomputable def C_impl_pairsOf__impl_InverseRel_1_L11 (n : Int) (is0 : List Int) (s4 : (List Int) × Int) : ((List Int) × Int) → Option (((List Int) × Int) ⊕ (List Int)) := fun s10 =>
  bif decide (s10.2 < n) then
    Option.bind (
      Option.bind (C_impl_InverseRel_1 s4.2 s10.2 is0) fun v15 =>
      bif v15 then
        gd (decide (0 ≤ s4.2 ∧ s4.2 < (s10.1.length : Int))) <|
        gd (decide (0 ≤ s10.2)) <|
        some (s10.1.set s4.2.toNat (bOr .i64 (s10.1.getD s4.2.toNat default) (bShl .i64 (1 : Int) s10.2)))
      else
        some s10.1
    ) fun s14 =>
    gd (inK .i64 (s10.2 + (1 : Int))) <|
    some (.inl (s14, (s10.2 + (1 : Int))))
  else
    some (.inr s10.1)
theorem C_impl_pairsOf__impl_InverseRel_1_L11_le (n : Int) (is0 : List Int) (s4 : (List Int) × Int) (sQ : _) : Le (C_impl_pairsOf__impl_InverseRel_1_L11 n is0 s4 sQ) (F_impl_pairsOf__impl_InverseRel_1_L11 n is0 s4 sQ) := by
  unfold C_impl_pairsOf__impl_InverseRel_1_L11 F_impl_pairsOf__impl_InverseRel_1_L11
  repeat' (first | with_reducible exact Le.refl _ | with_reducible exact C_impl_InverseRel_1_le .. | with_reducible refine Le.gd _ ?_ | with_reducible refine Le.bif _ ?_ ?_ | with_reducible refine Le.bind ?_ (fun _ => ?_) | with_reducible refine Le.sumK ?_ (fun _ => ?_) | with_reducible refine Le.loop (fun _ => ?_) _ | with_reducible refine Le.nilK ?_ ?_ | with_reducible refine Le.ifc _ ?_ ?_)
noncomputable def C_impl_pairsOf__impl_InverseRel_1_L5 (n : Int) (is0 : List Int) : ((List Int) × Int) → Option (((List Int) × Int) ⊕ (List Int)) := fun s4 =>
  bif decide (s4.2 < n) then
    Option.bind (
      loopN' 25 (C_impl_pairsOf__impl_InverseRel_1_L11 n is0 s4) (s4.1, (0 : Int))
    ) fun s8 =>
    gd (inK .i64 (s4.2 + (1 : Int))) <|
    some (.inl (s8, (s4.2 + (1 : Int))))
  else
    some (.inr s4.1)
theorem C_impl_pairsOf__impl_InverseRel_1_L5_le (n : Int) (is0 : List Int) (sQ : _) : Le (C_impl_pairsOf__impl_InverseRel_1_L5 n is0 sQ) (F_impl_pairsOf__impl_InverseRel_1_L5 n is0 sQ) := by
  unfold C_impl_pairsOf__impl_InverseRel_1_L5 F_impl_pairsOf__impl_InverseRel_1_L5
  repeat' (first | with_reducible exact Le.refl _ | with_reducible exact C_impl_pairsOf__impl_InverseRel_1_L11_le .. | with_reducible refine Le.gd _ ?_ | with_reducible refine Le.bif _ ?_ ?_ | with_reducible refine Le.bind ?_ (fun _ => ?_) | with_reducible refine Le.sumK ?_ (fun _ => ?_) | with_reducible refine Le.loop (fun _ => ?_) _ | with_reducible refine Le.nilK ?_ ?_ | with_reducible refine Le.ifc _ ?_ ?_)
noncomputable def C_impl_pairsOf__impl_InverseRel_1 (n : Int) (is0 : List Int) : Option (List Int) :=
  gd (decide (0 ≤ n ∧ n ≤ n ∧ n * ((8 : Nat) : Int) ≤ 140737488355328 ∧ n ≤ 140737488355328)) <|
  Option.bind (
    loopN' 25 (C_impl_pairsOf__impl_InverseRel_1_L5 n is0) ((List.replicate n.toNat (default : Int)), (0 : Int))
  ) fun s2 =>
  some s2
theorem C_impl_pairsOf__impl_InverseRel_1_le (n : Int) (is0 : List Int) : Le (C_impl_pairsOf__impl_InverseRel_1 n is0) (F_impl_pairsOf__impl_InverseRel_1 n is0) := by
  unfold C_impl_pairsOf__impl_InverseRel_1 F_impl_pairsOf__impl_InverseRel_1
  repeat' (first | with_reducible exact Le.refl _ | with_reducible exact C_impl_pairsOf__impl_InverseRel_1_L5_le .. | with_reducible refine Le.gd _ ?_ | with_reducible refine Le.bif _ ?_ ?_ | with_reducible refine Le.bind ?_ (fun _ => ?_) | with_reducible refine Le.sumK ?_ (fun _ => ?_) | with_reducible refine Le.loop (fun _ => ?_) _ | with_reducible refine Le.nilK ?_ ?_ | with_reducible refine Le.ifc _ ?_ ?_)
noncomputable def C_impl_InverseRel (r_ : List Int) : Option (List Int) :=
  Option.bind (C_impl_RelValid r_) fun v1 =>
  bif !v1 then
    some ([] : List Int)
  else
    Option.bind (C_impl_pairsOf__impl_InverseRel_1 (r_.length : Int) r_) fun v3 =>
    some v3
theorem C_impl_InverseRel_le (r_ : List Int) : Le (C_impl_InverseRel r_) (F_impl_InverseRel r_) := by
  unfold C_impl_InverseRel F_impl_InverseRel
  repeat' (first | with_reducible exact Le.refl _ | with_reducible exact C_impl_RelValid_le .. | with_reducible exact C_impl_pairsOf__impl_InverseRel_1_le .. | with_reducible refine Le.gd _ ?_ | with_reducible refine Le.bif _ ?_ ?_ | with_reducible refine Le.bind ?_ (fun _ => ?_) | with_reducible refine Le.sumK ?_ (fun _ => ?_) | with_reducible refine Le.loop (fun _ => ?_) _ | with_reducible refine Le.nilK ?_ ?_ | with_reducible refine Le.ifc _ ?_ ?_)
noncomputable def C_impl_MeetRel_1 (x : Int) (y : Int) : Option Int :=
  some (bAnd .i64 x y)
theorem C_impl_MeetRel_1_le (x : Int) (y : Int) : Le (C_impl_MeetRel_1 x y) (F_impl_MeetRel_1 x y) := by
  unfold C_impl_MeetRel_1 F_impl_MeetRel_1
  repeat' (first | with_reducible exact Le.refl _ | with_reducible refine Le.gd _ ?_ | with_reducible refine Le.bif _ ?_ ?_ | with_reducible refine Le.bind ?_ (fun _ => ?_) | with_reducible refine Le.sumK ?_ (fun _ => ?_) | with_reducible refine Le.loop (fun _ => ?_) _ | with_reducible refine Le.nilK ?_ ?_ | with_reducible refine Le.ifc _ ?_ ?_)
noncomputable def C_impl_combined__impl_MeetRel_1_L7 (a : List Int) (b : List Int) : ((List Int) × Int) → Option (((List Int) × Int) ⊕ (List Int)) := fun s6 =>
  bif decide (s6.2 < (a.length : Int)) then
    gd (decide (0 ≤ s6.2 ∧ s6.2 < (a.length : Int))) <|
    gd (decide (0 ≤ s6.2 ∧ s6.2 < (b.length : Int))) <|
    Option.bind (C_impl_MeetRel_1 (a.getD s6.2.toNat default) (b.getD s6.2.toNat default)) fun v12 =>
    gd (decide (0 ≤ s6.2 ∧ s6.2 < (s6.1.length : Int))) <|
    gd (inK .i64 (s6.2 + (1 : Int))) <|
    some (.inl ((s6.1.set s6.2.toNat v12), (s6.2 + (1 : Int))))
  else
    some (.inr s6.1)
theorem C_impl_combined__impl_MeetRel_1_L7_le (a : List Int) (b : List Int) (sQ : _) : Le (C_impl_combined__impl_MeetRel_1_L7 a b sQ) (F_impl_combined__impl_MeetRel_1_L7 a b sQ) := by
  unfold C_impl_combined__impl_MeetRel_1_L7 F_impl_combined__impl_MeetRel_1_L7
  repeat' (first | with_reducible exact Le.refl _ | with_reducible exact C_impl_MeetRel_1_le .. | with_reducible refine Le.gd _ ?_ | with_reducible refine Le.bif _ ?_ ?_ | with_reducible refine Le.bind ?_ (fun _ => ?_) | with_reducible refine Le.sumK ?_ (fun _ => ?_) | with_reducible refine Le.loop (fun _ => ?_) _ | with_reducible refine Le.nilK ?_ ?_ | with_reducible refine Le.ifc _ ?_ ?_)
noncomputable def C_impl_combined__impl_MeetRel_1 (a : List Int) (b : List Int) : Option (List Int) :=
  Option.bind (C_impl_areRels a b) fun v1 =>
  bif !v1 then
    some ([] : List Int)
  else
    gd (decide (0 ≤ (a.length : Int) ∧ (a.length : Int) ≤ (a.length : Int) ∧ (a.length : Int) * ((8 : Nat) : Int) ≤ 140737488355328 ∧ (a.length : Int) ≤ 140737488355328)) <|
    Option.bind (
      loopN' 25 (C_impl_combined__impl_MeetRel_1_L7 a b) ((List.replicate (a.length : Int).toNat (default : Int)), (0 : Int))
    ) fun s4 =>
    some s4
theorem C_impl_combined__impl_MeetRel_1_le (a : List Int) (b : List Int) : Le (C_impl_combined__impl_MeetRel_1 a b) (F_impl_combined__impl_MeetRel_1 a b) := by
  unfold C_impl_combined__impl_MeetRel_1 F_impl_combined__impl_MeetRel_1
  repeat' (first | with_reducible exact Le.refl _ | with_reducible exact C_impl_areRels_le .. | with_reducible exact C_impl_combined__impl_MeetRel_1_L7_le .. | with_reducible refine Le.gd _ ?_ | with_reducible refine Le.bif _ ?_ ?_ | with_reducible refine Le.bind ?_ (fun _ => ?_) | with_reducible refine Le.sumK ?_ (fun _ => ?_) | with_reducible refine Le.loop (fun _ => ?_) _ | with_reducible refine Le.nilK ?_ ?_ | with_reducible refine Le.ifc _ ?_ ?_)
noncomputable def C_impl_MeetRel (a : List Int) (b : List Int) : Option (List Int) :=
  Option.bind (C_impl_combined__impl_MeetRel_1 a b) fun v1 =>
  some v1
theorem C_impl_MeetRel_le (a : List Int) (b : List Int) : Le (C_impl_MeetRel a b) (F_impl_MeetRel a b) := by
  unfold C_impl_MeetRel F_impl_MeetRel
  repeat' (first | with_reducible exact Le.refl _ | with_reducible exact C_impl_combined__impl_MeetRel_1_le .. | with_reducible refine Le.gd _ ?_ | with_reducible refine Le.bif _ ?_ ?_ | with_reducible refine Le.bind ?_ (fun _ => ?_) | with_reducible refine Le.sumK ?_ (fun _ => ?_) | with_reducible refine Le.loop (fun _ => ?_) _ | with_reducible refine Le.nilK ?_ ?_ | with_reducible refine Le.ifc _ ?_ ?_)
noncomputable def C_impl_delayRel (p : List (List Ximpl_Instr)) : Option (List Int) :=
  Option.bind (C_impl_events p) fun v1 =>
  Option.bind (C_impl_pairsOf__impl_delayRel_1 (v1.length : Int) v1) fun v2 =>
  Option.bind (C_impl_conflictRel p) fun v3 =>
  Option.bind (C_impl_ComposeRel v3 v3) fun v4 =>
  Option.bind (C_impl_UnionRel v3 v2) fun v5 =>
  Option.bind (C_impl_ClosureRel v5) fun v6 =>
  Option.bind (C_impl_ComposeRel v3 v6) fun v7 =>
  Option.bind (C_impl_ComposeRel v7 v3) fun v8 =>
  Option.bind (C_impl_UnionRel v4 v8) fun v9 =>
  Option.bind (C_impl_InverseRel v9) fun v10 =>
  Option.bind (C_impl_MeetRel v2 v10) fun v11 =>
  some v11
theorem C_impl_delayRel_le (p : List (List Ximpl_Instr)) : Le (C_impl_delayRel p) (F_impl_delayRel p) := by
  unfold C_impl_delayRel F_impl_delayRel
  repeat' (first | with_reducible exact Le.refl _ | with_reducible exact C_impl_events_le .. | with_reducible exact C_impl_pairsOf__impl_delayRel_1_le .. | with_reducible exact C_impl_conflictRel_le .. | with_reducible exact C_impl_ComposeRel_le .. | with_reducible exact C_impl_UnionRel_le .. | with_reducible exact C_impl_ClosureRel_le .. | with_reducible exact C_impl_InverseRel_le .. | with_reducible exact C_impl_MeetRel_le .. | with_reducible refine Le.gd _ ?_ | with_reducible refine Le.bif _ ?_ ?_ | with_reducible refine Le.bind ?_ (fun _ => ?_) | with_reducible refine Le.sumK ?_ (fun _ => ?_) | with_reducible refine Le.loop (fun _ => ?_) _ | with_reducible refine Le.nilK ?_ ?_ | with_reducible refine Le.ifc _ ?_ ?_)
noncomputable def C_math_bits_OnesCount (x : Int) : Option Int :=
  Option.bind (F_math_bits_OnesCount64 x) fun v1 =>
  some v1
theorem C_math_bits_OnesCount_le (x : Int) : Le (C_math_bits_OnesCount x) (F_math_bits_OnesCount x) := by
  unfold C_math_bits_OnesCount F_math_bits_OnesCount
  repeat' (first | with_reducible exact Le.refl _ | with_reducible refine Le.gd _ ?_ | with_reducible refine Le.bif _ ?_ ?_ | with_reducible refine Le.bind ?_ (fun _ => ?_) | with_reducible refine Le.sumK ?_ (fun _ => ?_) | with_reducible refine Le.loop (fun _ => ?_) _ | with_reducible refine Le.nilK ?_ ?_ | with_reducible refine Le.ifc _ ?_ ?_)
noncomputable def C_impl_CountRel_L5 (r_ : List Int) : (Int × Int) → Option ((Int × Int) ⊕ Int) := fun s4 =>
  bif decide (s4.1 < (r_.length : Int)) then
    gd (decide (0 ≤ s4.1 ∧ s4.1 < (r_.length : Int))) <|
    gd (inK .u64 (r_.getD s4.1.toNat default)) <|
    Option.bind (C_math_bits_OnesCount (r_.getD s4.1.toNat default)) fun v9 =>
    gd (inK .i64 (s4.2 + v9)) <|
    gd (inK .i64 (s4.1 + (1 : Int))) <|
    some (.inl ((s4.1 + (1 : Int)), (s4.2 + v9)))
  else
    some (.inr s4.2)
theorem C_impl_CountRel_L5_le (r_ : List Int) (sQ : _) : Le (C_impl_CountRel_L5 r_ sQ) (F_impl_CountRel_L5 r_ sQ) := by
  unfold C_impl_CountRel_L5 F_impl_CountRel_L5
  repeat' (first | with_reducible exact Le.refl _ | with_reducible exact C_math_bits_OnesCount_le .. | with_reducible refine Le.gd _ ?_ | with_reducible refine Le.bif _ ?_ ?_ | with_reducible refine Le.bind ?_ (fun _ => ?_) | with_reducible refine Le.sumK ?_ (fun _ => ?_) | with_reducible refine Le.loop (fun _ => ?_) _ | with_reducible refine Le.nilK ?_ ?_ | with_reducible refine Le.ifc _ ?_ ?_)
noncomputable def C_impl_CountRel (r_ : List Int) : Option Int :=
  Option.bind (C_impl_RelValid r_) fun v1 =>
  bif !v1 then
    some (0 : Int)
  else
    Option.bind (
      loopN' 25 (C_impl_CountRel_L5 r_) ((0 : Int), (0 : Int))
    ) fun s3 =>
    some s3
theorem C_impl_CountRel_le (r_ : List Int) : Le (C_impl_CountRel r_) (F_impl_CountRel r_) := by
  unfold C_impl_CountRel F_impl_CountRel
  repeat' (first | with_reducible exact Le.refl _ | with_reducible exact C_impl_RelValid_le .. | with_reducible exact C_impl_CountRel_L5_le .. | with_reducible refine Le.gd _ ?_ | with_reducible refine Le.bif _ ?_ ?_ | with_reducible refine Le.bind ?_ (fun _ => ?_) | with_reducible refine Le.sumK ?_ (fun _ => ?_) | with_reducible refine Le.loop (fun _ => ?_) _ | with_reducible refine Le.nilK ?_ ?_ | with_reducible refine Le.ifc _ ?_ ?_)
end Go.Proofs.Ytjogdblionfmiaa
