/-
  The program's code computes the functions over plain values; printed by lift.py. No conditions.
-/
import Derived.Test.YtjogdblionfmiaaDoorSEd
import Derived.Test.YtjogdblionfmiaaDoorSf
import Derived.Test.YtjogdblionfmiaaDoorBrV
import Derived.Test.YtjogdblionfmiaaDoorSR1
namespace Go.Proofs.YtjogdblionfmiaaDoor
open Go.RowKit
set_option maxRecDepth 100000
theorem F_impl_Instr_reads_P (x : Ximpl_Instr) {q : Bool} (h : F_impl_Instr_reads x = some q) : PCall Tryd.prog 43 [.agg (Ximpl_Instr.c x)] (Bo q) := by
  refine PCall.mkT Tryd.func43 rfl (by kernel_rfl) rfl (by kernel_rfl) (e0 := envOf [(0, .agg (Ximpl_Instr.c x))]) (weak_cons rfl weak_nil) ?_
  refine T.seq ?_
  refine T.region ?_
  refine oN (EvN.bxF [I x.Op, I x.Loc, I x.Reg, I x.Val] rfl rfl rfl) ?_
  refine oN (EvN.asg (Bo false) rfl) ?_
  refine TO.nil ?_
  refine T.seq ?_
  refine T.region ?_
  refine oN (EvN.fafp Tryd.underlying39 rfl (by kernel_rfl) rfl) ?_
  refine oN (EvN.loadfp (I x.Op) ty3 rfl rfl) ?_
  refine oN (EvN.ieq rfl rfl) ?_
  refine oN (EvN.mv (Bo (x.Op == (1 : Int))) rfl) ?_
  obtain ⟨s1, h, ks1⟩ := bindL h
  refine TO.joinF (G := Unit) 4 (fun _ => True) (fun _ => [(10, Bo s1)]) (fun _ => []) ?_ (fun js1 => ?_)
  rotate_left
  · clear ks1
    rcases bifL h with ⟨q2, h⟩ | ⟨q2, h⟩
    · refine gS rfl q2 ?_
      refine gS rfl q2 ?_
      refine gS rfl q2 ?_
      refine oN (EvN.pickT rfl q2 (Bo true) rfl) ?_
      obtain rfl := Option.some.inj h
      exact js1 _ _ ⟨(), trivial, cutW rfl (weak_cons rfl weak_nil)⟩
    · refine gN rfl q2 (EvN.fafp Tryd.underlying39 rfl (by kernel_rfl) rfl) ?_
      refine gN rfl q2 (EvN.loadfp (I x.Op) ty3 rfl rfl) ?_
      refine gN rfl q2 (EvN.ieq rfl rfl) ?_
      refine oN (EvN.pickF rfl q2 (Bo (x.Op == (5 : Int))) rfl) ?_
      obtain rfl := Option.some.inj h
      exact js1 _ _ ⟨(), trivial, cutW rfl (weak_cons rfl weak_nil)⟩
  · intro _ _
    replace h := ks1
    clear ks1
    refine oN (EvN.asg (Bo s1) rfl) ?_
    refine TO.nil ?_
    refine T.ret ?_
    obtain rfl := Option.some.inj h
    repeat first | refine retS ?_ | refine retB ?_
    exact Fin.ret (vs := [Bo s1]) (.cons (.tmp rfl) .nil) (.of_isF 9 _ rfl)

theorem F_impl_Instr_writes_P (x : Ximpl_Instr) {q : Bool} (h : F_impl_Instr_writes x = some q) : PCall Tryd.prog 44 [.agg (Ximpl_Instr.c x)] (Bo q) := by
  refine PCall.mkT Tryd.func44 rfl (by kernel_rfl) rfl (by kernel_rfl) (e0 := envOf [(0, .agg (Ximpl_Instr.c x))]) (weak_cons rfl weak_nil) ?_
  refine T.seq ?_
  refine T.region ?_
  refine oN (EvN.bxF [I x.Op, I x.Loc, I x.Reg, I x.Val] rfl rfl rfl) ?_
  refine oN (EvN.asg (Bo false) rfl) ?_
  refine TO.nil ?_
  refine T.seq ?_
  refine T.region ?_
  refine oN (EvN.fafp Tryd.underlying39 rfl (by kernel_rfl) rfl) ?_
  refine oN (EvN.loadfp (I x.Op) ty3 rfl rfl) ?_
  refine oN (EvN.ieq rfl rfl) ?_
  refine oN (EvN.mv (Bo (x.Op == (2 : Int))) rfl) ?_
  obtain ⟨s1, h, ks1⟩ := bindL h
  refine TO.joinF (G := Unit) 4 (fun _ => True) (fun _ => [(10, Bo s1), (1, .fp (Ximpl_Instr.c x) 0)]) (fun _ => []) ?_ (fun js1 => ?_)
  rotate_left
  · clear ks1
    rcases bifL h with ⟨q2, h⟩ | ⟨q2, h⟩
    · refine gS rfl q2 ?_
      refine gS rfl q2 ?_
      refine gS rfl q2 ?_
      refine oN (EvN.pickT rfl q2 (Bo true) rfl) ?_
      obtain rfl := Option.some.inj h
      exact js1 _ _ ⟨(), trivial, cutW rfl (weak_cons rfl (weak_cons rfl weak_nil))⟩
    · refine gN rfl q2 (EvN.fafp Tryd.underlying39 rfl (by kernel_rfl) rfl) ?_
      refine gN rfl q2 (EvN.loadfp (I x.Op) ty3 rfl rfl) ?_
      refine gN rfl q2 (EvN.ieq rfl rfl) ?_
      refine oN (EvN.pickF rfl q2 (Bo (x.Op == (3 : Int))) rfl) ?_
      obtain rfl := Option.some.inj h
      exact js1 _ _ ⟨(), trivial, cutW rfl (weak_cons rfl (weak_cons rfl weak_nil))⟩
  · intro _ _
    replace h := ks1
    clear ks1
    refine oN (EvN.mv (Bo s1) rfl) ?_
    obtain ⟨s3, h, ks3⟩ := bindL h
    refine TO.joinF (G := Unit) 4 (fun _ => True) (fun _ => [(15, Bo s3)]) (fun _ => []) ?_ (fun js3 => ?_)
    rotate_left
    · clear ks3
      rcases bifL h with ⟨q4, h⟩ | ⟨q4, h⟩
      · refine gS rfl q4 ?_
        refine gS rfl q4 ?_
        refine gS rfl q4 ?_
        refine oN (EvN.pickT rfl q4 (Bo true) rfl) ?_
        obtain rfl := Option.some.inj h
        exact js3 _ _ ⟨(), trivial, cutW rfl (weak_cons rfl weak_nil)⟩
      · refine gN rfl q4 (EvN.fafp Tryd.underlying39 rfl (by kernel_rfl) rfl) ?_
        refine gN rfl q4 (EvN.loadfp (I x.Op) ty3 rfl rfl) ?_
        refine gN rfl q4 (EvN.ieq rfl rfl) ?_
        refine oN (EvN.pickF rfl q4 (Bo (x.Op == (5 : Int))) rfl) ?_
        obtain rfl := Option.some.inj h
        exact js3 _ _ ⟨(), trivial, cutW rfl (weak_cons rfl weak_nil)⟩
    · intro _ _
      replace h := ks3
      clear ks3
      refine oN (EvN.asg (Bo s3) rfl) ?_
      refine TO.nil ?_
      refine T.ret ?_
      obtain rfl := Option.some.inj h
      repeat first | refine retS ?_ | refine retB ?_
      exact Fin.ret (vs := [Bo s3]) (.cons (.tmp rfl) .nil) (.of_isF 9 _ rfl)

theorem F_impl_events_P (p : List (List Ximpl_Instr)) {q : (List Ximpl_Event)} (h : F_impl_events p = some q) : PCall Tryd.prog 26 [eL (cL Ximpl_Instr.c) p] (eL Ximpl_Event.c q) := by
  refine PCall.mkT Tryd.func26 rfl (by kernel_rfl) rfl (by kernel_rfl) (e0 := envOf [(0, eL (cL Ximpl_Instr.c) p)]) (weak_cons rfl weak_nil) ?_
  refine T.seq ?_
  refine T.region ?_
  refine oN (EvN.asg (.nil) rfl) ?_
  refine TO.nil ?_
  refine T.seq ?_
  refine T.reserve ?_
  refine T.region ?_
  refine oN (EvN.asg (hS true 0 0 5 (([] : List Ximpl_Event).length)) rfl) ?_
  refine TO.nil ?_
  obtain ⟨s1, h, ks1⟩ := bindL h
  refine T.joinF (G := (Bool × Nat)) (fun gh => (gh.1 = true → s1 = [])) (fun gh => [(3, hS gh.1 0 gh.2 5 s1.length), (0, eL (cL Ximpl_Instr.c) p)]) (fun gh => [bE gh.1 gh.2 5 35 (s1.map Ximpl_Event.c)]) (fun gh n15 => ?_) ?_
  · clear h
    have h := ks1
    clear ks1
    obtain ⟨b14, u13⟩ := gh
    obtain ⟨s16, h, ks16⟩ := bindL h
    refine T.joinF (G := (Bool × Nat)) (fun gh => (gh.1 = true → s16 = [])) (fun gh => [(3, hS gh.1 0 gh.2 5 s16.length)]) (fun gh => [bE gh.1 gh.2 5 35 (s16.map Ximpl_Event.c)]) (fun gh n53 => ?_) ?_
    · clear h
      have h := ks16
      clear ks16
      obtain ⟨b52, u51⟩ := gh
      refine T.seq ?_
      refine T.region ?_
      refine oN (EvN.mv (hS b52 0 u51 5 s16.length) rfl) ?_
      refine oN (EvN.asg (hS b52 0 u51 5 s16.length) rfl) ?_
      refine TO.nil ?_
      refine T.ret ?_
      obtain rfl := Option.some.inj h
      repeat first | refine retS ?_ | refine retB ?_
      exact Fin.ret (vs := [hS b52 0 u51 5 s16.length]) (.cons (.tmp rfl) .nil) (Fz.own (g := b52) (ver := u51) (l := s16) rfl rfl rfl n53 Ximpl_Event.isF)
    · clear ks16
      refine T.seq ?_
      refine T.region ?_
      refine oN (EvN.mv (eL (cL Ximpl_Instr.c) p) rfl) ?_
      refine oN (EvN.lenL sl25 rfl) ?_
      refine oN (EvN.mv (I (0 : Int)) rfl) ?_
      refine TO.nil ?_
      refine T.block ?_
      refine T.loop (S := (List Ximpl_Event) × Int) (G := (Bool × Nat)) (F_impl_events_L21 p) (fun s20 gh => (gh.1 = true → s20.1 = [])) (fun s20 gh => [(21, I s20.2), (20, I (p.length : Int)), (19, eL (cL Ximpl_Instr.c) p), (3, hS gh.1 0 gh.2 5 s20.1.length)]) (fun s20 gh => [bE gh.1 gh.2 5 35 (s20.1.map Ximpl_Event.c)]) (s0 := (s1, (0 : Int))) (b14, u13) h n15 (cutW rfl (weak_cons rfl (weak_cons rfl (weak_cons rfl (weak_cons rfl weak_nil))))) (fun s20 gh ws20 h n24 => ?_)
      obtain ⟨b23, u22⟩ := gh
      refine T.seq ?_
      refine T.region ?_
      refine oN (EvN.ilt rfl rfl) ?_
      refine TO.nil ?_
      refine T.seq ?_
      refine T.cond rfl (fun q25 => ?_) (fun q25 => ?_)
      · replace h := condT q25 h
        refine T.skip ?_
        obtain ⟨s26, h, ks26⟩ := bindL h
        refine T.joinF (G := (Bool × Nat)) (fun gh => (gh.1 = true → s26 = [])) (fun gh => [(21, I s20.2), (20, I (p.length : Int)), (19, eL (cL Ximpl_Instr.c) p), (3, hS gh.1 0 gh.2 5 s26.length)]) (fun gh => [bE gh.1 gh.2 5 35 (s26.map Ximpl_Event.c)]) (fun gh n49 => ?_) ?_
        · clear h
          have h := ks26
          clear ks26
          obtain ⟨b48, u47⟩ := gh
          refine T.region ?_
          obtain ⟨g50, h⟩ := gdW h
          refine oN (EvN.add rfl rfl g50) ?_
          refine oN (EvN.mv (I (s20.2 + (1 : Int))) rfl) ?_
          refine TO.nil ?_
          obtain rfl := Option.some.inj h
          exact ⟨(s26, (s20.2 + (1 : Int))), (b48, u47), rfl, n49, cutW rfl (weak_cons rfl (weak_cons rfl (weak_cons rfl (weak_cons rfl weak_nil))))⟩
        · clear ks26
          refine T.block ?_
          refine T.seq ?_
          refine T.region ?_
          refine oN (EvN.mv (I s20.2) rfl) ?_
          obtain ⟨g27, h⟩ := gdD h
          refine oN (EvN.ixL sl25 rfl rfl g27 (fun _ => rfl)) ?_
          refine oN (EvN.loadfp (eL Ximpl_Instr.c (p.getD s20.2.toNat default)) ty40 rfl rfl) ?_
          refine oN (EvN.asg (I s20.2) rfl) ?_
          refine oN (EvN.asg (eL Ximpl_Instr.c (p.getD s20.2.toNat default)) rfl) ?_
          refine TO.nil ?_
          refine T.seq ?_
          refine T.region ?_
          refine oN (EvN.mv (eL Ximpl_Instr.c (p.getD s20.2.toNat default)) rfl) ?_
          refine oN (EvN.lenL sl40 rfl) ?_
          refine oN (EvN.mv (I (0 : Int)) rfl) ?_
          refine TO.nil ?_
          refine T.block ?_
          refine T.loop (S := (List Ximpl_Event) × Int) (G := (Bool × Nat)) (F_impl_events_L32 p s20) (fun s31 gh => (gh.1 = true → s31.1 = [])) (fun s31 gh => [(28, I s31.2), (27, I ((p.getD s20.2.toNat default).length : Int)), (26, eL Ximpl_Instr.c (p.getD s20.2.toNat default)), (5, I s20.2), (21, I s20.2), (20, I (p.length : Int)), (19, eL (cL Ximpl_Instr.c) p), (3, hS gh.1 0 gh.2 5 s31.1.length)]) (fun s31 gh => [bE gh.1 gh.2 5 35 (s31.1.map Ximpl_Event.c)]) (s0 := (s20.1, (0 : Int))) (b23, u22) h n24 (cutW rfl (weak_cons rfl (weak_cons rfl (weak_cons rfl (weak_cons rfl (weak_cons rfl (weak_cons rfl (weak_cons rfl (weak_cons rfl weak_nil))))))))) (fun s31 gh ws31 h n35 => ?_)
          obtain ⟨b34, u33⟩ := gh
          refine T.seq ?_
          refine T.region ?_
          refine oN (EvN.ilt rfl rfl) ?_
          refine TO.nil ?_
          refine T.seq ?_
          refine T.cond rfl (fun q36 => ?_) (fun q36 => ?_)
          · replace h := condT q36 h
            refine T.skip ?_
            obtain ⟨s37, h, ks37⟩ := bindL h
            refine T.joinF (G := (Bool × Nat)) (fun gh => (gh.1 = true → s37 = [])) (fun gh => [(3, hS gh.1 0 gh.2 5 s37.length), (28, I s31.2), (27, I ((p.getD s20.2.toNat default).length : Int)), (26, eL Ximpl_Instr.c (p.getD s20.2.toNat default)), (5, I s20.2), (21, I s20.2), (20, I (p.length : Int)), (19, eL (cL Ximpl_Instr.c) p)]) (fun gh => [bE gh.1 gh.2 5 35 (s37.map Ximpl_Event.c)]) (fun gh n45 => ?_) ?_
            · clear h
              have h := ks37
              clear ks37
              obtain ⟨b44, u43⟩ := gh
              refine T.region ?_
              obtain ⟨g46, h⟩ := gdW h
              refine oN (EvN.add rfl rfl g46) ?_
              refine oN (EvN.mv (I (s31.2 + (1 : Int))) rfl) ?_
              refine TO.nil ?_
              obtain rfl := Option.some.inj h
              exact ⟨(s37, (s31.2 + (1 : Int))), (b44, u43), rfl, n45, cutW rfl (weak_cons rfl (weak_cons rfl (weak_cons rfl (weak_cons rfl (weak_cons rfl (weak_cons rfl (weak_cons rfl (weak_cons rfl weak_nil))))))))⟩
            · clear ks37
              refine T.block ?_
              refine T.seq ?_
              refine T.region ?_
              refine oN (EvN.mv (I s31.2) rfl) ?_
              obtain ⟨g38, h⟩ := gdD h
              refine oN (EvN.ixL sl40 rfl rfl g38 (fun _ => rfl)) ?_
              refine oN (EvN.loadfp (.agg (Ximpl_Instr.c ((p.getD s20.2.toNat default).getD s31.2.toNat default))) ty39 rfl rfl) ?_
              refine oA (EvA.al zs39 rfl rfl) ?_
              refine oN (EvN.asg (I s31.2) rfl) ?_
              refine oV (EvA.st (cs := [I (((p.getD s20.2.toNat default).getD s31.2.toNat default).Op), I (((p.getD s20.2.toNat default).getD s31.2.toNat default).Loc), I (((p.getD s20.2.toNat default).getD s31.2.toNat default).Reg), I (((p.getD s20.2.toNat default).getD s31.2.toNat default).Val)]) ⟨0, 4, 39, [[I (((p.getD s20.2.toNat default).getD s31.2.toNat default).Op), I (((p.getD s20.2.toNat default).getD s31.2.toNat default).Loc), I (((p.getD s20.2.toNat default).getD s31.2.toNat default).Reg), I (((p.getD s20.2.toNat default).getD s31.2.toNat default).Val)]]⟩ ty39 rfl rfl rfl rfl rfl rfl rfl rfl rfl) ?_
              refine TO.nil ?_
              refine T.seq ?_
              refine T.region ?_
              refine oN (EvN.fahp Tryd.underlying39 rfl (by kernel_rfl) rfl) ?_
              refine oA (EvA.loadhp (I (((p.getD s20.2.toNat default).getD s31.2.toNat default).Op)) ty3 rfl rfl rfl rfl rfl rfl) ?_
              refine oN (EvN.ine rfl rfl) ?_
              refine TO.nil ?_
              refine T.cond rfl (fun q39 => ?_) (fun q39 => ?_)
              · replace h := condT q39 h
                refine T.clean (H0 := [bE b34 u33 5 35 (s31.1.map Ximpl_Event.c), some ⟨0, 4, 39, [[I (((p.getD s20.2.toNat default).getD s31.2.toNat default).Op), I (((p.getD s20.2.toNat default).getD s31.2.toNat default).Loc), I (((p.getD s20.2.toNat default).getD s31.2.toNat default).Reg), I (((p.getD s20.2.toNat default).getD s31.2.toNat default).Val)]]⟩]) (e0 := envOf [(7, I s31.2), (8, .hp 1 0 4 0 0), (28, I s31.2), (27, I ((p.getD s20.2.toNat default).length : Int)), (26, eL Ximpl_Instr.c (p.getD s20.2.toNat default)), (5, I s20.2), (21, I s20.2), (20, I (p.length : Int)), (19, eL (cL Ximpl_Instr.c) p), (3, hS b34 0 u33 5 s31.1.length)]) rfl (weak_cons rfl (weak_cons rfl (weak_cons rfl (weak_cons rfl (weak_cons rfl (weak_cons rfl (weak_cons rfl (weak_cons rfl (weak_cons rfl (weak_cons rfl weak_nil)))))))))) ?_
                refine T.drawF (fun i => [([], false), ([], false), ([], false), ([], false), ([1], false), ([1], false), ([], false), ([1], false), ([], false), ([], false), ([], false), ([0], true), ([], false)].getD i ([], false)) (by kernel_rfl) (by kernel_rfl) ?_
                refine fN rfl (EvN.mv (hS b34 0 u33 5 s31.1.length) rfl) ?_
                refine fN rfl (EvN.mv (I s20.2) rfl) ?_
                refine fN rfl (EvN.mv (I s31.2) rfl) ?_
                refine fN rfl (EvN.fahp Tryd.underlying39 rfl (by kernel_rfl) rfl) ?_
                refine fR [1] rfl (fun G hG => EvA.loadhp (I (((p.getD s20.2.toNat default).getD s31.2.toNat default).Loc)) ty3 rfl (hG.a0 rfl) rfl rfl rfl rfl) ?_
                refine fR [1] rfl (fun G hG => EvA.loadhp (.agg [I (((p.getD s20.2.toNat default).getD s31.2.toNat default).Op), I (((p.getD s20.2.toNat default).getD s31.2.toNat default).Loc), I (((p.getD s20.2.toNat default).getD s31.2.toNat default).Reg), I (((p.getD s20.2.toNat default).getD s31.2.toNat default).Val)]) ty39 rfl (hG.a0 rfl) rfl rfl rfl rfl) ?_
                obtain ⟨v40, cv40, h⟩ := bindL h
                refine fN rfl (EvN.call rfl rfl rfl (F_impl_Instr_reads_P (⟨((p.getD s20.2.toNat default).getD s31.2.toNat default).Op, ((p.getD s20.2.toNat default).getD s31.2.toNat default).Loc, ((p.getD s20.2.toNat default).getD s31.2.toNat default).Reg, ((p.getD s20.2.toNat default).getD s31.2.toNat default).Val⟩ : Ximpl_Instr) cv40) rfl) ?_
                refine fR [1] rfl (fun G hG => EvA.loadhp (.agg [I (((p.getD s20.2.toNat default).getD s31.2.toNat default).Op), I (((p.getD s20.2.toNat default).getD s31.2.toNat default).Loc), I (((p.getD s20.2.toNat default).getD s31.2.toNat default).Reg), I (((p.getD s20.2.toNat default).getD s31.2.toNat default).Val)]) ty39 rfl (hG.a0 rfl) rfl rfl rfl rfl) ?_
                obtain ⟨v41, cv41, h⟩ := bindL h
                refine fN rfl (EvN.call rfl rfl rfl (F_impl_Instr_writes_P (⟨((p.getD s20.2.toNat default).getD s31.2.toNat default).Op, ((p.getD s20.2.toNat default).getD s31.2.toNat default).Loc, ((p.getD s20.2.toNat default).getD s31.2.toNat default).Reg, ((p.getD s20.2.toNat default).getD s31.2.toNat default).Val⟩ : Ximpl_Instr) cv41) rfl) ?_
                refine fN rfl (EvN.build [I s20.2, I s31.2, I (((p.getD s20.2.toNat default).getD s31.2.toNat default).Loc), Bo v40, Bo v41] Tryd.underlying35 zs35 fs35 rfl rfl) ?_
                refine fN rfl (EvN.mkF (c := Ximpl_Event.c) ([(⟨s20.2, s31.2, ((p.getD s20.2.toNat default).getD s31.2.toNat default).Loc, v40, v41⟩ : Ximpl_Event)] : List Ximpl_Event) [[I s20.2, I s31.2, I (((p.getD s20.2.toNat default).getD s31.2.toNat default).Loc), Bo v40, Bo v41]] sl32 rfl rfl rfl (fun _ => rfl) Ximpl_Event.isF rfl) ?_
                obtain ⟨g42, h⟩ := gdL h
                refine fW 0 [] rfl rfl (fun G hG => EvA.app1 (g := b34) (l := s31.1) (⟨s20.2, s31.2, ((p.getD s20.2.toNat default).getD s31.2.toNat default).Loc, v40, v41⟩ : Ximpl_Event) sl32 (by kernel_rfl) rfl rfl (hG.a0 rfl) n35 (SrcOk.fz (l := ([(⟨s20.2, s31.2, ((p.getD s20.2.toNat default).getD s31.2.toNat default).Loc, v40, v41⟩ : Ximpl_Event)] : List Ximpl_Event)) rfl (fun _ => rfl)) g42) ?_
                refine fN rfl (EvN.asg (hS false 0 (u33 + 1) 5 ((s31.1 ++ [(⟨s20.2, s31.2, ((p.getD s20.2.toNat default).getD s31.2.toNat default).Loc, v40, v41⟩ : Ximpl_Event)]).length)) rfl) ?_
                refine TF.nil ?_
                obtain rfl := Option.some.inj h
                exact ⟨(false, u33 + 1), nofun, cutS rfl (.cons (.list (g := false) (ver := u33 + 1) (l := (s31.1 ++ [(⟨s20.2, s31.2, ((p.getD s20.2.toNat default).getD s31.2.toNat default).Loc, v40, v41⟩ : Ximpl_Event)])) Ximpl_Event.isF) .nil) (stl_cons (.hS (g := false) (b := 0) (ver := u33 + 1) (s := 5) (n := (s31.1 ++ [(⟨s20.2, s31.2, ((p.getD s20.2.toNat default).getD s31.2.toNat default).Loc, v40, v41⟩ : Ximpl_Event)]).length) rfl) (stl_cons (.fz (.of_isF 9 _ rfl)) (stl_cons (.fz (.of_isF 9 _ rfl)) (stl_cons (.fz (.of_isF 9 _ rfl)) (stl_cons (.fz (.of_isF 9 _ rfl)) (stl_cons (.fz (.of_isF 9 _ rfl)) (stl_cons (.fz (.of_isF 9 _ rfl)) (stl_cons (.fz (.of_isF 9 _ rfl)) stl_nil))))))))⟩
              · replace h := condF q39 h
                refine T.skip ?_
                obtain rfl := Option.some.inj h
                exact ⟨(b34, u33), n35, cutS rfl (.cons (.list (g := b34) (ver := u33) (l := s31.1) Ximpl_Event.isF) .nil) (stl_cons (.hS (g := b34) (b := 0) (ver := u33) (s := 5) (n := s31.1.length) rfl) (stl_cons (.fz (.of_isF 9 _ rfl)) (stl_cons (.fz (.of_isF 9 _ rfl)) (stl_cons (.fz (.of_isF 9 _ rfl)) (stl_cons (.fz (.of_isF 9 _ rfl)) (stl_cons (.fz (.of_isF 9 _ rfl)) (stl_cons (.fz (.of_isF 9 _ rfl)) (stl_cons (.fz (.of_isF 9 _ rfl)) stl_nil))))))))⟩
          · replace h := condF q36 h
            refine T.exit ?_
            refine ⟨_, (Option.some.inj h).symm, fun h => ?_⟩
            replace h := congrArg some h
            obtain rfl := Option.some.inj h
            exact ⟨(b34, u33), n35, cutW rfl (weak_cons rfl (weak_cons rfl (weak_cons rfl (weak_cons rfl weak_nil))))⟩
      · replace h := condF q25 h
        refine T.exit ?_
        refine ⟨_, (Option.some.inj h).symm, fun h => ?_⟩
        replace h := congrArg some h
        obtain rfl := Option.some.inj h
        exact ⟨(b23, u22), n24, cutW rfl (weak_cons rfl weak_nil)⟩
  · clear ks1
    refine T.seq ?_
    refine T.region ?_
    refine oN (EvN.mv (I (0 : Int)) rfl) ?_
    refine TO.nil ?_
    refine T.block ?_
    refine T.loop (S := (List Ximpl_Event) × Int) (G := (Bool × Nat)) F_impl_events_L6 (fun s5 gh => (gh.1 = true → s5.1 = [])) (fun s5 gh => [(9, I s5.2), (3, hS gh.1 0 gh.2 5 s5.1.length), (0, eL (cL Ximpl_Instr.c) p)]) (fun s5 gh => [bE gh.1 gh.2 5 35 (s5.1.map Ximpl_Event.c)]) (s0 := (([] : List Ximpl_Event), (0 : Int))) (true, 0) h (fun _ => rfl) (cutW rfl (weak_cons rfl (weak_cons rfl (weak_cons rfl weak_nil)))) (fun s5 gh ws5 h n9 => ?_)
    obtain ⟨b8, u7⟩ := gh
    refine T.seq ?_
    refine T.region ?_
    refine oN (EvN.ilt rfl rfl) ?_
    refine TO.nil ?_
    refine T.seq ?_
    refine T.cond rfl (fun q10 => ?_) (fun q10 => ?_)
    · replace h := condT q10 h
      refine T.skip ?_
      refine T.seq ?_
      refine T.block ?_
      refine T.seq ?_
      refine T.region ?_
      refine oN (EvN.mv (I s5.2) rfl) ?_
      refine oN (EvN.asg (I s5.2) rfl) ?_
      refine TO.nil ?_
      refine T.region ?_
      refine oN (EvN.mv (hS b8 0 u7 5 s5.1.length) rfl) ?_
      refine oN (EvN.mv (I s5.2) rfl) ?_
      refine oN (EvN.mv (I s5.2) rfl) ?_
      refine oN (EvN.build [I (-1 : Int), I s5.2, I s5.2, Bo false, Bo true] Tryd.underlying35 zs35 fs35 rfl rfl) ?_
      refine oN (EvN.mkF (c := Ximpl_Event.c) ([(⟨(-1 : Int), s5.2, s5.2, false, true⟩ : Ximpl_Event)] : List Ximpl_Event) [[I (-1 : Int), I s5.2, I s5.2, Bo false, Bo true]] sl32 rfl rfl rfl (fun _ => rfl) Ximpl_Event.isF rfl) ?_
      obtain ⟨g11, h⟩ := gdL h
      refine oA (EvA.app1 (g := b8) (l := s5.1) (⟨(-1 : Int), s5.2, s5.2, false, true⟩ : Ximpl_Event) sl32 (by kernel_rfl) rfl rfl rfl n9 (SrcOk.fz (l := ([(⟨(-1 : Int), s5.2, s5.2, false, true⟩ : Ximpl_Event)] : List Ximpl_Event)) rfl (fun _ => rfl)) g11) ?_
      refine oN (EvN.asg (hS false 0 (u7 + 1) 5 ((s5.1 ++ [(⟨(-1 : Int), s5.2, s5.2, false, true⟩ : Ximpl_Event)]).length)) rfl) ?_
      refine TO.nil ?_
      refine T.clean (H0 := [bE false (u7 + 1) 5 35 ((s5.1 ++ [(⟨(-1 : Int), s5.2, s5.2, false, true⟩ : Ximpl_Event)]).map Ximpl_Event.c)]) (e0 := envOf [(3, hS false 0 (u7 + 1) 5 ((s5.1 ++ [(⟨(-1 : Int), s5.2, s5.2, false, true⟩ : Ximpl_Event)]).length)), (9, I s5.2), (0, eL (cL Ximpl_Instr.c) p)]) rfl (weak_cons rfl (weak_cons rfl (weak_cons rfl weak_nil))) ?_
      refine T.region ?_
      obtain ⟨g12, h⟩ := gdW h
      refine oN (EvN.add rfl rfl g12) ?_
      refine oN (EvN.mv (I (s5.2 + (1 : Int))) rfl) ?_
      refine TO.nil ?_
      obtain rfl := Option.some.inj h
      exact ⟨((s5.1 ++ [(⟨(-1 : Int), s5.2, s5.2, false, true⟩ : Ximpl_Event)]), (s5.2 + (1 : Int))), (false, u7 + 1), rfl, nofun, cutW rfl (weak_cons rfl (weak_cons rfl (weak_cons rfl weak_nil)))⟩
    · replace h := condF q10 h
      refine T.exit ?_
      refine ⟨_, (Option.some.inj h).symm, fun h => ?_⟩
      replace h := congrArg some h
      obtain rfl := Option.some.inj h
      exact ⟨(b8, u7), n9, cutW rfl (weak_cons rfl (weak_cons rfl weak_nil))⟩

theorem F_impl_EventsOf_P (p : List (List Ximpl_Instr)) {q : (List Ximpl_Event)} (h : F_impl_EventsOf p = some q) : PCall Tryd.prog 12 [eL (cL Ximpl_Instr.c) p] (eL Ximpl_Event.c q) := by
  refine PCall.mkT Tryd.func12 rfl (by kernel_rfl) rfl (by kernel_rfl) (e0 := envOf [(0, eL (cL Ximpl_Instr.c) p)]) (weak_cons rfl weak_nil) ?_
  refine T.seq ?_
  refine T.region ?_
  refine oN (EvN.asg (.nil) rfl) ?_
  refine TO.nil ?_
  refine T.seq ?_
  refine T.seq ?_
  refine T.region ?_
  refine oN (EvN.mv (eL (cL Ximpl_Instr.c) p) rfl) ?_
  obtain ⟨v1, cv1, h⟩ := bindL h
  refine oN (EvN.call rfl rfl rfl (F_impl_ProgramValid_P p cv1) rfl) ?_
  refine oN (EvN.not rfl) ?_
  refine TO.nil ?_
  refine T.cond rfl (fun q2 => ?_) (fun q2 => ?_)
  · replace h := condT q2 h
    refine T.seq ?_
    refine T.region ?_
    refine oN (EvN.asg (.nil) rfl) ?_
    refine TO.nil ?_
    refine T.ret ?_
    obtain rfl := Option.some.inj h
    repeat first | refine retS ?_ | refine retB ?_
    exact Fin.ret (vs := [.nil]) (.cons (.tmp rfl) .nil) .nil0
  · replace h := condF q2 h
    refine T.skip ?_
    refine T.seq ?_
    refine T.region ?_
    refine oN (EvN.mv (eL (cL Ximpl_Instr.c) p) rfl) ?_
    obtain ⟨v3, cv3, h⟩ := bindL h
    refine oN (EvN.call rfl rfl rfl (F_impl_events_P p cv3) rfl) ?_
    refine oN (EvN.asg (eL Ximpl_Event.c v3) rfl) ?_
    refine TO.nil ?_
    refine T.ret ?_
    obtain rfl := Option.some.inj h
    repeat first | refine retS ?_ | refine retB ?_
    exact Fin.ret (vs := [eL Ximpl_Event.c v3]) (.cons (.tmp rfl) .nil) (.of_isF 9 _ rfl)

theorem F_impl_within_P (x : Int) (low : Int) (high : Int) {q : Bool} (h : F_impl_within x low high = some q) : PCall Tryd.prog 18 [I x, I low, I high] (Bo q) := by
  refine PCall.mkT Tryd.func18 rfl (by kernel_rfl) rfl (by kernel_rfl) (e0 := envOf [(0, I x), (1, I low), (2, I high)]) (weak_cons rfl (weak_cons rfl (weak_cons rfl weak_nil))) ?_
  refine T.seq ?_
  refine T.region ?_
  refine oN (EvN.asg (Bo false) rfl) ?_
  refine TO.nil ?_
  refine T.seq ?_
  refine T.region ?_
  refine oN (EvN.mv (I x) rfl) ?_
  refine oN (EvN.mv (I low) rfl) ?_
  refine oN (EvN.ige rfl rfl) ?_
  refine oN (EvN.mv (Bo (decide (low ≤ x))) rfl) ?_
  obtain ⟨s1, h, ks1⟩ := bindL h
  refine TO.joinF (G := Unit) 4 (fun _ => True) (fun _ => [(14, Bo s1)]) (fun _ => []) ?_ (fun js1 => ?_)
  rotate_left
  · clear ks1
    rcases bifL h with ⟨q2, h⟩ | ⟨q2, h⟩
    · refine gN rfl q2 (EvN.mv (I x) rfl) ?_
      refine gN rfl q2 (EvN.mv (I high) rfl) ?_
      refine gN rfl q2 (EvN.ile rfl rfl) ?_
      refine oN (EvN.pickT rfl q2 (Bo (decide (x ≤ high))) rfl) ?_
      obtain rfl := Option.some.inj h
      exact js1 _ _ ⟨(), trivial, cutW rfl (weak_cons rfl weak_nil)⟩
    · refine gS rfl q2 ?_
      refine gS rfl q2 ?_
      refine gS rfl q2 ?_
      refine oN (EvN.pickF rfl q2 (Bo false) rfl) ?_
      obtain rfl := Option.some.inj h
      exact js1 _ _ ⟨(), trivial, cutW rfl (weak_cons rfl weak_nil)⟩
  · intro _ _
    replace h := ks1
    clear ks1
    refine oN (EvN.asg (Bo s1) rfl) ?_
    refine TO.nil ?_
    refine T.ret ?_
    obtain rfl := Option.some.inj h
    repeat first | refine retS ?_ | refine retB ?_
    exact Fin.ret (vs := [Bo s1]) (.cons (.tmp rfl) .nil) (.of_isF 9 _ rfl)

theorem F_internal_strconv_small_P (i : Int) {q : ByteArray} (h : F_internal_strconv_small i = some q) : PCall Tryd.prog 59 [I i] (St q) := by
  refine PCall.mkT Tryd.func59 rfl (by kernel_rfl) rfl (by kernel_rfl) (e0 := envOf [(0, I i)]) (weak_cons rfl weak_nil) ?_
  refine T.seq ?_
  refine T.region ?_
  refine oN (EvN.asg (St (⟨#[]⟩ : ByteArray)) rfl) ?_
  refine TO.nil ?_
  refine T.seq ?_
  refine T.seq ?_
  refine T.region ?_
  refine oN (EvN.mv (I i) rfl) ?_
  refine oN (EvN.ilt rfl rfl) ?_
  refine TO.nil ?_
  refine T.cond rfl (fun q1 => ?_) (fun q1 => ?_)
  · replace h := condT q1 h
    refine T.seq ?_
    refine T.region ?_
    refine oN (EvN.mv (I i) rfl) ?_
    refine oN (EvN.mv (I i) rfl) ?_
    obtain ⟨g2, h⟩ := gdW h
    refine oN (EvN.add rfl rfl g2) ?_
    obtain ⟨g3, h⟩ := gdD h
    refine oN (EvN.slst Tryd.underlying9 rfl (.yes rfl) (.yes rfl) g3) ?_
    refine oN (EvN.asg (St ((⟨#[48, 49, 50, 51, 52, 53, 54, 55, 56, 57, 97, 98, 99, 100, 101, 102, 103, 104, 105, 106, 107, 108, 109, 110, 111, 112, 113, 114, 115, 116, 117, 118, 119, 120, 121, 122]⟩ : ByteArray).extract i.toNat (i + (1 : Int)).toNat)) rfl) ?_
    refine TO.nil ?_
    refine T.ret ?_
    obtain rfl := Option.some.inj h
    repeat first | refine retS ?_ | refine retB ?_
    exact Fin.ret (vs := [St ((⟨#[48, 49, 50, 51, 52, 53, 54, 55, 56, 57, 97, 98, 99, 100, 101, 102, 103, 104, 105, 106, 107, 108, 109, 110, 111, 112, 113, 114, 115, 116, 117, 118, 119, 120, 121, 122]⟩ : ByteArray).extract i.toNat (i + (1 : Int)).toNat)]) (.cons (.tmp rfl) .nil) (.of_isF 9 _ rfl)
  · replace h := condF q1 h
    refine T.skip ?_
    refine T.seq ?_
    refine T.region ?_
    refine oN (EvN.mv (I i) rfl) ?_
    obtain ⟨g4, h⟩ := gdW h
    refine oN (EvN.mul rfl rfl g4) ?_
    refine oN (EvN.mv (I i) rfl) ?_
    refine oN (EvN.mul rfl rfl g4) ?_
    obtain ⟨g5, h⟩ := gdW h
    refine oN (EvN.add rfl rfl g5) ?_
    obtain ⟨g6, h⟩ := gdD h
    refine oN (EvN.slst Tryd.underlying9 rfl (.yes rfl) (.yes rfl) g6) ?_
    refine oN (EvN.asg (St ((⟨#[48, 48, 48, 49, 48, 50, 48, 51, 48, 52, 48, 53, 48, 54, 48, 55, 48, 56, 48, 57, 49, 48, 49, 49, 49, 50, 49, 51, 49, 52, 49, 53, 49, 54, 49, 55, 49, 56, 49, 57, 50, 48, 50, 49, 50, 50, 50, 51, 50, 52, 50, 53, 50, 54, 50, 55, 50, 56, 50, 57, 51, 48, 51, 49, 51, 50, 51, 51, 51, 52, 51, 53, 51, 54, 51, 55, 51, 56, 51, 57, 52, 48, 52, 49, 52, 50, 52, 51, 52, 52, 52, 53, 52, 54, 52, 55, 52, 56, 52, 57, 53, 48, 53, 49, 53, 50, 53, 51, 53, 52, 53, 53, 53, 54, 53, 55, 53, 56, 53, 57, 54, 48, 54, 49, 54, 50, 54, 51, 54, 52, 54, 53, 54, 54, 54, 55, 54, 56, 54, 57, 55, 48, 55, 49, 55, 50, 55, 51, 55, 52, 55, 53, 55, 54, 55, 55, 55, 56, 55, 57, 56, 48, 56, 49, 56, 50, 56, 51, 56, 52, 56, 53, 56, 54, 56, 55, 56, 56, 56, 57, 57, 48, 57, 49, 57, 50, 57, 51, 57, 52, 57, 53, 57, 54, 57, 55, 57, 56, 57, 57]⟩ : ByteArray).extract (i * (2 : Int)).toNat ((i * (2 : Int)) + (2 : Int)).toNat)) rfl) ?_
    refine TO.nil ?_
    refine T.ret ?_
    obtain rfl := Option.some.inj h
    repeat first | refine retS ?_ | refine retB ?_
    exact Fin.ret (vs := [St ((⟨#[48, 48, 48, 49, 48, 50, 48, 51, 48, 52, 48, 53, 48, 54, 48, 55, 48, 56, 48, 57, 49, 48, 49, 49, 49, 50, 49, 51, 49, 52, 49, 53, 49, 54, 49, 55, 49, 56, 49, 57, 50, 48, 50, 49, 50, 50, 50, 51, 50, 52, 50, 53, 50, 54, 50, 55, 50, 56, 50, 57, 51, 48, 51, 49, 51, 50, 51, 51, 51, 52, 51, 53, 51, 54, 51, 55, 51, 56, 51, 57, 52, 48, 52, 49, 52, 50, 52, 51, 52, 52, 52, 53, 52, 54, 52, 55, 52, 56, 52, 57, 53, 48, 53, 49, 53, 50, 53, 51, 53, 52, 53, 53, 53, 54, 53, 55, 53, 56, 53, 57, 54, 48, 54, 49, 54, 50, 54, 51, 54, 52, 54, 53, 54, 54, 54, 55, 54, 56, 54, 57, 55, 48, 55, 49, 55, 50, 55, 51, 55, 52, 55, 53, 55, 54, 55, 55, 55, 56, 55, 57, 56, 48, 56, 49, 56, 50, 56, 51, 56, 52, 56, 53, 56, 54, 56, 55, 56, 56, 56, 57, 57, 48, 57, 49, 57, 50, 57, 51, 57, 52, 57, 53, 57, 54, 57, 55, 57, 56, 57, 57]⟩ : ByteArray).extract (i * (2 : Int)).toNat ((i * (2 : Int)) + (2 : Int)).toNat)]) (.cons (.tmp rfl) .nil) (.of_isF 9 _ rfl)

theorem F_internal_strconv_FormatInt_P (i : Int) (base : Int) {q : ByteArray} (h : F_internal_strconv_FormatInt i base = some q) : PCall Tryd.prog 56 [I i, I base] (St q) := by
  refine PCall.mkT Tryd.func56 rfl (by kernel_rfl) rfl (by kernel_rfl) (e0 := envOf [(0, I i), (1, I base)]) (weak_cons rfl (weak_cons rfl weak_nil)) ?_
  refine T.seq ?_
  refine T.region ?_
  refine oN (EvN.asg (St (⟨#[]⟩ : ByteArray)) rfl) ?_
  refine TO.nil ?_
  refine T.seq ?_
  refine T.seq ?_
  refine T.region ?_
  refine oN (EvN.mv (I base) rfl) ?_
  refine oN (EvN.ieq rfl rfl) ?_
  refine TO.nil ?_
  refine T.cond rfl (fun q1 => ?_) (fun q1 => ?_)
  · replace h := condT q1 h
    refine T.seq ?_
    refine T.seq ?_
    refine T.region ?_
    refine oN (EvN.mv (I i) rfl) ?_
    refine oN (EvN.ile rfl rfl) ?_
    refine oN (EvN.mv (Bo (decide ((0 : Int) ≤ i))) rfl) ?_
    obtain ⟨s2, h, ks2⟩ := bindL h
    refine TO.joinF (G := Unit) 3 (fun _ => True) (fun _ => [(17, Bo s2), (0, I i)]) (fun _ => []) ?_ (fun js2 => ?_)
    rotate_left
    · clear ks2
      rcases bifL h with ⟨q3, h⟩ | ⟨q3, h⟩
      · refine gN rfl q3 (EvN.mv (I i) rfl) ?_
        refine gN rfl q3 (EvN.ilt rfl rfl) ?_
        refine oN (EvN.pickT rfl q3 (Bo (decide (i < (100 : Int)))) rfl) ?_
        obtain rfl := Option.some.inj h
        exact js2 _ _ ⟨(), trivial, cutW rfl (weak_cons rfl (weak_cons rfl weak_nil))⟩
      · refine gS rfl q3 ?_
        refine gS rfl q3 ?_
        refine oN (EvN.pickF rfl q3 (Bo false) rfl) ?_
        obtain rfl := Option.some.inj h
        exact js2 _ _ ⟨(), trivial, cutW rfl (weak_cons rfl (weak_cons rfl weak_nil))⟩
    · intro _ _
      replace h := ks2
      clear ks2
      refine TO.nil ?_
      refine T.cond rfl (fun q4 => ?_) (fun q4 => ?_)
      · replace h := condT q4 h
        refine T.seq ?_
        refine T.region ?_
        refine oN (EvN.mv (I i) rfl) ?_
        obtain ⟨v5, cv5, h⟩ := bindL h
        refine oN (EvN.call rfl rfl rfl (F_internal_strconv_small_P i cv5) rfl) ?_
        refine oN (EvN.asg (St v5) rfl) ?_
        refine TO.nil ?_
        refine T.ret ?_
        obtain rfl := Option.some.inj h
        repeat first | refine retS ?_ | refine retB ?_
        exact Fin.ret (vs := [St v5]) (.cons (.tmp rfl) .nil) (.of_isF 9 _ rfl)
      · replace h := condF q4 h
        cases h
  · replace h := condF q1 h
    cases h

theorem F_internal_strconv_Itoa_P (i : Int) {q : ByteArray} (h : F_internal_strconv_Itoa i = some q) : PCall Tryd.prog 49 [I i] (St q) := by
  refine PCall.mkT Tryd.func49 rfl (by kernel_rfl) rfl (by kernel_rfl) (e0 := envOf [(0, I i)]) (weak_cons rfl weak_nil) ?_
  refine T.seq ?_
  refine T.region ?_
  refine oN (EvN.asg (St (⟨#[]⟩ : ByteArray)) rfl) ?_
  refine TO.nil ?_
  refine T.seq ?_
  refine T.region ?_
  refine oN (EvN.mv (I i) rfl) ?_
  obtain ⟨v1, cv1, h⟩ := bindL h
  refine oN (EvN.call rfl rfl rfl (F_internal_strconv_FormatInt_P i (10 : Int) cv1) rfl) ?_
  refine oN (EvN.asg (St v1) rfl) ?_
  refine TO.nil ?_
  refine T.ret ?_
  obtain rfl := Option.some.inj h
  repeat first | refine retS ?_ | refine retB ?_
  exact Fin.ret (vs := [St v1]) (.cons (.tmp rfl) .nil) (.of_isF 9 _ rfl)

theorem F_strconv_Itoa_P (i : Int) {q : ByteArray} (h : F_strconv_Itoa i = some q) : PCall Tryd.prog 35 [I i] (St q) := by
  refine PCall.mkT Tryd.func35 rfl (by kernel_rfl) rfl (by kernel_rfl) (e0 := envOf [(0, I i)]) (weak_cons rfl weak_nil) ?_
  refine T.seq ?_
  refine T.region ?_
  refine oN (EvN.asg (St (⟨#[]⟩ : ByteArray)) rfl) ?_
  refine TO.nil ?_
  refine T.seq ?_
  refine T.region ?_
  refine oN (EvN.mv (I i) rfl) ?_
  obtain ⟨v1, cv1, h⟩ := bindL h
  refine oN (EvN.call rfl rfl rfl (F_internal_strconv_Itoa_P i cv1) rfl) ?_
  refine oN (EvN.asg (St v1) rfl) ?_
  refine TO.nil ?_
  refine T.ret ?_
  obtain rfl := Option.some.inj h
  repeat first | refine retS ?_ | refine retB ?_
  exact Fin.ret (vs := [St v1]) (.cons (.tmp rfl) .nil) (.of_isF 9 _ rfl)

theorem F_impl_instrText_P (x : Ximpl_Instr) {q : ByteArray} (h : F_impl_instrText x = some q) : PCall Tryd.prog 28 [.agg (Ximpl_Instr.c x)] (St q) := by
  refine PCall.mkT Tryd.func28 rfl (by kernel_rfl) rfl (by kernel_rfl) (e0 := envOf [(0, .agg (Ximpl_Instr.c x))]) (weak_cons rfl weak_nil) ?_
  refine T.seq ?_
  refine T.region ?_
  refine oN (EvN.bxF [I x.Op, I x.Loc, I x.Reg, I x.Val] rfl rfl rfl) ?_
  refine oN (EvN.asg (St (⟨#[]⟩ : ByteArray)) rfl) ?_
  refine TO.nil ?_
  refine T.seq ?_
  refine T.drawF (fun _ => ([], false)) (by kernel_rfl) (by kernel_rfl) ?_
  refine fN rfl (EvN.fafp Tryd.underlying39 rfl (by kernel_rfl) rfl) ?_
  refine fN rfl (EvN.loadfp (I x.Loc) ty3 rfl rfl) ?_
  refine fN rfl (EvN.fafp Tryd.underlying39 rfl (by kernel_rfl) rfl) ?_
  refine fN rfl (EvN.loadfp (I x.Loc) ty3 rfl rfl) ?_
  obtain ⟨g1, h⟩ := gdW h
  refine fN rfl (EvN.add rfl rfl g1) ?_
  obtain ⟨g2, h⟩ := gdD h
  refine fN rfl (EvN.slst Tryd.underlying9 rfl (.yes rfl) (.yes rfl) g2) ?_
  refine fN rfl (EvN.fafp Tryd.underlying39 rfl (by kernel_rfl) rfl) ?_
  refine fN rfl (EvN.loadfp (I x.Reg) ty3 rfl rfl) ?_
  refine fN rfl (EvN.fafp Tryd.underlying39 rfl (by kernel_rfl) rfl) ?_
  refine fN rfl (EvN.loadfp (I x.Reg) ty3 rfl rfl) ?_
  obtain ⟨g3, h⟩ := gdW h
  refine fN rfl (EvN.add rfl rfl g3) ?_
  obtain ⟨g4, h⟩ := gdD h
  refine fN rfl (EvN.slst Tryd.underlying9 rfl (.yes rfl) (.yes rfl) g4) ?_
  refine fN rfl (EvN.fafp Tryd.underlying39 rfl (by kernel_rfl) rfl) ?_
  refine fN rfl (EvN.loadfp (I x.Val) ty3 rfl rfl) ?_
  refine fN rfl (EvN.fafp Tryd.underlying39 rfl (by kernel_rfl) rfl) ?_
  refine fN rfl (EvN.loadfp (I x.Val) ty3 rfl rfl) ?_
  obtain ⟨g5, h⟩ := gdW h
  refine fN rfl (EvN.add rfl rfl g5) ?_
  obtain ⟨g6, h⟩ := gdD h
  refine fN rfl (EvN.slst Tryd.underlying9 rfl (.yes rfl) (.yes rfl) g6) ?_
  refine fN rfl (EvN.asg (St ((⟨#[120, 121, 122]⟩ : ByteArray).extract x.Loc.toNat (x.Loc + (1 : Int)).toNat)) rfl) ?_
  refine fN rfl (EvN.asg (St ((⟨#[97, 98, 99]⟩ : ByteArray).extract x.Reg.toNat (x.Reg + (1 : Int)).toNat)) rfl) ?_
  refine fN rfl (EvN.asg (St ((⟨#[48, 49, 50, 51, 52, 53, 54, 55, 56, 57]⟩ : ByteArray).extract x.Val.toNat (x.Val + (1 : Int)).toNat)) rfl) ?_
  refine TF.nil ?_
  refine T.seq ?_
  refine T.seq ?_
  refine T.clean (H0 := []) (e0 := envOf [(5, St ((⟨#[48, 49, 50, 51, 52, 53, 54, 55, 56, 57]⟩ : ByteArray).extract x.Val.toNat (x.Val + (1 : Int)).toNat)), (4, St ((⟨#[97, 98, 99]⟩ : ByteArray).extract x.Reg.toNat (x.Reg + (1 : Int)).toNat)), (3, St ((⟨#[120, 121, 122]⟩ : ByteArray).extract x.Loc.toNat (x.Loc + (1 : Int)).toNat)), (1, .fp (Ximpl_Instr.c x) 0)]) rfl (weak_cons rfl (weak_cons rfl (weak_cons rfl (weak_cons rfl weak_nil)))) ?_
  refine T.region ?_
  refine oN (EvN.fafp Tryd.underlying39 rfl (by kernel_rfl) rfl) ?_
  refine oN (EvN.loadfp (I x.Op) ty3 rfl rfl) ?_
  refine TO.nil ?_
  refine T.block ?_
  refine T.seq ?_
  refine T.region ?_
  refine oN (EvN.ieq rfl rfl) ?_
  refine oN (EvN.asg (Bo (x.Op == (1 : Int))) rfl) ?_
  refine TO.nil ?_
  refine T.cond rfl (fun q7 => ?_) (fun q7 => ?_)
  · replace h := condT q7 h
    refine T.seq ?_
    refine T.clean (H0 := []) (e0 := envOf [(4, St ((⟨#[97, 98, 99]⟩ : ByteArray).extract x.Reg.toNat (x.Reg + (1 : Int)).toNat)), (3, St ((⟨#[120, 121, 122]⟩ : ByteArray).extract x.Loc.toNat (x.Loc + (1 : Int)).toNat))]) rfl (weak_cons rfl (weak_cons rfl weak_nil)) ?_
    refine T.region ?_
    refine oN (EvN.mv (St ((⟨#[97, 98, 99]⟩ : ByteArray).extract x.Reg.toNat (x.Reg + (1 : Int)).toNat)) rfl) ?_
    obtain ⟨g8, h⟩ := gdD h
    refine oN (EvN.cat rfl rfl g8) ?_
    refine oN (EvN.mv (St ((⟨#[120, 121, 122]⟩ : ByteArray).extract x.Loc.toNat (x.Loc + (1 : Int)).toNat)) rfl) ?_
    obtain ⟨g9, h⟩ := gdD h
    refine oN (EvN.cat rfl rfl g9) ?_
    refine oN (EvN.asg (St ((((⟨#[97, 98, 99]⟩ : ByteArray).extract x.Reg.toNat (x.Reg + (1 : Int)).toNat) ++ (⟨#[61]⟩ : ByteArray)) ++ ((⟨#[120, 121, 122]⟩ : ByteArray).extract x.Loc.toNat (x.Loc + (1 : Int)).toNat))) rfl) ?_
    refine TO.nil ?_
    refine T.ret ?_
    obtain rfl := Option.some.inj h
    repeat first | refine retS ?_ | refine retB ?_
    exact Fin.ret (vs := [St ((((⟨#[97, 98, 99]⟩ : ByteArray).extract x.Reg.toNat (x.Reg + (1 : Int)).toNat) ++ (⟨#[61]⟩ : ByteArray)) ++ ((⟨#[120, 121, 122]⟩ : ByteArray).extract x.Loc.toNat (x.Loc + (1 : Int)).toNat))]) (.cons (.tmp rfl) .nil) (.of_isF 9 _ rfl)
  · replace h := condF q7 h
    refine T.seq ?_
    refine T.region ?_
    refine oN (EvN.ieq rfl rfl) ?_
    refine oN (EvN.asg (Bo (x.Op == (2 : Int))) rfl) ?_
    refine TO.nil ?_
    refine T.cond rfl (fun q10 => ?_) (fun q10 => ?_)
    · replace h := condT q10 h
      refine T.seq ?_
      refine T.clean (H0 := []) (e0 := envOf [(5, St ((⟨#[48, 49, 50, 51, 52, 53, 54, 55, 56, 57]⟩ : ByteArray).extract x.Val.toNat (x.Val + (1 : Int)).toNat)), (3, St ((⟨#[120, 121, 122]⟩ : ByteArray).extract x.Loc.toNat (x.Loc + (1 : Int)).toNat))]) rfl (weak_cons rfl (weak_cons rfl weak_nil)) ?_
      refine T.region ?_
      refine oN (EvN.mv (St ((⟨#[120, 121, 122]⟩ : ByteArray).extract x.Loc.toNat (x.Loc + (1 : Int)).toNat)) rfl) ?_
      obtain ⟨g11, h⟩ := gdD h
      refine oN (EvN.cat rfl rfl g11) ?_
      refine oN (EvN.mv (St ((⟨#[48, 49, 50, 51, 52, 53, 54, 55, 56, 57]⟩ : ByteArray).extract x.Val.toNat (x.Val + (1 : Int)).toNat)) rfl) ?_
      obtain ⟨g12, h⟩ := gdD h
      refine oN (EvN.cat rfl rfl g12) ?_
      refine oN (EvN.asg (St ((((⟨#[120, 121, 122]⟩ : ByteArray).extract x.Loc.toNat (x.Loc + (1 : Int)).toNat) ++ (⟨#[61]⟩ : ByteArray)) ++ ((⟨#[48, 49, 50, 51, 52, 53, 54, 55, 56, 57]⟩ : ByteArray).extract x.Val.toNat (x.Val + (1 : Int)).toNat))) rfl) ?_
      refine TO.nil ?_
      refine T.ret ?_
      obtain rfl := Option.some.inj h
      repeat first | refine retS ?_ | refine retB ?_
      exact Fin.ret (vs := [St ((((⟨#[120, 121, 122]⟩ : ByteArray).extract x.Loc.toNat (x.Loc + (1 : Int)).toNat) ++ (⟨#[61]⟩ : ByteArray)) ++ ((⟨#[48, 49, 50, 51, 52, 53, 54, 55, 56, 57]⟩ : ByteArray).extract x.Val.toNat (x.Val + (1 : Int)).toNat))]) (.cons (.tmp rfl) .nil) (.of_isF 9 _ rfl)
    · replace h := condF q10 h
      refine T.seq ?_
      refine T.clean (H0 := []) (e0 := envOf [(25, I x.Op), (5, St ((⟨#[48, 49, 50, 51, 52, 53, 54, 55, 56, 57]⟩ : ByteArray).extract x.Val.toNat (x.Val + (1 : Int)).toNat)), (4, St ((⟨#[97, 98, 99]⟩ : ByteArray).extract x.Reg.toNat (x.Reg + (1 : Int)).toNat)), (3, St ((⟨#[120, 121, 122]⟩ : ByteArray).extract x.Loc.toNat (x.Loc + (1 : Int)).toNat))]) rfl (weak_cons rfl (weak_cons rfl (weak_cons rfl (weak_cons rfl weak_nil)))) ?_
      refine T.region ?_
      refine oN (EvN.ieq rfl rfl) ?_
      refine oN (EvN.asg (Bo (x.Op == (3 : Int))) rfl) ?_
      refine TO.nil ?_
      refine T.cond rfl (fun q13 => ?_) (fun q13 => ?_)
      · replace h := condT q13 h
        refine T.seq ?_
        refine T.region ?_
        refine oN (EvN.mv (St ((⟨#[120, 121, 122]⟩ : ByteArray).extract x.Loc.toNat (x.Loc + (1 : Int)).toNat)) rfl) ?_
        obtain ⟨g14, h⟩ := gdD h
        refine oN (EvN.cat rfl rfl g14) ?_
        refine oN (EvN.mv (St ((⟨#[97, 98, 99]⟩ : ByteArray).extract x.Reg.toNat (x.Reg + (1 : Int)).toNat)) rfl) ?_
        obtain ⟨g15, h⟩ := gdD h
        refine oN (EvN.cat rfl rfl g15) ?_
        refine oN (EvN.asg (St ((((⟨#[120, 121, 122]⟩ : ByteArray).extract x.Loc.toNat (x.Loc + (1 : Int)).toNat) ++ (⟨#[61]⟩ : ByteArray)) ++ ((⟨#[97, 98, 99]⟩ : ByteArray).extract x.Reg.toNat (x.Reg + (1 : Int)).toNat))) rfl) ?_
        refine TO.nil ?_
        refine T.ret ?_
        obtain rfl := Option.some.inj h
        repeat first | refine retS ?_ | refine retB ?_
        exact Fin.ret (vs := [St ((((⟨#[120, 121, 122]⟩ : ByteArray).extract x.Loc.toNat (x.Loc + (1 : Int)).toNat) ++ (⟨#[61]⟩ : ByteArray)) ++ ((⟨#[97, 98, 99]⟩ : ByteArray).extract x.Reg.toNat (x.Reg + (1 : Int)).toNat))]) (.cons (.tmp rfl) .nil) (.of_isF 9 _ rfl)
      · replace h := condF q13 h
        refine T.seq ?_
        refine T.region ?_
        refine oN (EvN.ieq rfl rfl) ?_
        refine oN (EvN.asg (Bo (x.Op == (5 : Int))) rfl) ?_
        refine TO.nil ?_
        refine T.cond rfl (fun q16 => ?_) (fun q16 => ?_)
        · replace h := condT q16 h
          refine T.seq ?_
          refine T.region ?_
          refine oN (EvN.mv (St ((⟨#[97, 98, 99]⟩ : ByteArray).extract x.Reg.toNat (x.Reg + (1 : Int)).toNat)) rfl) ?_
          obtain ⟨g17, h⟩ := gdD h
          refine oN (EvN.cat rfl rfl g17) ?_
          refine oN (EvN.mv (St ((⟨#[120, 121, 122]⟩ : ByteArray).extract x.Loc.toNat (x.Loc + (1 : Int)).toNat)) rfl) ?_
          obtain ⟨g18, h⟩ := gdD h
          refine oN (EvN.cat rfl rfl g18) ?_
          obtain ⟨g19, h⟩ := gdD h
          refine oN (EvN.cat rfl rfl g19) ?_
          refine oN (EvN.mv (St ((⟨#[48, 49, 50, 51, 52, 53, 54, 55, 56, 57]⟩ : ByteArray).extract x.Val.toNat (x.Val + (1 : Int)).toNat)) rfl) ?_
          obtain ⟨g20, h⟩ := gdD h
          refine oN (EvN.cat rfl rfl g20) ?_
          refine oN (EvN.asg (St ((((((⟨#[97, 98, 99]⟩ : ByteArray).extract x.Reg.toNat (x.Reg + (1 : Int)).toNat) ++ (⟨#[61]⟩ : ByteArray)) ++ ((⟨#[120, 121, 122]⟩ : ByteArray).extract x.Loc.toNat (x.Loc + (1 : Int)).toNat)) ++ (⟨#[58]⟩ : ByteArray)) ++ ((⟨#[48, 49, 50, 51, 52, 53, 54, 55, 56, 57]⟩ : ByteArray).extract x.Val.toNat (x.Val + (1 : Int)).toNat))) rfl) ?_
          refine TO.nil ?_
          refine T.ret ?_
          obtain rfl := Option.some.inj h
          repeat first | refine retS ?_ | refine retB ?_
          exact Fin.ret (vs := [St ((((((⟨#[97, 98, 99]⟩ : ByteArray).extract x.Reg.toNat (x.Reg + (1 : Int)).toNat) ++ (⟨#[61]⟩ : ByteArray)) ++ ((⟨#[120, 121, 122]⟩ : ByteArray).extract x.Loc.toNat (x.Loc + (1 : Int)).toNat)) ++ (⟨#[58]⟩ : ByteArray)) ++ ((⟨#[48, 49, 50, 51, 52, 53, 54, 55, 56, 57]⟩ : ByteArray).extract x.Val.toNat (x.Val + (1 : Int)).toNat))]) (.cons (.tmp rfl) .nil) (.of_isF 9 _ rfl)
        · replace h := condF q16 h
          refine T.skip ?_
          refine T.seq ?_
          refine T.clean (H0 := []) (e0 := envOf []) rfl weak_nil ?_
          refine T.region ?_
          refine oN (EvN.asg (St (⟨#[102, 101, 110, 99, 101]⟩ : ByteArray)) rfl) ?_
          refine TO.nil ?_
          refine T.ret ?_
          obtain rfl := Option.some.inj h
          repeat first | refine retS ?_ | refine retB ?_
          exact Fin.ret (vs := [St (⟨#[102, 101, 110, 99, 101]⟩ : ByteArray)]) (.cons (.tmp rfl) .nil) (.of_isF 9 _ rfl)

theorem F_impl_eventText_P (p : List (List Ximpl_Instr)) (e_ : Ximpl_Event) {q : ByteArray} (h : F_impl_eventText p e_ = some q) : PCall Tryd.prog 19 [eL (cL Ximpl_Instr.c) p, .agg (Ximpl_Event.c e_)] (St q) := by
  refine PCall.mkT Tryd.func19 rfl (by kernel_rfl) rfl (by kernel_rfl) (e0 := envOf [(0, eL (cL Ximpl_Instr.c) p), (1, .agg (Ximpl_Event.c e_))]) (weak_cons rfl (weak_cons rfl weak_nil)) ?_
  refine T.seq ?_
  refine T.region ?_
  refine oN (EvN.bxF [I e_.Thread, I e_.Index, I e_.Loc, Bo e_.Reads, Bo e_.Writes] rfl rfl rfl) ?_
  refine oN (EvN.asg (St (⟨#[]⟩ : ByteArray)) rfl) ?_
  refine TO.nil ?_
  refine T.seq ?_
  refine T.seq ?_
  refine T.region ?_
  refine oN (EvN.fafp Tryd.underlying35 rfl (by kernel_rfl) rfl) ?_
  refine oN (EvN.loadfp (I e_.Thread) ty3 rfl rfl) ?_
  refine oN (EvN.ilt rfl rfl) ?_
  refine TO.nil ?_
  refine T.cond rfl (fun q1 => ?_) (fun q1 => ?_)
  · replace h := condT q1 h
    refine T.seq ?_
    refine T.clean (H0 := []) (e0 := envOf [(3, .fp (Ximpl_Event.c e_) 0)]) rfl (weak_cons rfl weak_nil) ?_
    refine T.region ?_
    refine oN (EvN.fafp Tryd.underlying35 rfl (by kernel_rfl) rfl) ?_
    refine oN (EvN.loadfp (I e_.Loc) ty3 rfl rfl) ?_
    refine oN (EvN.fafp Tryd.underlying35 rfl (by kernel_rfl) rfl) ?_
    refine oN (EvN.loadfp (I e_.Loc) ty3 rfl rfl) ?_
    obtain ⟨g2, h⟩ := gdW h
    refine oN (EvN.add rfl rfl g2) ?_
    obtain ⟨g3, h⟩ := gdD h
    refine oN (EvN.slst Tryd.underlying9 rfl (.yes rfl) (.yes rfl) g3) ?_
    obtain ⟨g4, h⟩ := gdD h
    refine oN (EvN.cat rfl rfl g4) ?_
    refine oN (EvN.asg (St ((⟨#[102, 105, 114, 115, 116, 32]⟩ : ByteArray) ++ ((⟨#[120, 121, 122]⟩ : ByteArray).extract e_.Loc.toNat (e_.Loc + (1 : Int)).toNat))) rfl) ?_
    refine TO.nil ?_
    refine T.ret ?_
    obtain rfl := Option.some.inj h
    repeat first | refine retS ?_ | refine retB ?_
    exact Fin.ret (vs := [St ((⟨#[102, 105, 114, 115, 116, 32]⟩ : ByteArray) ++ ((⟨#[120, 121, 122]⟩ : ByteArray).extract e_.Loc.toNat (e_.Loc + (1 : Int)).toNat))]) (.cons (.tmp rfl) .nil) (.of_isF 9 _ rfl)
  · replace h := condF q1 h
    refine T.skip ?_
    refine T.seq ?_
    refine T.drawF (fun _ => ([], false)) (by kernel_rfl) (by kernel_rfl) ?_
    refine fN rfl (EvN.fafp Tryd.underlying35 rfl (by kernel_rfl) rfl) ?_
    refine fN rfl (EvN.loadfp (I e_.Thread) ty3 rfl rfl) ?_
    obtain ⟨v5, cv5, h⟩ := bindL h
    refine fN rfl (EvN.call rfl rfl rfl (F_strconv_Itoa_P e_.Thread cv5) rfl) ?_
    obtain ⟨g6, h⟩ := gdD h
    refine fN rfl (EvN.cat rfl rfl g6) ?_
    refine fN rfl (EvN.mv (eL (cL Ximpl_Instr.c) p) rfl) ?_
    refine fN rfl (EvN.fafp Tryd.underlying35 rfl (by kernel_rfl) rfl) ?_
    refine fN rfl (EvN.loadfp (I e_.Thread) ty3 rfl rfl) ?_
    obtain ⟨g7, h⟩ := gdD h
    refine fN rfl (EvN.ixL sl25 rfl rfl g7 (fun _ => rfl)) ?_
    refine fN rfl (EvN.loadfp (eL Ximpl_Instr.c (p.getD e_.Thread.toNat default)) ty40 rfl rfl) ?_
    refine fN rfl (EvN.fafp Tryd.underlying35 rfl (by kernel_rfl) rfl) ?_
    refine fN rfl (EvN.loadfp (I e_.Index) ty3 rfl rfl) ?_
    obtain ⟨g8, h⟩ := gdD h
    refine fN rfl (EvN.ixL sl40 rfl rfl g8 (fun _ => rfl)) ?_
    refine fN rfl (EvN.loadfp (.agg (Ximpl_Instr.c ((p.getD e_.Thread.toNat default).getD e_.Index.toNat default))) ty39 rfl rfl) ?_
    obtain ⟨v9, cv9, h⟩ := bindL h
    refine fN rfl (EvN.call rfl rfl rfl (F_impl_instrText_P ((p.getD e_.Thread.toNat default).getD e_.Index.toNat default) cv9) rfl) ?_
    obtain ⟨g10, h⟩ := gdD h
    refine fN rfl (EvN.cat rfl rfl g10) ?_
    refine fN rfl (EvN.asg (St ((v5 ++ (⟨#[58]⟩ : ByteArray)) ++ v9)) rfl) ?_
    refine TF.nil ?_
    refine T.ret ?_
    obtain rfl := Option.some.inj h
    repeat first | refine retS ?_ | refine retB ?_
    exact Fin.ret (vs := [St ((v5 ++ (⟨#[58]⟩ : ByteArray)) ++ v9)]) (.cons (.tmp rfl) .nil) (.of_isF 9 _ rfl)

theorem F_impl_EventText_P (p : List (List Ximpl_Instr)) (i : Int) {q : ByteArray} (h : F_impl_EventText p i = some q) : PCall Tryd.prog 9 [eL (cL Ximpl_Instr.c) p, I i] (St q) := by
  refine PCall.mkT Tryd.func9 rfl (by kernel_rfl) rfl (by kernel_rfl) (e0 := envOf [(0, eL (cL Ximpl_Instr.c) p), (1, I i)]) (weak_cons rfl (weak_cons rfl weak_nil)) ?_
  refine T.seq ?_
  refine T.region ?_
  refine oN (EvN.asg (St (⟨#[]⟩ : ByteArray)) rfl) ?_
  refine TO.nil ?_
  refine T.seq ?_
  refine T.region ?_
  refine oN (EvN.mv (eL (cL Ximpl_Instr.c) p) rfl) ?_
  obtain ⟨v1, cv1, h⟩ := bindL h
  refine oN (EvN.call rfl rfl rfl (F_impl_EventsOf_P p cv1) rfl) ?_
  refine oN (EvN.asg (eL Ximpl_Event.c v1) rfl) ?_
  refine TO.nil ?_
  refine T.seq ?_
  refine T.seq ?_
  refine T.region ?_
  refine oN (EvN.mv (I i) rfl) ?_
  refine oN (EvN.mv (eL Ximpl_Event.c v1) rfl) ?_
  refine oN (EvN.lenL sl32 rfl) ?_
  obtain ⟨g2, h⟩ := gdW h
  refine oN (EvN.sub rfl rfl g2) ?_
  obtain ⟨v3, cv3, h⟩ := bindL h
  refine oN (EvN.call rfl rfl rfl (F_impl_within_P i (0 : Int) ((v1.length : Int) - (1 : Int)) cv3) rfl) ?_
  refine oN (EvN.not rfl) ?_
  refine TO.nil ?_
  refine T.cond rfl (fun q4 => ?_) (fun q4 => ?_)
  · replace h := condT q4 h
    refine T.seq ?_
    refine T.clean (H0 := []) (e0 := envOf []) rfl weak_nil ?_
    refine T.region ?_
    refine oN (EvN.asg (St (⟨#[]⟩ : ByteArray)) rfl) ?_
    refine TO.nil ?_
    refine T.ret ?_
    obtain rfl := Option.some.inj h
    repeat first | refine retS ?_ | refine retB ?_
    exact Fin.ret (vs := [St (⟨#[]⟩ : ByteArray)]) (.cons (.tmp rfl) .nil) (.of_isF 9 _ rfl)
  · replace h := condF q4 h
    refine T.skip ?_
    refine T.seq ?_
    refine T.clean (H0 := []) (e0 := envOf [(5, eL Ximpl_Event.c v1), (0, eL (cL Ximpl_Instr.c) p), (1, I i)]) rfl (weak_cons rfl (weak_cons rfl (weak_cons rfl weak_nil))) ?_
    refine T.region ?_
    refine oN (EvN.mv (eL (cL Ximpl_Instr.c) p) rfl) ?_
    refine oN (EvN.mv (eL Ximpl_Event.c v1) rfl) ?_
    refine oN (EvN.mv (I i) rfl) ?_
    obtain ⟨g5, h⟩ := gdD h
    refine oN (EvN.ixL sl32 rfl rfl g5 (fun _ => rfl)) ?_
    refine oN (EvN.loadfp (.agg (Ximpl_Event.c (v1.getD i.toNat default))) ty35 rfl rfl) ?_
    obtain ⟨v6, cv6, h⟩ := bindL h
    refine oN (EvN.call rfl rfl rfl (F_impl_eventText_P p (v1.getD i.toNat default) cv6) rfl) ?_
    refine oN (EvN.asg (St v6) rfl) ?_
    refine TO.nil ?_
    refine T.ret ?_
    obtain rfl := Option.some.inj h
    repeat first | refine retS ?_ | refine retB ?_
    exact Fin.ret (vs := [St v6]) (.cons (.tmp rfl) .nil) (.of_isF 9 _ rfl)

theorem F_spec_l1Reads_P (x : Ximpl_Instr) {q : Bool} (h : F_spec_l1Reads x = some q) : PCall Tryd.prog 47 [.agg (Ximpl_Instr.c x)] (Bo q) := by
  refine PCall.mkT Tryd.func47 rfl (by kernel_rfl) rfl (by kernel_rfl) (e0 := envOf [(0, .agg (Ximpl_Instr.c x))]) (weak_cons rfl weak_nil) ?_
  refine T.seq ?_
  refine T.region ?_
  refine oN (EvN.bxF [I x.Op, I x.Loc, I x.Reg, I x.Val] rfl rfl rfl) ?_
  refine oN (EvN.asg (Bo false) rfl) ?_
  refine TO.nil ?_
  refine T.seq ?_
  refine T.region ?_
  refine oN (EvN.fafp Tryd.underlying39 rfl (by kernel_rfl) rfl) ?_
  refine oN (EvN.loadfp (I x.Op) ty3 rfl rfl) ?_
  refine oN (EvN.ieq rfl rfl) ?_
  refine oN (EvN.mv (Bo (x.Op == (1 : Int))) rfl) ?_
  obtain ⟨s1, h, ks1⟩ := bindL h
  refine TO.joinF (G := Unit) 4 (fun _ => True) (fun _ => [(10, Bo s1)]) (fun _ => []) ?_ (fun js1 => ?_)
  rotate_left
  · clear ks1
    rcases bifL h with ⟨q2, h⟩ | ⟨q2, h⟩
    · refine gS rfl q2 ?_
      refine gS rfl q2 ?_
      refine gS rfl q2 ?_
      refine oN (EvN.pickT rfl q2 (Bo true) rfl) ?_
      obtain rfl := Option.some.inj h
      exact js1 _ _ ⟨(), trivial, cutW rfl (weak_cons rfl weak_nil)⟩
    · refine gN rfl q2 (EvN.fafp Tryd.underlying39 rfl (by kernel_rfl) rfl) ?_
      refine gN rfl q2 (EvN.loadfp (I x.Op) ty3 rfl rfl) ?_
      refine gN rfl q2 (EvN.ieq rfl rfl) ?_
      refine oN (EvN.pickF rfl q2 (Bo (x.Op == (5 : Int))) rfl) ?_
      obtain rfl := Option.some.inj h
      exact js1 _ _ ⟨(), trivial, cutW rfl (weak_cons rfl weak_nil)⟩
  · intro _ _
    replace h := ks1
    clear ks1
    refine oN (EvN.asg (Bo s1) rfl) ?_
    refine TO.nil ?_
    refine T.ret ?_
    obtain rfl := Option.some.inj h
    repeat first | refine retS ?_ | refine retB ?_
    exact Fin.ret (vs := [Bo s1]) (.cons (.tmp rfl) .nil) (.of_isF 9 _ rfl)

theorem F_spec_l1Writes_P (x : Ximpl_Instr) {q : Bool} (h : F_spec_l1Writes x = some q) : PCall Tryd.prog 48 [.agg (Ximpl_Instr.c x)] (Bo q) := by
  refine PCall.mkT Tryd.func48 rfl (by kernel_rfl) rfl (by kernel_rfl) (e0 := envOf [(0, .agg (Ximpl_Instr.c x))]) (weak_cons rfl weak_nil) ?_
  refine T.seq ?_
  refine T.region ?_
  refine oN (EvN.bxF [I x.Op, I x.Loc, I x.Reg, I x.Val] rfl rfl rfl) ?_
  refine oN (EvN.asg (Bo false) rfl) ?_
  refine TO.nil ?_
  refine T.seq ?_
  refine T.region ?_
  refine oN (EvN.fafp Tryd.underlying39 rfl (by kernel_rfl) rfl) ?_
  refine oN (EvN.loadfp (I x.Op) ty3 rfl rfl) ?_
  refine oN (EvN.ieq rfl rfl) ?_
  refine oN (EvN.mv (Bo (x.Op == (2 : Int))) rfl) ?_
  obtain ⟨s1, h, ks1⟩ := bindL h
  refine TO.joinF (G := Unit) 4 (fun _ => True) (fun _ => [(10, Bo s1), (1, .fp (Ximpl_Instr.c x) 0)]) (fun _ => []) ?_ (fun js1 => ?_)
  rotate_left
  · clear ks1
    rcases bifL h with ⟨q2, h⟩ | ⟨q2, h⟩
    · refine gS rfl q2 ?_
      refine gS rfl q2 ?_
      refine gS rfl q2 ?_
      refine oN (EvN.pickT rfl q2 (Bo true) rfl) ?_
      obtain rfl := Option.some.inj h
      exact js1 _ _ ⟨(), trivial, cutW rfl (weak_cons rfl (weak_cons rfl weak_nil))⟩
    · refine gN rfl q2 (EvN.fafp Tryd.underlying39 rfl (by kernel_rfl) rfl) ?_
      refine gN rfl q2 (EvN.loadfp (I x.Op) ty3 rfl rfl) ?_
      refine gN rfl q2 (EvN.ieq rfl rfl) ?_
      refine oN (EvN.pickF rfl q2 (Bo (x.Op == (3 : Int))) rfl) ?_
      obtain rfl := Option.some.inj h
      exact js1 _ _ ⟨(), trivial, cutW rfl (weak_cons rfl (weak_cons rfl weak_nil))⟩
  · intro _ _
    replace h := ks1
    clear ks1
    refine oN (EvN.mv (Bo s1) rfl) ?_
    obtain ⟨s3, h, ks3⟩ := bindL h
    refine TO.joinF (G := Unit) 4 (fun _ => True) (fun _ => [(15, Bo s3)]) (fun _ => []) ?_ (fun js3 => ?_)
    rotate_left
    · clear ks3
      rcases bifL h with ⟨q4, h⟩ | ⟨q4, h⟩
      · refine gS rfl q4 ?_
        refine gS rfl q4 ?_
        refine gS rfl q4 ?_
        refine oN (EvN.pickT rfl q4 (Bo true) rfl) ?_
        obtain rfl := Option.some.inj h
        exact js3 _ _ ⟨(), trivial, cutW rfl (weak_cons rfl weak_nil)⟩
      · refine gN rfl q4 (EvN.fafp Tryd.underlying39 rfl (by kernel_rfl) rfl) ?_
        refine gN rfl q4 (EvN.loadfp (I x.Op) ty3 rfl rfl) ?_
        refine gN rfl q4 (EvN.ieq rfl rfl) ?_
        refine oN (EvN.pickF rfl q4 (Bo (x.Op == (5 : Int))) rfl) ?_
        obtain rfl := Option.some.inj h
        exact js3 _ _ ⟨(), trivial, cutW rfl (weak_cons rfl weak_nil)⟩
    · intro _ _
      replace h := ks3
      clear ks3
      refine oN (EvN.asg (Bo s3) rfl) ?_
      refine TO.nil ?_
      refine T.ret ?_
      obtain rfl := Option.some.inj h
      repeat first | refine retS ?_ | refine retB ?_
      exact Fin.ret (vs := [Bo s3]) (.cons (.tmp rfl) .nil) (.of_isF 9 _ rfl)

theorem F_spec_l6Events_P (p : List (List Ximpl_Instr)) {q : (List Ximpl_Event)} (h : F_spec_l6Events p = some q) : PCall Tryd.prog 30 [eL (cL Ximpl_Instr.c) p] (eL Ximpl_Event.c q) := by
  refine PCall.mkT Tryd.func30 rfl (by kernel_rfl) rfl (by kernel_rfl) (e0 := envOf [(0, eL (cL Ximpl_Instr.c) p)]) (weak_cons rfl weak_nil) ?_
  refine T.seq ?_
  refine T.region ?_
  refine oN (EvN.asg (.nil) rfl) ?_
  refine TO.nil ?_
  refine T.seq ?_
  refine T.region ?_
  refine oA (EvA.mkO (c := Ximpl_Event.c) ([] : List Ximpl_Event) [] sl32 rfl rfl rfl (fun _ => rfl) rfl rfl) ?_
  refine oN (EvN.asg (hS false 0 0 5 (([] : List Ximpl_Event).length)) rfl) ?_
  refine TO.nil ?_
  obtain ⟨s1, h, ks1⟩ := bindL h
  refine T.joinF (G := Nat) (fun gh => True) (fun gh => [(3, hS false 0 gh 5 s1.length), (0, eL (cL Ximpl_Instr.c) p)]) (fun gh => [bE false gh 5 35 (s1.map Ximpl_Event.c)]) (fun u9 hg => ?_) ?_
  · clear h
    have h := ks1
    clear ks1
    obtain ⟨s10, h, ks10⟩ := bindL h
    refine T.joinF (G := Nat) (fun gh => True) (fun gh => [(3, hS false 0 gh 5 s10.length)]) (fun gh => [bE false gh 5 35 (s10.map Ximpl_Event.c)]) (fun u33 hg => ?_) ?_
    · clear h
      have h := ks10
      clear ks10
      refine T.seq ?_
      refine T.region ?_
      refine oN (EvN.mv (hS false 0 u33 5 s10.length) rfl) ?_
      refine oN (EvN.asg (hS false 0 u33 5 s10.length) rfl) ?_
      refine TO.nil ?_
      refine T.ret ?_
      obtain rfl := Option.some.inj h
      repeat first | refine retS ?_ | refine retB ?_
      exact Fin.ret (vs := [hS false 0 u33 5 s10.length]) (.cons (.tmp rfl) .nil) (Fz.own (g := false) (ver := u33) (l := s10) rfl rfl rfl nofun Ximpl_Event.isF)
    · clear ks10
      refine T.seq ?_
      refine T.region ?_
      refine oN (EvN.asg (I (0 : Int)) rfl) ?_
      refine TO.nil ?_
      refine T.block ?_
      refine T.loop (S := (List Ximpl_Event) × Int) (G := Nat) (F_spec_l6Events_L13 p) (fun s12 gh => True) (fun s12 gh => [(5, I s12.2), (3, hS false 0 gh 5 s12.1.length), (0, eL (cL Ximpl_Instr.c) p)]) (fun s12 gh => [bE false gh 5 35 (s12.1.map Ximpl_Event.c)]) (s0 := (s1, (0 : Int))) u9 h trivial (cutW rfl (weak_cons rfl (weak_cons rfl (weak_cons rfl weak_nil)))) (fun s12 u14 ws12 h hg => ?_)
      refine T.seq ?_
      refine T.seq ?_
      refine T.region ?_
      refine oN (EvN.mv (I s12.2) rfl) ?_
      refine oN (EvN.mv (eL (cL Ximpl_Instr.c) p) rfl) ?_
      refine oN (EvN.lenL sl25 rfl) ?_
      refine oN (EvN.ilt rfl rfl) ?_
      refine TO.nil ?_
      refine T.cond rfl (fun q15 => ?_) (fun q15 => ?_)
      · replace h := condT q15 h
        refine T.skip ?_
        obtain ⟨s16, h, ks16⟩ := bindL h
        refine T.joinF (G := Nat) (fun gh => True) (fun gh => [(5, I s12.2), (3, hS false 0 gh 5 s16.length), (0, eL (cL Ximpl_Instr.c) p)]) (fun gh => [bE false gh 5 35 (s16.map Ximpl_Event.c)]) (fun u31 hg => ?_) ?_
        · clear h
          have h := ks16
          clear ks16
          refine T.region ?_
          refine oN (EvN.mv (I s12.2) rfl) ?_
          obtain ⟨g32, h⟩ := gdW h
          refine oN (EvN.add rfl rfl g32) ?_
          refine oN (EvN.asg (I (s12.2 + (1 : Int))) rfl) ?_
          refine TO.nil ?_
          obtain rfl := Option.some.inj h
          exact ⟨(s16, (s12.2 + (1 : Int))), u31, rfl, trivial, cutW rfl (weak_cons rfl (weak_cons rfl (weak_cons rfl weak_nil)))⟩
        · clear ks16
          refine T.block ?_
          refine T.seq ?_
          refine T.region ?_
          refine oN (EvN.asg (I (0 : Int)) rfl) ?_
          refine TO.nil ?_
          refine T.block ?_
          refine T.loop (S := (List Ximpl_Event) × Int) (G := Nat) (F_spec_l6Events_L19 p s12) (fun s18 gh => True) (fun s18 gh => [(6, I s18.2), (5, I s12.2), (3, hS false 0 gh 5 s18.1.length), (0, eL (cL Ximpl_Instr.c) p)]) (fun s18 gh => [bE false gh 5 35 (s18.1.map Ximpl_Event.c)]) (s0 := (s12.1, (0 : Int))) u14 h trivial (cutW rfl (weak_cons rfl (weak_cons rfl (weak_cons rfl (weak_cons rfl weak_nil))))) (fun s18 u20 ws18 h hg => ?_)
          refine T.seq ?_
          refine T.seq ?_
          refine T.region ?_
          refine oN (EvN.mv (I s18.2) rfl) ?_
          refine oN (EvN.mv (eL (cL Ximpl_Instr.c) p) rfl) ?_
          refine oN (EvN.mv (I s12.2) rfl) ?_
          obtain ⟨g21, h⟩ := gdD h
          refine oN (EvN.ixL sl25 rfl rfl g21 (fun _ => rfl)) ?_
          refine oN (EvN.loadfp (eL Ximpl_Instr.c (p.getD s12.2.toNat default)) ty40 rfl rfl) ?_
          refine oN (EvN.lenL sl40 rfl) ?_
          refine oN (EvN.ilt rfl rfl) ?_
          refine TO.nil ?_
          refine T.cond rfl (fun q22 => ?_) (fun q22 => ?_)
          · replace h := condT q22 h
            refine T.skip ?_
            obtain ⟨s23, h, ks23⟩ := bindL h
            refine T.joinF (G := Nat) (fun gh => True) (fun gh => [(3, hS false 0 gh 5 s23.length), (6, I s18.2), (5, I s12.2), (0, eL (cL Ximpl_Instr.c) p)]) (fun gh => [bE false gh 5 35 (s23.map Ximpl_Event.c)]) (fun u29 hg => ?_) ?_
            · clear h
              have h := ks23
              clear ks23
              refine T.region ?_
              refine oN (EvN.mv (I s18.2) rfl) ?_
              obtain ⟨g30, h⟩ := gdW h
              refine oN (EvN.add rfl rfl g30) ?_
              refine oN (EvN.asg (I (s18.2 + (1 : Int))) rfl) ?_
              refine TO.nil ?_
              obtain rfl := Option.some.inj h
              exact ⟨(s23, (s18.2 + (1 : Int))), u29, rfl, trivial, cutW rfl (weak_cons rfl (weak_cons rfl (weak_cons rfl (weak_cons rfl weak_nil))))⟩
            · clear ks23
              refine T.block ?_
              refine T.seq ?_
              refine T.clean (H0 := [bE false u20 5 35 (s18.1.map Ximpl_Event.c)]) (e0 := envOf [(6, I s18.2), (5, I s12.2), (3, hS false 0 u20 5 s18.1.length), (0, eL (cL Ximpl_Instr.c) p)]) rfl (weak_cons rfl (weak_cons rfl (weak_cons rfl (weak_cons rfl weak_nil)))) ?_
              refine T.region ?_
              refine oN (EvN.mv (eL (cL Ximpl_Instr.c) p) rfl) ?_
              refine oN (EvN.mv (I s12.2) rfl) ?_
              refine oN (EvN.ixL sl25 rfl rfl g21 (fun _ => rfl)) ?_
              refine oN (EvN.loadfp (eL Ximpl_Instr.c (p.getD s12.2.toNat default)) ty40 rfl rfl) ?_
              refine oN (EvN.mv (I s18.2) rfl) ?_
              obtain ⟨g24, h⟩ := gdD h
              refine oN (EvN.ixL sl40 rfl rfl g24 (fun _ => rfl)) ?_
              refine oN (EvN.loadfp (.agg (Ximpl_Instr.c ((p.getD s12.2.toNat default).getD s18.2.toNat default))) ty39 rfl rfl) ?_
              refine oA (EvA.al zs39 rfl rfl) ?_
              refine oV (EvA.st (cs := [I (((p.getD s12.2.toNat default).getD s18.2.toNat default).Op), I (((p.getD s12.2.toNat default).getD s18.2.toNat default).Loc), I (((p.getD s12.2.toNat default).getD s18.2.toNat default).Reg), I (((p.getD s12.2.toNat default).getD s18.2.toNat default).Val)]) ⟨0, 4, 39, [[I (((p.getD s12.2.toNat default).getD s18.2.toNat default).Op), I (((p.getD s12.2.toNat default).getD s18.2.toNat default).Loc), I (((p.getD s12.2.toNat default).getD s18.2.toNat default).Reg), I (((p.getD s12.2.toNat default).getD s18.2.toNat default).Val)]]⟩ ty39 rfl rfl rfl rfl rfl rfl rfl rfl rfl) ?_
              refine TO.nil ?_
              refine T.seq ?_
              refine T.clean (H0 := [bE false u20 5 35 (s18.1.map Ximpl_Event.c), some ⟨0, 4, 39, [[I (((p.getD s12.2.toNat default).getD s18.2.toNat default).Op), I (((p.getD s12.2.toNat default).getD s18.2.toNat default).Loc), I (((p.getD s12.2.toNat default).getD s18.2.toNat default).Reg), I (((p.getD s12.2.toNat default).getD s18.2.toNat default).Val)]]⟩]) (e0 := envOf [(7, .hp 1 0 4 0 0), (6, I s18.2), (5, I s12.2), (3, hS false 0 u20 5 s18.1.length), (0, eL (cL Ximpl_Instr.c) p)]) rfl (weak_cons rfl (weak_cons rfl (weak_cons rfl (weak_cons rfl (weak_cons rfl weak_nil))))) ?_
              refine T.region ?_
              refine oN (EvN.fahp Tryd.underlying39 rfl (by kernel_rfl) rfl) ?_
              refine oA (EvA.loadhp (I (((p.getD s12.2.toNat default).getD s18.2.toNat default).Op)) ty3 rfl rfl rfl rfl rfl rfl) ?_
              refine oN (EvN.ine rfl rfl) ?_
              refine TO.nil ?_
              refine T.cond rfl (fun q25 => ?_) (fun q25 => ?_)
              · replace h := condT q25 h
                refine T.drawF (fun i => [([], false), ([], false), ([], false), ([], false), ([1], false), ([1], false), ([], false), ([1], false), ([], false), ([], false), ([], false), ([0], true), ([], false)].getD i ([], false)) (by kernel_rfl) (by kernel_rfl) ?_
                refine fN rfl (EvN.mv (hS false 0 u20 5 s18.1.length) rfl) ?_
                refine fN rfl (EvN.mv (I s12.2) rfl) ?_
                refine fN rfl (EvN.mv (I s18.2) rfl) ?_
                refine fN rfl (EvN.fahp Tryd.underlying39 rfl (by kernel_rfl) rfl) ?_
                refine fR [1] rfl (fun G hG => EvA.loadhp (I (((p.getD s12.2.toNat default).getD s18.2.toNat default).Loc)) ty3 rfl (hG.a0 rfl) rfl rfl rfl rfl) ?_
                refine fR [1] rfl (fun G hG => EvA.loadhp (.agg [I (((p.getD s12.2.toNat default).getD s18.2.toNat default).Op), I (((p.getD s12.2.toNat default).getD s18.2.toNat default).Loc), I (((p.getD s12.2.toNat default).getD s18.2.toNat default).Reg), I (((p.getD s12.2.toNat default).getD s18.2.toNat default).Val)]) ty39 rfl (hG.a0 rfl) rfl rfl rfl rfl) ?_
                obtain ⟨v26, cv26, h⟩ := bindL h
                refine fN rfl (EvN.call rfl rfl rfl (F_spec_l1Reads_P (⟨((p.getD s12.2.toNat default).getD s18.2.toNat default).Op, ((p.getD s12.2.toNat default).getD s18.2.toNat default).Loc, ((p.getD s12.2.toNat default).getD s18.2.toNat default).Reg, ((p.getD s12.2.toNat default).getD s18.2.toNat default).Val⟩ : Ximpl_Instr) cv26) rfl) ?_
                refine fR [1] rfl (fun G hG => EvA.loadhp (.agg [I (((p.getD s12.2.toNat default).getD s18.2.toNat default).Op), I (((p.getD s12.2.toNat default).getD s18.2.toNat default).Loc), I (((p.getD s12.2.toNat default).getD s18.2.toNat default).Reg), I (((p.getD s12.2.toNat default).getD s18.2.toNat default).Val)]) ty39 rfl (hG.a0 rfl) rfl rfl rfl rfl) ?_
                obtain ⟨v27, cv27, h⟩ := bindL h
                refine fN rfl (EvN.call rfl rfl rfl (F_spec_l1Writes_P (⟨((p.getD s12.2.toNat default).getD s18.2.toNat default).Op, ((p.getD s12.2.toNat default).getD s18.2.toNat default).Loc, ((p.getD s12.2.toNat default).getD s18.2.toNat default).Reg, ((p.getD s12.2.toNat default).getD s18.2.toNat default).Val⟩ : Ximpl_Instr) cv27) rfl) ?_
                refine fN rfl (EvN.build [I s12.2, I s18.2, I (((p.getD s12.2.toNat default).getD s18.2.toNat default).Loc), Bo v26, Bo v27] Tryd.underlying35 zs35 fs35 rfl rfl) ?_
                refine fN rfl (EvN.mkF (c := Ximpl_Event.c) ([(⟨s12.2, s18.2, ((p.getD s12.2.toNat default).getD s18.2.toNat default).Loc, v26, v27⟩ : Ximpl_Event)] : List Ximpl_Event) [[I s12.2, I s18.2, I (((p.getD s12.2.toNat default).getD s18.2.toNat default).Loc), Bo v26, Bo v27]] sl32 rfl rfl rfl (fun _ => rfl) Ximpl_Event.isF rfl) ?_
                obtain ⟨g28, h⟩ := gdL h
                refine fW 0 [] rfl rfl (fun G hG => EvA.app1 (g := false) (l := s18.1) (⟨s12.2, s18.2, ((p.getD s12.2.toNat default).getD s18.2.toNat default).Loc, v26, v27⟩ : Ximpl_Event) sl32 (by kernel_rfl) rfl rfl (hG.a0 rfl) nofun (SrcOk.fz (l := ([(⟨s12.2, s18.2, ((p.getD s12.2.toNat default).getD s18.2.toNat default).Loc, v26, v27⟩ : Ximpl_Event)] : List Ximpl_Event)) rfl (fun _ => rfl)) g28) ?_
                refine fN rfl (EvN.asg (hS false 0 (u20 + 1) 5 ((s18.1 ++ [(⟨s12.2, s18.2, ((p.getD s12.2.toNat default).getD s18.2.toNat default).Loc, v26, v27⟩ : Ximpl_Event)]).length)) rfl) ?_
                refine TF.nil ?_
                obtain rfl := Option.some.inj h
                exact ⟨u20 + 1, trivial, cutS rfl (.cons (.list (g := false) (ver := u20 + 1) (l := (s18.1 ++ [(⟨s12.2, s18.2, ((p.getD s12.2.toNat default).getD s18.2.toNat default).Loc, v26, v27⟩ : Ximpl_Event)])) Ximpl_Event.isF) .nil) (stl_cons (.hS (g := false) (b := 0) (ver := u20 + 1) (s := 5) (n := (s18.1 ++ [(⟨s12.2, s18.2, ((p.getD s12.2.toNat default).getD s18.2.toNat default).Loc, v26, v27⟩ : Ximpl_Event)]).length) rfl) (stl_cons (.fz (.of_isF 9 _ rfl)) (stl_cons (.fz (.of_isF 9 _ rfl)) (stl_cons (.fz (.of_isF 9 _ rfl)) stl_nil))))⟩
              · replace h := condF q25 h
                refine T.skip ?_
                obtain rfl := Option.some.inj h
                exact ⟨u20, trivial, cutS rfl (.cons (.list (g := false) (ver := u20) (l := s18.1) Ximpl_Event.isF) .nil) (stl_cons (.hS (g := false) (b := 0) (ver := u20) (s := 5) (n := s18.1.length) rfl) (stl_cons (.fz (.of_isF 9 _ rfl)) (stl_cons (.fz (.of_isF 9 _ rfl)) (stl_cons (.fz (.of_isF 9 _ rfl)) stl_nil))))⟩
          · replace h := condF q22 h
            refine T.exit ?_
            refine ⟨_, (Option.some.inj h).symm, fun h => ?_⟩
            replace h := congrArg some h
            obtain rfl := Option.some.inj h
            exact ⟨u20, trivial, cutW rfl (weak_cons rfl (weak_cons rfl (weak_cons rfl weak_nil)))⟩
      · replace h := condF q15 h
        refine T.exit ?_
        refine ⟨_, (Option.some.inj h).symm, fun h => ?_⟩
        replace h := congrArg some h
        obtain rfl := Option.some.inj h
        exact ⟨u14, trivial, cutW rfl (weak_cons rfl weak_nil)⟩
  · clear ks1
    refine T.seq ?_
    refine T.region ?_
    refine oN (EvN.asg (I (0 : Int)) rfl) ?_
    refine TO.nil ?_
    refine T.block ?_
    refine T.loop (S := (List Ximpl_Event) × Int) (G := Nat) F_spec_l6Events_L4 (fun s3 gh => True) (fun s3 gh => [(4, I s3.2), (3, hS false 0 gh 5 s3.1.length), (0, eL (cL Ximpl_Instr.c) p)]) (fun s3 gh => [bE false gh 5 35 (s3.1.map Ximpl_Event.c)]) (s0 := (([] : List Ximpl_Event), (0 : Int))) 0 h trivial (cutW rfl (weak_cons rfl (weak_cons rfl (weak_cons rfl weak_nil)))) (fun s3 u5 ws3 h hg => ?_)
    refine T.seq ?_
    refine T.seq ?_
    refine T.region ?_
    refine oN (EvN.mv (I s3.2) rfl) ?_
    refine oN (EvN.ile rfl rfl) ?_
    refine TO.nil ?_
    refine T.cond rfl (fun q6 => ?_) (fun q6 => ?_)
    · replace h := condT q6 h
      refine T.skip ?_
      refine T.seq ?_
      refine T.block ?_
      refine T.region ?_
      refine oN (EvN.mv (hS false 0 u5 5 s3.1.length) rfl) ?_
      refine oN (EvN.mv (I s3.2) rfl) ?_
      refine oN (EvN.mv (I s3.2) rfl) ?_
      refine oN (EvN.build [I (-1 : Int), I s3.2, I s3.2, Bo false, Bo true] Tryd.underlying35 zs35 fs35 rfl rfl) ?_
      refine oN (EvN.mkF (c := Ximpl_Event.c) ([(⟨(-1 : Int), s3.2, s3.2, false, true⟩ : Ximpl_Event)] : List Ximpl_Event) [[I (-1 : Int), I s3.2, I s3.2, Bo false, Bo true]] sl32 rfl rfl rfl (fun _ => rfl) Ximpl_Event.isF rfl) ?_
      obtain ⟨g7, h⟩ := gdL h
      refine oA (EvA.app1 (g := false) (l := s3.1) (⟨(-1 : Int), s3.2, s3.2, false, true⟩ : Ximpl_Event) sl32 (by kernel_rfl) rfl rfl rfl nofun (SrcOk.fz (l := ([(⟨(-1 : Int), s3.2, s3.2, false, true⟩ : Ximpl_Event)] : List Ximpl_Event)) rfl (fun _ => rfl)) g7) ?_
      refine oN (EvN.asg (hS false 0 (u5 + 1) 5 ((s3.1 ++ [(⟨(-1 : Int), s3.2, s3.2, false, true⟩ : Ximpl_Event)]).length)) rfl) ?_
      refine TO.nil ?_
      refine T.clean (H0 := [bE false (u5 + 1) 5 35 ((s3.1 ++ [(⟨(-1 : Int), s3.2, s3.2, false, true⟩ : Ximpl_Event)]).map Ximpl_Event.c)]) (e0 := envOf [(3, hS false 0 (u5 + 1) 5 ((s3.1 ++ [(⟨(-1 : Int), s3.2, s3.2, false, true⟩ : Ximpl_Event)]).length)), (4, I s3.2), (0, eL (cL Ximpl_Instr.c) p)]) rfl (weak_cons rfl (weak_cons rfl (weak_cons rfl weak_nil))) ?_
      refine T.region ?_
      refine oN (EvN.mv (I s3.2) rfl) ?_
      obtain ⟨g8, h⟩ := gdW h
      refine oN (EvN.add rfl rfl g8) ?_
      refine oN (EvN.asg (I (s3.2 + (1 : Int))) rfl) ?_
      refine TO.nil ?_
      obtain rfl := Option.some.inj h
      exact ⟨((s3.1 ++ [(⟨(-1 : Int), s3.2, s3.2, false, true⟩ : Ximpl_Event)]), (s3.2 + (1 : Int))), u5 + 1, rfl, trivial, cutW rfl (weak_cons rfl (weak_cons rfl (weak_cons rfl weak_nil)))⟩
    · replace h := condF q6 h
      refine T.exit ?_
      refine ⟨_, (Option.some.inj h).symm, fun h => ?_⟩
      replace h := congrArg some h
      obtain rfl := Option.some.inj h
      exact ⟨u5, trivial, cutW rfl (weak_cons rfl (weak_cons rfl weak_nil))⟩

theorem F_spec_EventsOf_P (p : List (List Ximpl_Instr)) {q : (List Ximpl_Event)} (h : F_spec_EventsOf p = some q) : PCall Tryd.prog 15 [eL (cL Ximpl_Instr.c) p] (eL Ximpl_Event.c q) := by
  refine PCall.mkT Tryd.func15 rfl (by kernel_rfl) rfl (by kernel_rfl) (e0 := envOf [(0, eL (cL Ximpl_Instr.c) p)]) (weak_cons rfl weak_nil) ?_
  refine T.seq ?_
  refine T.region ?_
  refine oN (EvN.asg (.nil) rfl) ?_
  refine TO.nil ?_
  refine T.seq ?_
  refine T.seq ?_
  refine T.region ?_
  refine oN (EvN.mv (eL (cL Ximpl_Instr.c) p) rfl) ?_
  obtain ⟨v1, cv1, h⟩ := bindL h
  refine oN (EvN.call rfl rfl rfl (F_spec_ProgramValid_P p cv1) rfl) ?_
  refine oN (EvN.not rfl) ?_
  refine TO.nil ?_
  refine T.cond rfl (fun q2 => ?_) (fun q2 => ?_)
  · replace h := condT q2 h
    refine T.seq ?_
    refine T.region ?_
    refine oN (EvN.mkF (c := Ximpl_Event.c) ([] : List Ximpl_Event) [] sl32 rfl rfl rfl (fun _ => rfl) Ximpl_Event.isF rfl) ?_
    refine oN (EvN.asg (eL Ximpl_Event.c ([] : List Ximpl_Event)) rfl) ?_
    refine TO.nil ?_
    refine T.ret ?_
    obtain rfl := Option.some.inj h
    repeat first | refine retS ?_ | refine retB ?_
    exact Fin.ret (vs := [eL Ximpl_Event.c ([] : List Ximpl_Event)]) (.cons (.tmp rfl) .nil) (.of_isF 9 _ rfl)
  · replace h := condF q2 h
    refine T.skip ?_
    refine T.seq ?_
    refine T.region ?_
    refine oN (EvN.mv (eL (cL Ximpl_Instr.c) p) rfl) ?_
    obtain ⟨v3, cv3, h⟩ := bindL h
    refine oN (EvN.call rfl rfl rfl (F_spec_l6Events_P p cv3) rfl) ?_
    refine oN (EvN.asg (eL Ximpl_Event.c v3) rfl) ?_
    refine TO.nil ?_
    refine T.ret ?_
    obtain rfl := Option.some.inj h
    repeat first | refine retS ?_ | refine retB ?_
    exact Fin.ret (vs := [eL Ximpl_Event.c v3]) (.cons (.tmp rfl) .nil) (.of_isF 9 _ rfl)

theorem F_spec_l15Event_P (p : List (List Ximpl_Instr)) (e_ : Ximpl_Event) {q : ByteArray} (h : F_spec_l15Event p e_ = some q) : PCall Tryd.prog 16 [eL (cL Ximpl_Instr.c) p, .agg (Ximpl_Event.c e_)] (St q) := by
  refine PCall.mkT Tryd.func16 rfl (by kernel_rfl) rfl (by kernel_rfl) (e0 := envOf [(0, eL (cL Ximpl_Instr.c) p), (1, .agg (Ximpl_Event.c e_))]) (weak_cons rfl (weak_cons rfl weak_nil)) ?_
  refine T.seq ?_
  refine T.region ?_
  refine oN (EvN.bxF [I e_.Thread, I e_.Index, I e_.Loc, Bo e_.Reads, Bo e_.Writes] rfl rfl rfl) ?_
  refine oN (EvN.asg (St (⟨#[]⟩ : ByteArray)) rfl) ?_
  refine TO.nil ?_
  refine T.seq ?_
  refine T.seq ?_
  refine T.region ?_
  refine oN (EvN.fafp Tryd.underlying35 rfl (by kernel_rfl) rfl) ?_
  refine oN (EvN.loadfp (I e_.Thread) ty3 rfl rfl) ?_
  refine oN (EvN.ilt rfl rfl) ?_
  refine TO.nil ?_
  refine T.cond rfl (fun q1 => ?_) (fun q1 => ?_)
  · replace h := condT q1 h
    refine T.seq ?_
    refine T.clean (H0 := []) (e0 := envOf [(3, .fp (Ximpl_Event.c e_) 0)]) rfl (weak_cons rfl weak_nil) ?_
    refine T.region ?_
    refine oN (EvN.fafp Tryd.underlying35 rfl (by kernel_rfl) rfl) ?_
    refine oN (EvN.loadfp (I e_.Loc) ty3 rfl rfl) ?_
    obtain ⟨v2, cv2, h⟩ := bindL h
    refine oN (EvN.call rfl rfl rfl (F_spec_l1Letter_P (120 : Int) e_.Loc cv2) rfl) ?_
    obtain ⟨g3, h⟩ := gdD h
    refine oN (EvN.cat rfl rfl g3) ?_
    refine oN (EvN.asg (St ((⟨#[102, 105, 114, 115, 116, 32]⟩ : ByteArray) ++ v2)) rfl) ?_
    refine TO.nil ?_
    refine T.ret ?_
    obtain rfl := Option.some.inj h
    repeat first | refine retS ?_ | refine retB ?_
    exact Fin.ret (vs := [St ((⟨#[102, 105, 114, 115, 116, 32]⟩ : ByteArray) ++ v2)]) (.cons (.tmp rfl) .nil) (.of_isF 9 _ rfl)
  · replace h := condF q1 h
    refine T.skip ?_
    refine T.seq ?_
    refine T.drawF (fun _ => ([], false)) (by kernel_rfl) (by kernel_rfl) ?_
    refine fN rfl (EvN.fafp Tryd.underlying35 rfl (by kernel_rfl) rfl) ?_
    refine fN rfl (EvN.loadfp (I e_.Thread) ty3 rfl rfl) ?_
    obtain ⟨v4, cv4, h⟩ := bindL h
    refine fN rfl (EvN.call rfl rfl rfl (F_spec_l17Dec_P e_.Thread cv4) rfl) ?_
    obtain ⟨g5, h⟩ := gdD h
    refine fN rfl (EvN.cat rfl rfl g5) ?_
    refine fN rfl (EvN.mv (eL (cL Ximpl_Instr.c) p) rfl) ?_
    refine fN rfl (EvN.fafp Tryd.underlying35 rfl (by kernel_rfl) rfl) ?_
    refine fN rfl (EvN.loadfp (I e_.Thread) ty3 rfl rfl) ?_
    obtain ⟨g6, h⟩ := gdD h
    refine fN rfl (EvN.ixL sl25 rfl rfl g6 (fun _ => rfl)) ?_
    refine fN rfl (EvN.loadfp (eL Ximpl_Instr.c (p.getD e_.Thread.toNat default)) ty40 rfl rfl) ?_
    refine fN rfl (EvN.fafp Tryd.underlying35 rfl (by kernel_rfl) rfl) ?_
    refine fN rfl (EvN.loadfp (I e_.Index) ty3 rfl rfl) ?_
    obtain ⟨g7, h⟩ := gdD h
    refine fN rfl (EvN.ixL sl40 rfl rfl g7 (fun _ => rfl)) ?_
    refine fN rfl (EvN.loadfp (.agg (Ximpl_Instr.c ((p.getD e_.Thread.toNat default).getD e_.Index.toNat default))) ty39 rfl rfl) ?_
    obtain ⟨v8, cv8, h⟩ := bindL h
    refine fN rfl (EvN.call rfl rfl rfl (F_spec_l1Text_P ((p.getD e_.Thread.toNat default).getD e_.Index.toNat default) cv8) rfl) ?_
    obtain ⟨g9, h⟩ := gdD h
    refine fN rfl (EvN.cat rfl rfl g9) ?_
    refine fN rfl (EvN.asg (St ((v4 ++ (⟨#[58]⟩ : ByteArray)) ++ v8)) rfl) ?_
    refine TF.nil ?_
    refine T.ret ?_
    obtain rfl := Option.some.inj h
    repeat first | refine retS ?_ | refine retB ?_
    exact Fin.ret (vs := [St ((v4 ++ (⟨#[58]⟩ : ByteArray)) ++ v8)]) (.cons (.tmp rfl) .nil) (.of_isF 9 _ rfl)

theorem F_spec_EventText_P (p : List (List Ximpl_Instr)) (i : Int) {q : ByteArray} (h : F_spec_EventText p i = some q) : PCall Tryd.prog 7 [eL (cL Ximpl_Instr.c) p, I i] (St q) := by
  refine PCall.mkT Tryd.func7 rfl (by kernel_rfl) rfl (by kernel_rfl) (e0 := envOf [(0, eL (cL Ximpl_Instr.c) p), (1, I i)]) (weak_cons rfl (weak_cons rfl weak_nil)) ?_
  refine T.seq ?_
  refine T.region ?_
  refine oN (EvN.asg (St (⟨#[]⟩ : ByteArray)) rfl) ?_
  refine TO.nil ?_
  refine T.seq ?_
  refine T.region ?_
  refine oN (EvN.mv (eL (cL Ximpl_Instr.c) p) rfl) ?_
  obtain ⟨v1, cv1, h⟩ := bindL h
  refine oN (EvN.call rfl rfl rfl (F_spec_EventsOf_P p cv1) rfl) ?_
  refine oN (EvN.asg (eL Ximpl_Event.c v1) rfl) ?_
  refine TO.nil ?_
  refine T.seq ?_
  refine T.seq ?_
  refine T.region ?_
  refine oN (EvN.mv (I i) rfl) ?_
  refine oN (EvN.ilt rfl rfl) ?_
  refine oN (EvN.mv (Bo (decide (i < (0 : Int)))) rfl) ?_
  obtain ⟨s2, h, ks2⟩ := bindL h
  refine TO.joinF (G := Unit) 5 (fun _ => True) (fun _ => [(15, Bo s2), (5, eL Ximpl_Event.c v1), (0, eL (cL Ximpl_Instr.c) p), (1, I i)]) (fun _ => []) ?_ (fun js2 => ?_)
  rotate_left
  · clear ks2
    rcases bifL h with ⟨q3, h⟩ | ⟨q3, h⟩
    · refine gS rfl q3 ?_
      refine gS rfl q3 ?_
      refine gS rfl q3 ?_
      refine gS rfl q3 ?_
      refine oN (EvN.pickT rfl q3 (Bo true) rfl) ?_
      obtain rfl := Option.some.inj h
      exact js2 _ _ ⟨(), trivial, cutW rfl (weak_cons rfl (weak_cons rfl (weak_cons rfl (weak_cons rfl weak_nil))))⟩
    · refine gN rfl q3 (EvN.mv (I i) rfl) ?_
      refine gN rfl q3 (EvN.mv (eL Ximpl_Event.c v1) rfl) ?_
      refine gN rfl q3 (EvN.lenL sl32 rfl) ?_
      refine gN rfl q3 (EvN.ige rfl rfl) ?_
      refine oN (EvN.pickF rfl q3 (Bo (decide ((v1.length : Int) ≤ i))) rfl) ?_
      obtain rfl := Option.some.inj h
      exact js2 _ _ ⟨(), trivial, cutW rfl (weak_cons rfl (weak_cons rfl (weak_cons rfl (weak_cons rfl weak_nil))))⟩
  · intro _ _
    replace h := ks2
    clear ks2
    refine TO.nil ?_
    refine T.cond rfl (fun q4 => ?_) (fun q4 => ?_)
    · replace h := condT q4 h
      refine T.seq ?_
      refine T.region ?_
      refine oN (EvN.asg (St (⟨#[]⟩ : ByteArray)) rfl) ?_
      refine TO.nil ?_
      refine T.ret ?_
      obtain rfl := Option.some.inj h
      repeat first | refine retS ?_ | refine retB ?_
      exact Fin.ret (vs := [St (⟨#[]⟩ : ByteArray)]) (.cons (.tmp rfl) .nil) (.of_isF 9 _ rfl)
    · replace h := condF q4 h
      refine T.skip ?_
      refine T.seq ?_
      refine T.region ?_
      refine oN (EvN.mv (eL (cL Ximpl_Instr.c) p) rfl) ?_
      refine oN (EvN.mv (eL Ximpl_Event.c v1) rfl) ?_
      refine oN (EvN.mv (I i) rfl) ?_
      obtain ⟨g5, h⟩ := gdD h
      refine oN (EvN.ixL sl32 rfl rfl g5 (fun _ => rfl)) ?_
      refine oN (EvN.loadfp (.agg (Ximpl_Event.c (v1.getD i.toNat default))) ty35 rfl rfl) ?_
      obtain ⟨v6, cv6, h⟩ := bindL h
      refine oN (EvN.call rfl rfl rfl (F_spec_l15Event_P p (v1.getD i.toNat default) cv6) rfl) ?_
      refine oN (EvN.asg (St v6) rfl) ?_
      refine TO.nil ?_
      refine T.ret ?_
      obtain rfl := Option.some.inj h
      repeat first | refine retS ?_ | refine retB ?_
      exact Fin.ret (vs := [St v6]) (.cons (.tmp rfl) .nil) (.of_isF 9 _ rfl)

theorem F_impl_InstrValid_P (x : Ximpl_Instr) {q : Bool} (h : F_impl_InstrValid x = some q) : PCall Tryd.prog 27 [.agg (Ximpl_Instr.c x)] (Bo q) := by
  refine PCall.mkT Tryd.func27 rfl (by kernel_rfl) rfl (by kernel_rfl) (e0 := envOf [(0, .agg (Ximpl_Instr.c x))]) (weak_cons rfl weak_nil) ?_
  refine T.seq ?_
  refine T.region ?_
  refine oN (EvN.bxF [I x.Op, I x.Loc, I x.Reg, I x.Val] rfl rfl rfl) ?_
  refine oN (EvN.asg (Bo false) rfl) ?_
  refine TO.nil ?_
  refine T.seq ?_
  refine T.region ?_
  refine oN (EvN.fafp Tryd.underlying39 rfl (by kernel_rfl) rfl) ?_
  refine oN (EvN.loadfp (I x.Op) ty3 rfl rfl) ?_
  refine oN (EvN.build [I x.Op, I (0 : Int), I (0 : Int), I (0 : Int)] Tryd.underlying39 zs39 fs39 rfl rfl) ?_
  refine oA (EvA.al zs39 rfl rfl) ?_
  refine oV (EvA.st (cs := [I x.Op, I (0 : Int), I (0 : Int), I (0 : Int)]) ⟨0, 4, 39, [[I x.Op, I (0 : Int), I (0 : Int), I (0 : Int)]]⟩ ty39 rfl rfl rfl rfl rfl rfl rfl rfl rfl) ?_
  refine TO.nil ?_
  obtain ⟨Ks1, es1, ws1, h, ks1⟩ := sumL h
  refine T.join (S := Int × Int × Int) (G := Unit) (fun s1 => Ks1 s1 = some q) (fun s1 gh => True) (fun s1 gh => [(3, .hp 0 0 4 0 0), (1, .fp (Ximpl_Instr.c x) 0)]) (fun s1 gh => [some ⟨0, 4, 39, [[I x.Op, I s1.1, I s1.2.1, I s1.2.2]]⟩]) (fun s1 gh h hg => ?_) ?_
  · clear ks1
    subst es1
    refine T.seq ?_
    refine T.region ?_
    refine oN (EvN.loadfp (.agg (Ximpl_Instr.c x)) ty39 rfl rfl) ?_
    refine oA (EvA.loadhp (.agg [I x.Op, I s1.1, I s1.2.1, I s1.2.2]) ty39 rfl rfl rfl rfl rfl rfl) ?_
    refine oN (EvN.aeq (x.Op == x.Op && (x.Loc == s1.1 && (x.Reg == s1.2.1 && (x.Val == s1.2.2 && true)))) (cs := [I x.Op, I x.Loc, I x.Reg, I x.Val]) (ds := [I x.Op, I s1.1, I s1.2.1, I s1.2.2]) te39 rfl rfl (by kernel_rfl)) ?_
    refine oN (EvN.mv (Bo (x.Op == x.Op && (x.Loc == s1.1 && (x.Reg == s1.2.1 && (x.Val == s1.2.2 && true))))) rfl) ?_
    obtain ⟨s8, h, ks8⟩ := bindL h
    refine TO.joinF (G := Unit) 4 (fun _ => True) (fun _ => [(38, Bo s8), (1, .fp (Ximpl_Instr.c x) 0)]) (fun _ => [some ⟨0, 4, 39, [[I x.Op, I s1.1, I s1.2.1, I s1.2.2]]⟩]) ?_ (fun js8 => ?_)
    rotate_left
    · clear ks8
      rcases bifL h with ⟨q9, h⟩ | ⟨q9, h⟩
      · refine gN rfl q9 (EvN.fafp Tryd.underlying39 rfl (by kernel_rfl) rfl) ?_
        refine gN rfl q9 (EvN.loadfp (I x.Loc) ty3 rfl rfl) ?_
        obtain ⟨v10, cv10, h⟩ := bindL h
        refine gN rfl q9 (EvN.call rfl rfl rfl (F_impl_within_P x.Loc (0 : Int) (2 : Int) cv10) rfl) ?_
        refine oN (EvN.pickT rfl q9 (Bo v10) rfl) ?_
        obtain rfl := Option.some.inj h
        exact js8 _ _ ⟨(), trivial, cutW rfl (weak_cons rfl (weak_cons rfl weak_nil))⟩
      · refine gS rfl q9 ?_
        refine gS rfl q9 ?_
        refine gS rfl q9 ?_
        refine oN (EvN.pickF rfl q9 (Bo false) rfl) ?_
        obtain rfl := Option.some.inj h
        exact js8 _ _ ⟨(), trivial, cutW rfl (weak_cons rfl (weak_cons rfl weak_nil))⟩
    · intro _ _
      replace h := ks8
      clear ks8
      refine oN (EvN.mv (Bo s8) rfl) ?_
      obtain ⟨s11, h, ks11⟩ := bindL h
      refine TO.joinF (G := Unit) 4 (fun _ => True) (fun _ => [(43, Bo s11), (1, .fp (Ximpl_Instr.c x) 0)]) (fun _ => [some ⟨0, 4, 39, [[I x.Op, I s1.1, I s1.2.1, I s1.2.2]]⟩]) ?_ (fun js11 => ?_)
      rotate_left
      · clear ks11
        rcases bifL h with ⟨q12, h⟩ | ⟨q12, h⟩
        · refine gN rfl q12 (EvN.fafp Tryd.underlying39 rfl (by kernel_rfl) rfl) ?_
          refine gN rfl q12 (EvN.loadfp (I x.Reg) ty3 rfl rfl) ?_
          obtain ⟨v13, cv13, h⟩ := bindL h
          refine gN rfl q12 (EvN.call rfl rfl rfl (F_impl_within_P x.Reg (0 : Int) (2 : Int) cv13) rfl) ?_
          refine oN (EvN.pickT rfl q12 (Bo v13) rfl) ?_
          obtain rfl := Option.some.inj h
          exact js11 _ _ ⟨(), trivial, cutW rfl (weak_cons rfl (weak_cons rfl weak_nil))⟩
        · refine gS rfl q12 ?_
          refine gS rfl q12 ?_
          refine gS rfl q12 ?_
          refine oN (EvN.pickF rfl q12 (Bo false) rfl) ?_
          obtain rfl := Option.some.inj h
          exact js11 _ _ ⟨(), trivial, cutW rfl (weak_cons rfl (weak_cons rfl weak_nil))⟩
      · intro _ _
        replace h := ks11
        clear ks11
        refine oN (EvN.mv (Bo s11) rfl) ?_
        obtain ⟨s14, h, ks14⟩ := bindL h
        refine TO.joinF (G := Unit) 4 (fun _ => True) (fun _ => [(48, Bo s14)]) (fun _ => [some ⟨0, 4, 39, [[I x.Op, I s1.1, I s1.2.1, I s1.2.2]]⟩]) ?_ (fun js14 => ?_)
        rotate_left
        · clear ks14
          rcases bifL h with ⟨q15, h⟩ | ⟨q15, h⟩
          · refine gN rfl q15 (EvN.fafp Tryd.underlying39 rfl (by kernel_rfl) rfl) ?_
            refine gN rfl q15 (EvN.loadfp (I x.Val) ty3 rfl rfl) ?_
            obtain ⟨v16, cv16, h⟩ := bindL h
            refine gN rfl q15 (EvN.call rfl rfl rfl (F_impl_within_P x.Val (0 : Int) (3 : Int) cv16) rfl) ?_
            refine oN (EvN.pickT rfl q15 (Bo v16) rfl) ?_
            obtain rfl := Option.some.inj h
            exact js14 _ _ ⟨(), trivial, cutW rfl (weak_cons rfl weak_nil)⟩
          · refine gS rfl q15 ?_
            refine gS rfl q15 ?_
            refine gS rfl q15 ?_
            refine oN (EvN.pickF rfl q15 (Bo false) rfl) ?_
            obtain rfl := Option.some.inj h
            exact js14 _ _ ⟨(), trivial, cutW rfl (weak_cons rfl weak_nil)⟩
        · intro _ _
          replace h := ks14
          clear ks14
          refine oN (EvN.asg (Bo s14) rfl) ?_
          refine TO.nil ?_
          refine T.ret ?_
          obtain rfl := Option.some.inj h
          repeat first | refine retS ?_ | refine retB ?_
          exact Fin.ret (vs := [Bo s14]) (.cons (.tmp rfl) .nil) (.of_isF 9 _ rfl)
  · refine T.seq ?_
    refine T.region ?_
    refine oN (EvN.fafp Tryd.underlying39 rfl (by kernel_rfl) rfl) ?_
    refine oN (EvN.loadfp (I x.Op) ty3 rfl rfl) ?_
    refine TO.nil ?_
    refine T.block ?_
    obtain ⟨s2, h, ks2⟩ := bindL h
    refine T.joinF (G := Unit) (fun gh => True) (fun gh => [(9, Bo s2), (8, I x.Op), (3, .hp 0 0 4 0 0), (1, .fp (Ximpl_Instr.c x) 0)]) (fun gh => [some ⟨0, 4, 39, [[I x.Op, I (0 : Int), I (0 : Int), I (0 : Int)]]⟩]) (fun gh hg => ?_) ?_
    · clear h
      have h := ks2
      clear ks2
      refine T.cond rfl (fun q4 => ?_) (fun q4 => ?_)
      · replace h := condT q4 h
        refine T.drawF (fun i => [([], false), ([], false), ([], false), ([], false), ([], false), ([0], true), ([], false), ([0], true)].getD i ([], false)) (by kernel_rfl) (by kernel_rfl) ?_
        refine fN rfl (EvN.fafp Tryd.underlying39 rfl (by kernel_rfl) rfl) ?_
        refine fN rfl (EvN.loadfp (I x.Loc) ty3 rfl rfl) ?_
        refine fN rfl (EvN.fafp Tryd.underlying39 rfl (by kernel_rfl) rfl) ?_
        refine fN rfl (EvN.loadfp (I x.Reg) ty3 rfl rfl) ?_
        refine fN rfl (EvN.fahp Tryd.underlying39 rfl (by kernel_rfl) rfl) ?_
        refine fV 0 [] rfl rfl (fun G hG => EvA.st (cs := [I x.Loc]) ⟨0, 4, 39, [[I x.Op, I x.Loc, I (0 : Int), I (0 : Int)]]⟩ ty3 rfl rfl (hG.a0 rfl) rfl rfl rfl rfl rfl rfl) ?_
        refine fN rfl (EvN.fahp Tryd.underlying39 rfl (by kernel_rfl) rfl) ?_
        refine fV 0 [] rfl rfl (fun G hG => EvA.st (cs := [I x.Reg]) ⟨0, 4, 39, [[I x.Op, I x.Loc, I x.Reg, I (0 : Int)]]⟩ ty3 rfl rfl (hG.a0 rfl) rfl rfl rfl rfl rfl rfl) ?_
        refine TF.nil ?_
        obtain rfl := Option.some.inj h
        exact ⟨(x.Loc, x.Reg, (0 : Int)), (), ks1, trivial, cutW rfl (weak_cons rfl (weak_cons rfl weak_nil))⟩
      · replace h := condF q4 h
        refine T.seq ?_
        refine T.region ?_
        refine oN (EvN.ieq rfl rfl) ?_
        refine oN (EvN.asg (Bo (x.Op == (2 : Int))) rfl) ?_
        refine TO.nil ?_
        refine T.cond rfl (fun q5 => ?_) (fun q5 => ?_)
        · replace h := condT q5 h
          refine T.drawF (fun i => [([], false), ([], false), ([], false), ([], false), ([], false), ([0], true), ([], false), ([0], true)].getD i ([], false)) (by kernel_rfl) (by kernel_rfl) ?_
          refine fN rfl (EvN.fafp Tryd.underlying39 rfl (by kernel_rfl) rfl) ?_
          refine fN rfl (EvN.loadfp (I x.Loc) ty3 rfl rfl) ?_
          refine fN rfl (EvN.fafp Tryd.underlying39 rfl (by kernel_rfl) rfl) ?_
          refine fN rfl (EvN.loadfp (I x.Val) ty3 rfl rfl) ?_
          refine fN rfl (EvN.fahp Tryd.underlying39 rfl (by kernel_rfl) rfl) ?_
          refine fV 0 [] rfl rfl (fun G hG => EvA.st (cs := [I x.Loc]) ⟨0, 4, 39, [[I x.Op, I x.Loc, I (0 : Int), I (0 : Int)]]⟩ ty3 rfl rfl (hG.a0 rfl) rfl rfl rfl rfl rfl rfl) ?_
          refine fN rfl (EvN.fahp Tryd.underlying39 rfl (by kernel_rfl) rfl) ?_
          refine fV 0 [] rfl rfl (fun G hG => EvA.st (cs := [I x.Val]) ⟨0, 4, 39, [[I x.Op, I x.Loc, I (0 : Int), I x.Val]]⟩ ty3 rfl rfl (hG.a0 rfl) rfl rfl rfl rfl rfl rfl) ?_
          refine TF.nil ?_
          obtain rfl := Option.some.inj h
          exact ⟨(x.Loc, (0 : Int), x.Val), (), ks1, trivial, cutW rfl (weak_cons rfl (weak_cons rfl weak_nil))⟩
        · replace h := condF q5 h
          refine T.seq ?_
          refine T.region ?_
          refine oN (EvN.ieq rfl rfl) ?_
          refine oN (EvN.asg (Bo (x.Op == (4 : Int))) rfl) ?_
          refine TO.nil ?_
          refine T.cond rfl (fun q6 => ?_) (fun q6 => ?_)
          · replace h := condT q6 h
            refine T.skip ?_
            obtain rfl := Option.some.inj h
            exact ⟨((0 : Int), (0 : Int), (0 : Int)), (), ks1, trivial, cutW rfl (weak_cons rfl (weak_cons rfl weak_nil))⟩
          · replace h := condF q6 h
            refine T.seq ?_
            refine T.region ?_
            refine oN (EvN.ieq rfl rfl) ?_
            refine oN (EvN.asg (Bo (x.Op == (5 : Int))) rfl) ?_
            refine TO.nil ?_
            refine T.cond rfl (fun q7 => ?_) (fun q7 => ?_)
            · replace h := condT q7 h
              refine T.clean (H0 := [some ⟨0, 4, 39, [[I x.Op, I (0 : Int), I (0 : Int), I (0 : Int)]]⟩]) (e0 := envOf [(3, .hp 0 0 4 0 0), (1, .fp (Ximpl_Instr.c x) 0)]) rfl (weak_cons rfl (weak_cons rfl weak_nil)) ?_
              refine T.region ?_
              refine oN (EvN.loadfp (.agg (Ximpl_Instr.c x)) ty39 rfl rfl) ?_
              refine oV (EvA.st (cs := [I x.Op, I x.Loc, I x.Reg, I x.Val]) ⟨0, 4, 39, [[I x.Op, I x.Loc, I x.Reg, I x.Val]]⟩ ty39 rfl rfl rfl rfl rfl rfl rfl rfl rfl) ?_
              refine TO.nil ?_
              obtain rfl := Option.some.inj h
              exact ⟨(x.Loc, x.Reg, x.Val), (), ks1, trivial, cutW rfl (weak_cons rfl (weak_cons rfl weak_nil))⟩
            · replace h := condF q7 h
              refine T.seq ?_
              refine T.clean (H0 := [some ⟨0, 4, 39, [[I x.Op, I (0 : Int), I (0 : Int), I (0 : Int)]]⟩]) (e0 := envOf []) rfl weak_nil ?_
              refine T.region ?_
              refine oN (EvN.asg (Bo false) rfl) ?_
              refine TO.nil ?_
              refine T.ret ?_
              obtain rfl := Option.some.inj h
              replace h := congrArg some (show _ = _ from ks1)
              obtain rfl := Option.some.inj h
              repeat first | refine retS ?_ | refine retB ?_
              exact Fin.ret (vs := [Bo false]) (.cons (.tmp rfl) .nil) (.of_isF 9 _ rfl)
    · clear ks2
      refine T.seq ?_
      refine T.clean (H0 := [some ⟨0, 4, 39, [[I x.Op, I (0 : Int), I (0 : Int), I (0 : Int)]]⟩]) (e0 := envOf [(8, I x.Op), (3, .hp 0 0 4 0 0), (1, .fp (Ximpl_Instr.c x) 0)]) rfl (weak_cons rfl (weak_cons rfl (weak_cons rfl weak_nil))) ?_
      refine T.region ?_
      refine oN (EvN.ieq rfl rfl) ?_
      refine oN (EvN.asg (Bo (x.Op == (1 : Int))) rfl) ?_
      refine TO.nil ?_
      refine T.cond rfl (fun q3 => ?_) (fun q3 => ?_)
      · replace h := condT q3 h
        refine T.skip ?_
        obtain rfl := Option.some.inj h
        exact ⟨(), trivial, cutW rfl (weak_cons rfl (weak_cons rfl (weak_cons rfl (weak_cons rfl weak_nil))))⟩
      · replace h := condF q3 h
        refine T.region ?_
        refine oN (EvN.ieq rfl rfl) ?_
        refine oN (EvN.asg (Bo (x.Op == (3 : Int))) rfl) ?_
        refine TO.nil ?_
        obtain rfl := Option.some.inj h
        exact ⟨(), trivial, cutW rfl (weak_cons rfl (weak_cons rfl (weak_cons rfl (weak_cons rfl weak_nil))))⟩

theorem F_impl_FormatInstr_P (x : Ximpl_Instr) {q : ByteArray} (h : F_impl_FormatInstr x = some q) : PCall Tryd.prog 13 [.agg (Ximpl_Instr.c x)] (St q) := by
  refine PCall.mkT Tryd.func13 rfl (by kernel_rfl) rfl (by kernel_rfl) (e0 := envOf [(0, .agg (Ximpl_Instr.c x))]) (weak_cons rfl weak_nil) ?_
  refine T.seq ?_
  refine T.region ?_
  refine oN (EvN.bxF [I x.Op, I x.Loc, I x.Reg, I x.Val] rfl rfl rfl) ?_
  refine oN (EvN.asg (St (⟨#[]⟩ : ByteArray)) rfl) ?_
  refine TO.nil ?_
  refine T.seq ?_
  refine T.seq ?_
  refine T.region ?_
  refine oN (EvN.loadfp (.agg (Ximpl_Instr.c x)) ty39 rfl rfl) ?_
  obtain ⟨v1, cv1, h⟩ := bindL h
  refine oN (EvN.call rfl rfl rfl (F_impl_InstrValid_P x cv1) rfl) ?_
  refine oN (EvN.not rfl) ?_
  refine TO.nil ?_
  refine T.cond rfl (fun q2 => ?_) (fun q2 => ?_)
  · replace h := condT q2 h
    refine T.seq ?_
    refine T.clean (H0 := []) (e0 := envOf []) rfl weak_nil ?_
    refine T.region ?_
    refine oN (EvN.asg (St (⟨#[]⟩ : ByteArray)) rfl) ?_
    refine TO.nil ?_
    refine T.ret ?_
    obtain rfl := Option.some.inj h
    repeat first | refine retS ?_ | refine retB ?_
    exact Fin.ret (vs := [St (⟨#[]⟩ : ByteArray)]) (.cons (.tmp rfl) .nil) (.of_isF 9 _ rfl)
  · replace h := condF q2 h
    refine T.skip ?_
    refine T.seq ?_
    refine T.region ?_
    refine oN (EvN.loadfp (.agg (Ximpl_Instr.c x)) ty39 rfl rfl) ?_
    obtain ⟨v3, cv3, h⟩ := bindL h
    refine oN (EvN.call rfl rfl rfl (F_impl_instrText_P x cv3) rfl) ?_
    refine oN (EvN.asg (St v3) rfl) ?_
    refine TO.nil ?_
    refine T.ret ?_
    obtain rfl := Option.some.inj h
    repeat first | refine retS ?_ | refine retB ?_
    exact Fin.ret (vs := [St v3]) (.cons (.tmp rfl) .nil) (.of_isF 9 _ rfl)
end Go.Proofs.YtjogdblionfmiaaDoor
