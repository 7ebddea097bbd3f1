/-
  The program's code computes the functions over plain values; printed by lift.py. No conditions.
-/
import Derived.Test.YtjogdblionfmiaaS21d
import Derived.Test.YtjogdblionfmiaaSf
import Derived.Test.YtjogdblionfmiaaBrDi
import Derived.Test.YtjogdblionfmiaaBrV
import Derived.Test.YtjogdblionfmiaaMu2
import Derived.Test.YtjogdblionfmiaaSQ1
import Derived.Test.YtjogdblionfmiaaSR1
import Derived.Test.YtjogdblionfmiaaS211
namespace Go.Proofs.Ytjogdblionfmiaa
open Go.RowKit
set_option maxRecDepth 100000
theorem F_impl_ClosureRel_P (r_ : List Int) {q : (List Int)} (h : F_impl_ClosureRel r_ = some q) : PCall Try.prog 148 [eL cI r_] (eL cI q) := by
  refine PCall.mkT Try.func148 rfl (by kernel_rfl) rfl (by kernel_rfl) (e0 := envOf [(0, eL cI r_)]) (weak_cons rfl weak_nil) ?_
  refine T.seq ?_
  refine T.region ?_
  refine oN (EvN.asg (.nil) rfl) ?_
  refine TO.nil ?_
  refine T.seq ?_
  refine T.seq ?_
  refine T.region ?_
  refine oN (EvN.mv (eL cI r_) rfl) ?_
  obtain ⟨v1, cv1, h⟩ := bindL h
  refine oN (EvN.call rfl rfl rfl (F_impl_RelValid_P r_ cv1) rfl) ?_
  refine oN (EvN.not rfl) ?_
  refine TO.nil ?_
  refine T.cond rfl (fun q2 => ?_) (fun q2 => ?_)
  · replace h := condT q2 h
    refine T.seq ?_
    refine T.region ?_
    refine oN (EvN.asg (.nil) rfl) ?_
    refine TO.nil ?_
    refine T.ret ?_
    obtain rfl := Option.some.inj h
    repeat first | refine retS ?_ | refine retB ?_
    exact Fin.ret (vs := [.nil]) (.cons (.tmp rfl) .nil) .nil0
  · replace h := condF q2 h
    refine T.skip ?_
    refine T.seq ?_
    refine T.region ?_
    refine oN (EvN.mv (eL cI r_) rfl) ?_
    obtain ⟨v3, cv3, h⟩ := bindL h
    refine oG rfl rfl rfl ((F_slices_Clone_int_int_OP r_ cv3).own rfl (rowsM (fun _ => rfl)) ren_id 0 rfl) (fun g4 v5 n6 => ?_)
    refine oN (EvN.asg (hS g4 0 v5 1 v3.length) rfl) ?_
    refine TO.nil ?_
    obtain ⟨s7, h, ks7⟩ := bindL h
    refine T.joinF (G := (Bool × Nat)) (fun gh => (gh.1 = true → s7 = [])) (fun gh => [(3, hS gh.1 0 gh.2 1 s7.length)]) (fun gh => [bE gh.1 gh.2 1 3 (s7.map cI)]) (fun gh n45 => ?_) ?_
    · clear h
      have h := ks7
      clear ks7
      obtain ⟨b44, u43⟩ := gh
      refine T.seq ?_
      refine T.region ?_
      refine oN (EvN.mv (hS b44 0 u43 1 s7.length) rfl) ?_
      refine oN (EvN.asg (hS b44 0 u43 1 s7.length) rfl) ?_
      refine TO.nil ?_
      refine T.ret ?_
      obtain rfl := Option.some.inj h
      repeat first | refine retS ?_ | refine retB ?_
      exact Fin.ret (vs := [hS b44 0 u43 1 s7.length]) (.cons (.tmp rfl) .nil) (Fz.own (g := b44) (ver := u43) (l := s7) rfl rfl rfl n45 (fun _ => rfl))
    · clear ks7
      refine T.seq ?_
      refine T.clean (H0 := [bE g4 v5 1 3 (v3.map cI)]) (e0 := envOf [(3, hS g4 0 v5 1 v3.length)]) rfl (weak_cons rfl weak_nil) ?_
      refine T.region ?_
      refine oN (EvN.mv (hS g4 0 v5 1 v3.length) rfl) ?_
      refine oN (EvN.lenO (g := g4) sl37 rfl (nil_len (fun x => List.eq_nil_of_length_eq_zero (n6 x)) rfl)) ?_
      refine oN (EvN.mv (I (0 : Int)) rfl) ?_
      refine TO.nil ?_
      refine T.block ?_
      refine T.loop (S := (List Int) × Int) (G := (Bool × Nat)) (F_impl_ClosureRel_L15 v3) (fun s14 gh => (gh.1 = true → s14.1 = [])) (fun s14 gh => [(13, I s14.2), (12, I (v3.length : Int)), (3, hS gh.1 0 gh.2 1 s14.1.length)]) (fun s14 gh => [bE gh.1 gh.2 1 3 (s14.1.map cI)]) (s0 := (v3, (0 : Int))) (g4, v5) h (fun x => List.eq_nil_of_length_eq_zero (n6 x)) (cutW rfl (weak_cons rfl (weak_cons rfl (weak_cons rfl weak_nil)))) (fun s14 gh ws14 h n18 => ?_)
      obtain ⟨b17, u16⟩ := gh
      refine T.seq ?_
      refine T.region ?_
      refine oN (EvN.ilt rfl rfl) ?_
      refine TO.nil ?_
      refine T.seq ?_
      refine T.cond rfl (fun q19 => ?_) (fun q19 => ?_)
      · replace h := condT q19 h
        refine T.skip ?_
        obtain ⟨s20, h, ks20⟩ := bindL h
        refine T.joinF (G := (Bool × Nat)) (fun gh => (gh.1 = true → s20 = [])) (fun gh => [(13, I s14.2), (12, I (v3.length : Int)), (3, hS gh.1 0 gh.2 1 s20.length)]) (fun gh => [bE gh.1 gh.2 1 3 (s20.map cI)]) (fun gh n41 => ?_) ?_
        · clear h
          have h := ks20
          clear ks20
          obtain ⟨b40, u39⟩ := gh
          refine T.region ?_
          obtain ⟨g42, h⟩ := gdW h
          refine oN (EvN.add rfl rfl g42) ?_
          refine oN (EvN.mv (I (s14.2 + (1 : Int))) rfl) ?_
          refine TO.nil ?_
          obtain rfl := Option.some.inj h
          exact ⟨(s20, (s14.2 + (1 : Int))), (b40, u39), rfl, n41, cutW rfl (weak_cons rfl (weak_cons rfl (weak_cons rfl weak_nil)))⟩
        · clear ks20
          refine T.block ?_
          refine T.seq ?_
          refine T.region ?_
          refine oN (EvN.mv (I s14.2) rfl) ?_
          refine oN (EvN.asg (I s14.2) rfl) ?_
          refine TO.nil ?_
          refine T.seq ?_
          refine T.region ?_
          refine oN (EvN.mv (hS b17 0 u16 1 s14.1.length) rfl) ?_
          refine oN (EvN.lenO (g := b17) sl37 rfl (nil_len n18 rfl)) ?_
          refine oN (EvN.mv (I (0 : Int)) rfl) ?_
          refine TO.nil ?_
          refine T.block ?_
          refine T.loop (S := (List Int) × Int) (G := (Bool × Nat)) (F_impl_ClosureRel_L25 s14) (fun s24 gh => (gh.1 = true → s24.1 = [])) (fun s24 gh => [(18, I s24.2), (17, I (s14.1.length : Int)), (4, I s14.2), (13, I s14.2), (12, I (v3.length : Int)), (3, hS gh.1 0 gh.2 1 s24.1.length)]) (fun s24 gh => [bE gh.1 gh.2 1 3 (s24.1.map cI)]) (s0 := (s14.1, (0 : Int))) (b17, u16) h n18 (cutW rfl (weak_cons rfl (weak_cons rfl (weak_cons rfl (weak_cons rfl (weak_cons rfl (weak_cons rfl weak_nil))))))) (fun s24 gh ws24 h n28 => ?_)
          obtain ⟨b27, u26⟩ := gh
          refine T.seq ?_
          refine T.region ?_
          refine oN (EvN.ilt rfl rfl) ?_
          refine TO.nil ?_
          refine T.seq ?_
          refine T.cond rfl (fun q29 => ?_) (fun q29 => ?_)
          · replace h := condT q29 h
            refine T.skip ?_
            obtain ⟨s30, h, ks30⟩ := bindL h
            refine T.joinF (G := (Bool × Nat)) (fun gh => (gh.1 = true → s30 = [])) (fun gh => [(18, I s24.2), (17, I (s14.1.length : Int)), (4, I s14.2), (13, I s14.2), (12, I (v3.length : Int)), (3, hS gh.1 0 gh.2 1 s30.length)]) (fun gh => [bE gh.1 gh.2 1 3 (s30.map cI)]) (fun gh n37 => ?_) ?_
            · clear h
              have h := ks30
              clear ks30
              obtain ⟨b36, u35⟩ := gh
              refine T.region ?_
              obtain ⟨g38, h⟩ := gdW h
              refine oN (EvN.add rfl rfl g38) ?_
              refine oN (EvN.mv (I (s24.2 + (1 : Int))) rfl) ?_
              refine TO.nil ?_
              obtain rfl := Option.some.inj h
              exact ⟨(s30, (s24.2 + (1 : Int))), (b36, u35), rfl, n37, cutW rfl (weak_cons rfl (weak_cons rfl (weak_cons rfl (weak_cons rfl (weak_cons rfl (weak_cons rfl weak_nil))))))⟩
            · clear ks30
              refine T.block ?_
              refine T.seq ?_
              refine T.region ?_
              refine oN (EvN.mv (I s24.2) rfl) ?_
              refine oN (EvN.asg (I s24.2) rfl) ?_
              refine TO.nil ?_
              refine T.seq ?_
              refine T.region ?_
              refine oN (EvN.mv (hS b27 0 u26 1 s24.1.length) rfl) ?_
              refine oN (EvN.mv (I s24.2) rfl) ?_
              refine oN (EvN.mv (I s14.2) rfl) ?_
              obtain ⟨v31, cv31, h⟩ := bindL h
              refine oA (EvA.callT rfl rfl (F_impl_related_P s24.1 s24.2 s14.2 cv31) (.cons (Fz.own (g := b27) (ver := u26) (l := s24.1) rfl rfl rfl n28 (fun _ => rfl)) (.cons (.of_isF 9 _ rfl) (.cons (.of_isF 9 _ rfl) .nil))) rfl) ?_
              refine TO.nil ?_
              refine T.cond rfl (fun q32 => ?_) (fun q32 => ?_)
              · replace h := condT q32 h
                refine T.clean (H0 := [bE b27 u26 1 3 (s24.1.map cI)]) (e0 := envOf [(5, I s24.2), (18, I s24.2), (17, I (s14.1.length : Int)), (4, I s14.2), (13, I s14.2), (12, I (v3.length : Int)), (3, hS b27 0 u26 1 s24.1.length)]) rfl (weak_cons rfl (weak_cons rfl (weak_cons rfl (weak_cons rfl (weak_cons rfl (weak_cons rfl (weak_cons rfl weak_nil))))))) ?_
                refine T.drawF (fun i => [([], false), ([], false), ([], false), ([0], false), ([], false), ([], false), ([], false), ([0], false), ([], false), ([], false), ([0], true)].getD i ([], false)) (by kernel_rfl) (by kernel_rfl) ?_
                refine fN rfl (EvN.mv (hS b27 0 u26 1 s24.1.length) rfl) ?_
                refine fN rfl (EvN.mv (I s24.2) rfl) ?_
                obtain ⟨g33, h⟩ := gdD h
                obtain rfl := gfalse n28 rfl g33
                refine fN rfl (EvN.ixO (g := false) sl37 rfl rfl nofun g33) ?_
                refine fR [0] rfl (fun G hG => EvA.ldO (g := false) (l := s24.1) (I (s24.1.getD s24.2.toNat default)) ty3 rfl (hG.a0 rfl) nofun (toNat_lt' rfl g33) rfl) ?_
                refine fN rfl (EvN.mv (hS false 0 u26 1 s24.1.length) rfl) ?_
                refine fN rfl (EvN.mv (I s14.2) rfl) ?_
                obtain ⟨g34, h⟩ := gdD h
                refine fN rfl (EvN.ixO (g := false) sl37 rfl rfl nofun g34) ?_
                refine fR [0] rfl (fun G hG => EvA.ldO (g := false) (l := s24.1) (I (s24.1.getD s14.2.toNat default)) ty3 rfl (hG.a0 rfl) nofun (toNat_lt' rfl g34) rfl) ?_
                refine fN rfl (EvN.bor rfl rfl) ?_
                refine fN rfl (EvN.ixO (g := false) sl37 rfl rfl nofun g33) ?_
                refine fV 0 [] rfl rfl (fun G hG => EvA.stO (g := false) (l := s24.1) (cs := [I (bOr .i64 (s24.1.getD s24.2.toNat default) (s24.1.getD s14.2.toNat default))]) (bOr .i64 (s24.1.getD s24.2.toNat default) (s24.1.getD s14.2.toNat default)) ty3 rfl rfl (hG.a0 rfl) nofun (toNat_lt' rfl g33) rfl rfl rfl) ?_
                refine TF.nil ?_
                obtain rfl := Option.some.inj h
                exact ⟨(false, u26), nofun, cutW rfl (weak_cons rfl (weak_cons rfl (weak_cons rfl (weak_cons rfl (weak_cons rfl (weak_cons (congrArg (hS false 0 u26 1) (by simp : s24.1.length = (s24.1.set s24.2.toNat (bOr .i64 (s24.1.getD s24.2.toNat default) (s24.1.getD s14.2.toNat default))).length)) weak_nil))))))⟩
              · replace h := condF q32 h
                refine T.skip ?_
                obtain rfl := Option.some.inj h
                exact ⟨(b27, u26), n28, cutW rfl (weak_cons rfl (weak_cons rfl (weak_cons rfl (weak_cons rfl (weak_cons rfl (weak_cons rfl weak_nil))))))⟩
          · replace h := condF q29 h
            refine T.exit ?_
            refine ⟨_, (Option.some.inj h).symm, fun h => ?_⟩
            replace h := congrArg some h
            obtain rfl := Option.some.inj h
            exact ⟨(b27, u26), n28, cutW rfl (weak_cons rfl (weak_cons rfl (weak_cons rfl weak_nil)))⟩
      · replace h := condF q19 h
        refine T.exit ?_
        refine ⟨_, (Option.some.inj h).symm, fun h => ?_⟩
        replace h := congrArg some h
        obtain rfl := Option.some.inj h
        exact ⟨(b17, u16), n18, cutW rfl (weak_cons rfl weak_nil)⟩

theorem F_impl_InverseRel_1_P (i : Int) (k_ : Int) (a2 : List Int) {q : Bool} (h : F_impl_InverseRel_1 i k_ a2 = some q) : PCall Try.prog 203 [I i, I k_, .fp ((cL cI) a2) 0] (Bo q) := by
  refine PCall.mkT Try.func203 rfl (by kernel_rfl) rfl (by kernel_rfl) (e0 := envOf [(0, I i), (1, I k_), (2, .fp ((cL cI) a2) 0)]) (weak_cons rfl (weak_cons rfl (weak_cons rfl weak_nil))) ?_
  refine T.seq ?_
  refine T.region ?_
  refine oN (EvN.asg (Bo false) rfl) ?_
  refine TO.nil ?_
  refine T.seq ?_
  refine T.region ?_
  refine oN (EvN.loadfp (eL cI a2) ty37 rfl rfl) ?_
  refine oN (EvN.mv (I k_) rfl) ?_
  refine oN (EvN.mv (I i) rfl) ?_
  obtain ⟨v1, cv1, h⟩ := bindL h
  refine oN (EvN.call rfl rfl rfl (F_impl_related_P a2 k_ i cv1) rfl) ?_
  refine oN (EvN.asg (Bo v1) rfl) ?_
  refine TO.nil ?_
  refine T.ret ?_
  obtain rfl := Option.some.inj h
  repeat first | refine retS ?_ | refine retB ?_
  exact Fin.ret (vs := [Bo v1]) (.cons (.tmp rfl) .nil) (.of_isF 9 _ rfl)

theorem F_impl_pairsOf__impl_InverseRel_1_P (n : Int) (is0 : List Int) {q : (List Int)} (h : F_impl_pairsOf__impl_InverseRel_1 n is0 = some q) : PCall Try.prog 143 [I n, .fn (.func 203) [.fp ((cL cI) is0) 0]] (eL cI q) := by
  refine PCall.mkT Try.func143 rfl (by kernel_rfl) rfl (by kernel_rfl) (e0 := envOf [(0, I n), (1, .fn (.func 203) [.fp ((cL cI) is0) 0])]) (weak_cons rfl (weak_cons rfl weak_nil)) ?_
  refine T.seq ?_
  refine T.region ?_
  refine oN (EvN.asg (.nil) rfl) ?_
  refine TO.nil ?_
  refine T.seq ?_
  refine T.region ?_
  refine oN (EvN.mv (I n) rfl) ?_
  obtain ⟨g1, h⟩ := gdD h
  refine oA (EvA.mkN (c := cI) (default : Int) sl37 rfl rfl g1 rfl rfl rfl) ?_
  refine oN (EvN.asg (hS false 0 0 1 ((List.replicate n.toNat (default : Int)).length)) rfl) ?_
  refine TO.nil ?_
  obtain ⟨s2, h, ks2⟩ := bindL h
  refine T.joinF (G := Nat) (fun gh => True) (fun gh => [(5, hS false 0 gh 1 s2.length)]) (fun gh => [bE false gh 1 3 (s2.map cI)]) (fun u23 hg => ?_) ?_
  · clear h
    have h := ks2
    clear ks2
    refine T.seq ?_
    refine T.region ?_
    refine oN (EvN.mv (hS false 0 u23 1 s2.length) rfl) ?_
    refine oN (EvN.asg (hS false 0 u23 1 s2.length) rfl) ?_
    refine TO.nil ?_
    refine T.ret ?_
    obtain rfl := Option.some.inj h
    repeat first | refine retS ?_ | refine retB ?_
    exact Fin.ret (vs := [hS false 0 u23 1 s2.length]) (.cons (.tmp rfl) .nil) (Fz.own (g := false) (ver := u23) (l := s2) rfl rfl rfl nofun (fun _ => rfl))
  · clear ks2
    refine T.seq ?_
    refine T.region ?_
    refine oN (EvN.mv (I n) rfl) ?_
    refine oN (EvN.mv (I (0 : Int)) rfl) ?_
    refine TO.nil ?_
    refine T.block ?_
    refine T.loop (S := (List Int) × Int) (G := Nat) (F_impl_pairsOf__impl_InverseRel_1_L5 n is0) (fun s4 gh => True) (fun s4 gh => [(11, I s4.2), (10, I n), (5, hS false 0 gh 1 s4.1.length), (0, I n), (1, .fn (.func 203) [.fp ((cL cI) is0) 0])]) (fun s4 gh => [bE false gh 1 3 (s4.1.map cI)]) (s0 := ((List.replicate n.toNat (default : Int)), (0 : Int))) 0 h trivial (cutW rfl (weak_cons rfl (weak_cons rfl (weak_cons rfl (weak_cons rfl (weak_cons rfl weak_nil)))))) (fun s4 u6 ws4 h hg => ?_)
    refine T.seq ?_
    refine T.region ?_
    refine oN (EvN.ilt rfl rfl) ?_
    refine TO.nil ?_
    refine T.seq ?_
    refine T.cond rfl (fun q7 => ?_) (fun q7 => ?_)
    · replace h := condT q7 h
      refine T.skip ?_
      obtain ⟨s8, h, ks8⟩ := bindL h
      refine T.joinF (G := Nat) (fun gh => True) (fun gh => [(11, I s4.2), (10, I n), (5, hS false 0 gh 1 s8.length), (0, I n), (1, .fn (.func 203) [.fp ((cL cI) is0) 0])]) (fun gh => [bE false gh 1 3 (s8.map cI)]) (fun u21 hg => ?_) ?_
      · clear h
        have h := ks8
        clear ks8
        refine T.region ?_
        obtain ⟨g22, h⟩ := gdW h
        refine oN (EvN.add rfl rfl g22) ?_
        refine oN (EvN.mv (I (s4.2 + (1 : Int))) rfl) ?_
        refine TO.nil ?_
        obtain rfl := Option.some.inj h
        exact ⟨(s8, (s4.2 + (1 : Int))), u21, rfl, trivial, cutW rfl (weak_cons rfl (weak_cons rfl (weak_cons rfl (weak_cons rfl (weak_cons rfl weak_nil)))))⟩
      · clear ks8
        refine T.block ?_
        refine T.seq ?_
        refine T.region ?_
        refine oN (EvN.mv (I s4.2) rfl) ?_
        refine oN (EvN.asg (I s4.2) rfl) ?_
        refine TO.nil ?_
        refine T.seq ?_
        refine T.region ?_
        refine oN (EvN.mv (I n) rfl) ?_
        refine oN (EvN.mv (I (0 : Int)) rfl) ?_
        refine TO.nil ?_
        refine T.block ?_
        refine T.loop (S := (List Int) × Int) (G := Nat) (F_impl_pairsOf__impl_InverseRel_1_L11 n is0 s4) (fun s10 gh => True) (fun s10 gh => [(15, I s10.2), (14, I n), (6, I s4.2), (11, I s4.2), (10, I n), (5, hS false 0 gh 1 s10.1.length), (0, I n), (1, .fn (.func 203) [.fp ((cL cI) is0) 0])]) (fun s10 gh => [bE false gh 1 3 (s10.1.map cI)]) (s0 := (s4.1, (0 : Int))) u6 h trivial (cutW rfl (weak_cons rfl (weak_cons rfl (weak_cons rfl (weak_cons rfl (weak_cons rfl (weak_cons rfl (weak_cons rfl (weak_cons rfl weak_nil))))))))) (fun s10 u12 ws10 h hg => ?_)
        refine T.seq ?_
        refine T.region ?_
        refine oN (EvN.ilt rfl rfl) ?_
        refine TO.nil ?_
        refine T.seq ?_
        refine T.cond rfl (fun q13 => ?_) (fun q13 => ?_)
        · replace h := condT q13 h
          refine T.skip ?_
          obtain ⟨s14, h, ks14⟩ := bindL h
          refine T.joinF (G := Nat) (fun gh => True) (fun gh => [(15, I s10.2), (14, I n), (6, I s4.2), (11, I s4.2), (10, I n), (5, hS false 0 gh 1 s14.length), (0, I n), (1, .fn (.func 203) [.fp ((cL cI) is0) 0])]) (fun gh => [bE false gh 1 3 (s14.map cI)]) (fun u19 hg => ?_) ?_
          · clear h
            have h := ks14
            clear ks14
            refine T.region ?_
            obtain ⟨g20, h⟩ := gdW h
            refine oN (EvN.add rfl rfl g20) ?_
            refine oN (EvN.mv (I (s10.2 + (1 : Int))) rfl) ?_
            refine TO.nil ?_
            obtain rfl := Option.some.inj h
            exact ⟨(s14, (s10.2 + (1 : Int))), u19, rfl, trivial, cutW rfl (weak_cons rfl (weak_cons rfl (weak_cons rfl (weak_cons rfl (weak_cons rfl (weak_cons rfl (weak_cons rfl (weak_cons rfl weak_nil))))))))⟩
          · clear ks14
            refine T.block ?_
            refine T.seq ?_
            refine T.region ?_
            refine oN (EvN.mv (I s10.2) rfl) ?_
            refine oN (EvN.asg (I s10.2) rfl) ?_
            refine TO.nil ?_
            refine T.seq ?_
            refine T.region ?_
            refine oN (EvN.mv (.fn (.func 203) [.fp ((cL cI) is0) 0]) rfl) ?_
            refine oN (EvN.mv (I s4.2) rfl) ?_
            refine oN (EvN.mv (I s10.2) rfl) ?_
            obtain ⟨v15, cv15, h⟩ := bindL h
            refine oN (EvN.call rfl rfl rfl (F_impl_InverseRel_1_P s4.2 s10.2 is0 cv15) rfl) ?_
            refine TO.nil ?_
            refine T.cond rfl (fun q16 => ?_) (fun q16 => ?_)
            · replace h := condT q16 h
              refine T.clean (H0 := [bE false u12 1 3 (s10.1.map cI)]) (e0 := envOf [(7, I s10.2), (15, I s10.2), (14, I n), (6, I s4.2), (11, I s4.2), (10, I n), (5, hS false 0 u12 1 s10.1.length), (0, I n), (1, .fn (.func 203) [.fp ((cL cI) is0) 0])]) rfl (weak_cons rfl (weak_cons rfl (weak_cons rfl (weak_cons rfl (weak_cons rfl (weak_cons rfl (weak_cons rfl (weak_cons rfl (weak_cons rfl weak_nil))))))))) ?_
              refine T.drawF (fun i => [([], false), ([], false), ([], false), ([0], false), ([], false), ([], false), ([], false), ([], false), ([0], true)].getD i ([], false)) (by kernel_rfl) (by kernel_rfl) ?_
              refine fN rfl (EvN.mv (hS false 0 u12 1 s10.1.length) rfl) ?_
              refine fN rfl (EvN.mv (I s4.2) rfl) ?_
              obtain ⟨g17, h⟩ := gdD h
              refine fN rfl (EvN.ixO (g := false) sl37 rfl rfl nofun g17) ?_
              refine fR [0] rfl (fun G hG => EvA.ldO (g := false) (l := s10.1) (I (s10.1.getD s4.2.toNat default)) ty3 rfl (hG.a0 rfl) nofun (toNat_lt' rfl g17) rfl) ?_
              refine fN rfl (EvN.mv (I s10.2) rfl) ?_
              obtain ⟨g18, h⟩ := gdD h
              refine fN rfl (EvN.shl rfl rfl g18) ?_
              refine fN rfl (EvN.bor rfl rfl) ?_
              refine fN rfl (EvN.ixO (g := false) sl37 rfl rfl nofun g17) ?_
              refine fV 0 [] rfl rfl (fun G hG => EvA.stO (g := false) (l := s10.1) (cs := [I (bOr .i64 (s10.1.getD s4.2.toNat default) (bShl .i64 (1 : Int) s10.2))]) (bOr .i64 (s10.1.getD s4.2.toNat default) (bShl .i64 (1 : Int) s10.2)) ty3 rfl rfl (hG.a0 rfl) nofun (toNat_lt' rfl g17) rfl rfl rfl) ?_
              refine TF.nil ?_
              obtain rfl := Option.some.inj h
              exact ⟨u12, trivial, cutW rfl (weak_cons rfl (weak_cons rfl (weak_cons rfl (weak_cons rfl (weak_cons rfl (weak_cons (congrArg (hS false 0 u12 1) (by simp : s10.1.length = (s10.1.set s4.2.toNat (bOr .i64 (s10.1.getD s4.2.toNat default) (bShl .i64 (1 : Int) s10.2))).length)) (weak_cons rfl (weak_cons rfl weak_nil))))))))⟩
            · replace h := condF q16 h
              refine T.skip ?_
              obtain rfl := Option.some.inj h
              exact ⟨u12, trivial, cutW rfl (weak_cons rfl (weak_cons rfl (weak_cons rfl (weak_cons rfl (weak_cons rfl (weak_cons rfl (weak_cons rfl (weak_cons rfl weak_nil))))))))⟩
        · replace h := condF q13 h
          refine T.exit ?_
          refine ⟨_, (Option.some.inj h).symm, fun h => ?_⟩
          replace h := congrArg some h
          obtain rfl := Option.some.inj h
          exact ⟨u12, trivial, cutW rfl (weak_cons rfl (weak_cons rfl (weak_cons rfl (weak_cons rfl (weak_cons rfl weak_nil)))))⟩
    · replace h := condF q7 h
      refine T.exit ?_
      refine ⟨_, (Option.some.inj h).symm, fun h => ?_⟩
      replace h := congrArg some h
      obtain rfl := Option.some.inj h
      exact ⟨u6, trivial, cutW rfl (weak_cons rfl weak_nil)⟩

theorem F_impl_InverseRel_P (r_ : List Int) {q : (List Int)} (h : F_impl_InverseRel r_ = some q) : PCall Try.prog 150 [eL cI r_] (eL cI q) := by
  refine PCall.mkT Try.func150 rfl (by kernel_rfl) rfl (by kernel_rfl) (e0 := envOf [(0, eL cI r_)]) (weak_cons rfl weak_nil) ?_
  refine T.seq ?_
  refine T.region ?_
  refine oN (EvN.bxF [eL cI r_] rfl rfl rfl) ?_
  refine oN (EvN.asg (.nil) rfl) ?_
  refine TO.nil ?_
  refine T.seq ?_
  refine T.seq ?_
  refine T.region ?_
  refine oN (EvN.loadfp (eL cI r_) ty37 rfl rfl) ?_
  obtain ⟨v1, cv1, h⟩ := bindL h
  refine oN (EvN.call rfl rfl rfl (F_impl_RelValid_P r_ cv1) rfl) ?_
  refine oN (EvN.not rfl) ?_
  refine TO.nil ?_
  refine T.cond rfl (fun q2 => ?_) (fun q2 => ?_)
  · replace h := condT q2 h
    refine T.seq ?_
    refine T.clean (H0 := []) (e0 := envOf []) rfl weak_nil ?_
    refine T.region ?_
    refine oN (EvN.asg (.nil) rfl) ?_
    refine TO.nil ?_
    refine T.ret ?_
    obtain rfl := Option.some.inj h
    repeat first | refine retS ?_ | refine retB ?_
    exact Fin.ret (vs := [.nil]) (.cons (.tmp rfl) .nil) .nil0
  · replace h := condF q2 h
    refine T.skip ?_
    refine T.seq ?_
    refine T.region ?_
    refine oN (EvN.loadfp (eL cI r_) ty37 rfl rfl) ?_
    refine oN (EvN.lenL sl37 rfl) ?_
    refine oN (EvN.mkfn [.fp ((cL cI) r_) 0] rfl rfl) ?_
    obtain ⟨v3, cv3, h⟩ := bindL h
    refine oN (EvN.call rfl rfl rfl (F_impl_pairsOf__impl_InverseRel_1_P (r_.length : Int) r_ cv3) rfl) ?_
    refine oN (EvN.asg (eL cI v3) rfl) ?_
    refine TO.nil ?_
    refine T.ret ?_
    obtain rfl := Option.some.inj h
    repeat first | refine retS ?_ | refine retB ?_
    exact Fin.ret (vs := [eL cI v3]) (.cons (.tmp rfl) .nil) (.of_isF 9 _ rfl)

theorem F_impl_MeetRel_1_P (x : Int) (y : Int) {q : Int} (h : F_impl_MeetRel_1 x y = some q) : PCall Try.prog 202 [I x, I y] (I q) := by
  refine PCall.mkT Try.func202 rfl (by kernel_rfl) rfl (by kernel_rfl) (e0 := envOf [(0, I x), (1, I y)]) (weak_cons rfl (weak_cons rfl weak_nil)) ?_
  refine T.seq ?_
  refine T.region ?_
  refine oN (EvN.asg (I (0 : Int)) rfl) ?_
  refine TO.nil ?_
  refine T.seq ?_
  refine T.region ?_
  refine oN (EvN.mv (I x) rfl) ?_
  refine oN (EvN.mv (I y) rfl) ?_
  refine oN (EvN.band rfl rfl) ?_
  refine oN (EvN.asg (I (bAnd .i64 x y)) rfl) ?_
  refine TO.nil ?_
  refine T.ret ?_
  obtain rfl := Option.some.inj h
  repeat first | refine retS ?_ | refine retB ?_
  exact Fin.ret (vs := [I (bAnd .i64 x y)]) (.cons (.tmp rfl) .nil) (.of_isF 9 _ rfl)

theorem F_impl_combined__impl_MeetRel_1_P (a : List Int) (b : List Int) {q : (List Int)} (h : F_impl_combined__impl_MeetRel_1 a b = some q) : PCall Try.prog 200 [eL cI a, eL cI b, .fn (.func 202) []] (eL cI q) := by
  refine PCall.mkT Try.func200 rfl (by kernel_rfl) rfl (by kernel_rfl) (e0 := envOf [(0, eL cI a), (1, eL cI b), (2, .fn (.func 202) [])]) (weak_cons rfl (weak_cons rfl (weak_cons rfl weak_nil))) ?_
  refine T.seq ?_
  refine T.region ?_
  refine oN (EvN.asg (.nil) rfl) ?_
  refine TO.nil ?_
  refine T.seq ?_
  refine T.seq ?_
  refine T.region ?_
  refine oN (EvN.mv (eL cI a) rfl) ?_
  refine oN (EvN.mv (eL cI b) rfl) ?_
  obtain ⟨v1, cv1, h⟩ := bindL h
  refine oN (EvN.call rfl rfl rfl (F_impl_areRels_P a b cv1) rfl) ?_
  refine oN (EvN.not rfl) ?_
  refine TO.nil ?_
  refine T.cond rfl (fun q2 => ?_) (fun q2 => ?_)
  · replace h := condT q2 h
    refine T.seq ?_
    refine T.clean (H0 := []) (e0 := envOf []) rfl weak_nil ?_
    refine T.region ?_
    refine oN (EvN.asg (.nil) rfl) ?_
    refine TO.nil ?_
    refine T.ret ?_
    obtain rfl := Option.some.inj h
    repeat first | refine retS ?_ | refine retB ?_
    exact Fin.ret (vs := [.nil]) (.cons (.tmp rfl) .nil) .nil0
  · replace h := condF q2 h
    refine T.skip ?_
    refine T.seq ?_
    refine T.region ?_
    refine oN (EvN.mv (eL cI a) rfl) ?_
    refine oN (EvN.lenL sl37 rfl) ?_
    obtain ⟨g3, h⟩ := gdD h
    refine oA (EvA.mkN (c := cI) (default : Int) sl37 rfl rfl g3 rfl rfl rfl) ?_
    refine oN (EvN.asg (hS false 0 0 1 ((List.replicate (a.length : Int).toNat (default : Int)).length)) rfl) ?_
    refine TO.nil ?_
    obtain ⟨s4, h, ks4⟩ := bindL h
    refine T.joinF (G := Nat) (fun gh => True) (fun gh => [(7, hS false 0 gh 1 s4.length)]) (fun gh => [bE false gh 1 3 (s4.map cI)]) (fun u15 hg => ?_) ?_
    · clear h
      have h := ks4
      clear ks4
      refine T.seq ?_
      refine T.region ?_
      refine oN (EvN.mv (hS false 0 u15 1 s4.length) rfl) ?_
      refine oN (EvN.asg (hS false 0 u15 1 s4.length) rfl) ?_
      refine TO.nil ?_
      refine T.ret ?_
      obtain rfl := Option.some.inj h
      repeat first | refine retS ?_ | refine retB ?_
      exact Fin.ret (vs := [hS false 0 u15 1 s4.length]) (.cons (.tmp rfl) .nil) (Fz.own (g := false) (ver := u15) (l := s4) rfl rfl rfl nofun (fun _ => rfl))
    · clear ks4
      refine T.seq ?_
      refine T.clean (H0 := [bE false 0 1 3 ((List.replicate (a.length : Int).toNat (default : Int)).map cI)]) (e0 := envOf [(7, hS false 0 0 1 ((List.replicate (a.length : Int).toNat (default : Int)).length)), (0, eL cI a), (1, eL cI b), (2, .fn (.func 202) [])]) rfl (weak_cons rfl (weak_cons rfl (weak_cons rfl (weak_cons rfl weak_nil)))) ?_
      refine T.region ?_
      refine oN (EvN.mv (eL cI a) rfl) ?_
      refine oN (EvN.lenL sl37 rfl) ?_
      refine oN (EvN.mv (I (0 : Int)) rfl) ?_
      refine TO.nil ?_
      refine T.block ?_
      refine T.loop (S := (List Int) × Int) (G := Nat) (F_impl_combined__impl_MeetRel_1_L7 a b) (fun s6 gh => True) (fun s6 gh => [(18, I s6.2), (17, I (a.length : Int)), (7, hS false 0 gh 1 s6.1.length), (0, eL cI a), (1, eL cI b), (2, .fn (.func 202) [])]) (fun s6 gh => [bE false gh 1 3 (s6.1.map cI)]) (s0 := ((List.replicate (a.length : Int).toNat (default : Int)), (0 : Int))) 0 h trivial (cutW rfl (weak_cons rfl (weak_cons rfl (weak_cons rfl (weak_cons rfl (weak_cons rfl (weak_cons rfl weak_nil))))))) (fun s6 u8 ws6 h hg => ?_)
      refine T.seq ?_
      refine T.region ?_
      refine oN (EvN.ilt rfl rfl) ?_
      refine TO.nil ?_
      refine T.seq ?_
      refine T.cond rfl (fun q9 => ?_) (fun q9 => ?_)
      · replace h := condT q9 h
        refine T.skip ?_
        refine T.seq ?_
        refine T.block ?_
        refine T.seq ?_
        refine T.region ?_
        refine oN (EvN.mv (I s6.2) rfl) ?_
        refine oN (EvN.asg (I s6.2) rfl) ?_
        refine TO.nil ?_
        refine T.drawF (fun i => [([], false), ([], false), ([], false), ([], false), ([], false), ([], false), ([], false), ([], false), ([], false), ([], false), ([], false), ([], false), ([], false), ([0], true)].getD i ([], false)) (by kernel_rfl) (by kernel_rfl) ?_
        refine fN rfl (EvN.mv (hS false 0 u8 1 s6.1.length) rfl) ?_
        refine fN rfl (EvN.mv (I s6.2) rfl) ?_
        refine fN rfl (EvN.mv (.fn (.func 202) []) rfl) ?_
        refine fN rfl (EvN.mv (eL cI a) rfl) ?_
        refine fN rfl (EvN.mv (I s6.2) rfl) ?_
        obtain ⟨g10, h⟩ := gdD h
        refine fN rfl (EvN.ixL sl37 rfl rfl g10 (fun _ => rfl)) ?_
        refine fN rfl (EvN.loadfp (I (a.getD s6.2.toNat default)) ty3 rfl rfl) ?_
        refine fN rfl (EvN.mv (eL cI b) rfl) ?_
        refine fN rfl (EvN.mv (I s6.2) rfl) ?_
        obtain ⟨g11, h⟩ := gdD h
        refine fN rfl (EvN.ixL sl37 rfl rfl g11 (fun _ => rfl)) ?_
        refine fN rfl (EvN.loadfp (I (b.getD s6.2.toNat default)) ty3 rfl rfl) ?_
        obtain ⟨v12, cv12, h⟩ := bindL h
        refine fN rfl (EvN.call rfl rfl rfl (F_impl_MeetRel_1_P (a.getD s6.2.toNat default) (b.getD s6.2.toNat default) cv12) rfl) ?_
        obtain ⟨g13, h⟩ := gdD h
        refine fN rfl (EvN.ixO (g := false) sl37 rfl rfl nofun g13) ?_
        refine fV 0 [] rfl rfl (fun G hG => EvA.stO (g := false) (l := s6.1) (cs := [I v12]) v12 ty3 rfl rfl (hG.a0 rfl) nofun (toNat_lt' rfl g13) rfl rfl rfl) ?_
        refine TF.nil ?_
        refine T.clean (H0 := [bE false u8 1 3 ((s6.1.set s6.2.toNat v12).map cI)]) (e0 := envOf [(18, I s6.2), (17, I (a.length : Int)), (7, hS false 0 u8 1 s6.1.length), (0, eL cI a), (1, eL cI b), (2, .fn (.func 202) [])]) rfl (weak_cons rfl (weak_cons rfl (weak_cons rfl (weak_cons rfl (weak_cons rfl (weak_cons rfl weak_nil)))))) ?_
        refine T.region ?_
        obtain ⟨g14, h⟩ := gdW h
        refine oN (EvN.add rfl rfl g14) ?_
        refine oN (EvN.mv (I (s6.2 + (1 : Int))) rfl) ?_
        refine TO.nil ?_
        obtain rfl := Option.some.inj h
        exact ⟨((s6.1.set s6.2.toNat v12), (s6.2 + (1 : Int))), u8, rfl, trivial, cutW rfl (weak_cons rfl (weak_cons rfl (weak_cons (congrArg (hS false 0 u8 1) (by simp : s6.1.length = (s6.1.set s6.2.toNat v12).length)) (weak_cons rfl (weak_cons rfl (weak_cons rfl weak_nil))))))⟩
      · replace h := condF q9 h
        refine T.exit ?_
        refine ⟨_, (Option.some.inj h).symm, fun h => ?_⟩
        replace h := congrArg some h
        obtain rfl := Option.some.inj h
        exact ⟨u8, trivial, cutW rfl (weak_cons rfl weak_nil)⟩

theorem F_impl_MeetRel_P (a : List Int) (b : List Int) {q : (List Int)} (h : F_impl_MeetRel a b = some q) : PCall Try.prog 149 [eL cI a, eL cI b] (eL cI q) := by
  refine PCall.mkT Try.func149 rfl (by kernel_rfl) rfl (by kernel_rfl) (e0 := envOf [(0, eL cI a), (1, eL cI b)]) (weak_cons rfl (weak_cons rfl weak_nil)) ?_
  refine T.seq ?_
  refine T.region ?_
  refine oN (EvN.asg (.nil) rfl) ?_
  refine TO.nil ?_
  refine T.seq ?_
  refine T.region ?_
  refine oN (EvN.mv (eL cI a) rfl) ?_
  refine oN (EvN.mv (eL cI b) rfl) ?_
  obtain ⟨v1, cv1, h⟩ := bindL h
  refine oN (EvN.call rfl rfl rfl (F_impl_combined__impl_MeetRel_1_P a b cv1) rfl) ?_
  refine oN (EvN.asg (eL cI v1) rfl) ?_
  refine TO.nil ?_
  refine T.ret ?_
  obtain rfl := Option.some.inj h
  repeat first | refine retS ?_ | refine retB ?_
  exact Fin.ret (vs := [eL cI v1]) (.cons (.tmp rfl) .nil) (.of_isF 9 _ rfl)

theorem F_impl_delayRel_P (p : List (List Ximpl_Instr)) {q : (List Int)} (h : F_impl_delayRel p = some q) : PCall Try.prog 98 [eL (cL Ximpl_Instr.c) p] (eL cI q) := by
  refine PCall.mkT Try.func98 rfl (by kernel_rfl) rfl (by kernel_rfl) (e0 := envOf [(0, eL (cL Ximpl_Instr.c) p)]) (weak_cons rfl weak_nil) ?_
  refine T.seq ?_
  refine T.region ?_
  refine oN (EvN.asg (.nil) rfl) ?_
  refine TO.nil ?_
  refine T.seq ?_
  refine T.region ?_
  refine oN (EvN.mv (eL (cL Ximpl_Instr.c) p) rfl) ?_
  obtain ⟨v1, cv1, h⟩ := bindL h
  refine oN (EvN.call rfl rfl rfl (F_impl_events_P p cv1) rfl) ?_
  refine oA (EvA.al zs144 rfl rfl) ?_
  refine oV (EvA.st (cs := [eL Ximpl_Event.c v1]) ⟨0, 1, 144, [[eL Ximpl_Event.c v1]]⟩ ty144 rfl rfl rfl rfl rfl rfl rfl rfl rfl) ?_
  refine TO.nil ?_
  refine T.seq ?_
  refine T.region ?_
  refine oA (EvA.loadhp (eL Ximpl_Event.c v1) ty144 rfl rfl rfl rfl rfl rfl) ?_
  refine oN (EvN.lenL sl144 rfl) ?_
  refine TO.cut (e0 := envOf [(10, I (v1.length : Int)), (3, .fp ((cL Ximpl_Event.c) v1) 0), (0, eL (cL Ximpl_Instr.c) p)]) (H0 := []) (cutS rfl .nil (stl_cons (.fz (.of_isF 9 _ rfl)) (stl_cons (.fz (Fz.fpL (ver := 0) (s := 1) (ty := 144) (rows := [[eL Ximpl_Event.c v1]]) rfl rfl rfl (.cons (.of_isF 9 _ rfl) .nil))) (stl_cons (.fz (.of_isF 9 _ rfl)) stl_nil)))) ?_
  refine oN (EvN.mkfn [.fp ((cL Ximpl_Event.c) v1) 0] rfl rfl) ?_
  obtain ⟨v2, cv2, h⟩ := bindL h
  refine oN (EvN.call rfl rfl rfl (F_impl_pairsOf__impl_delayRel_1_P (v1.length : Int) v1 cv2) rfl) ?_
  refine oN (EvN.asg (eL cI v2) rfl) ?_
  refine TO.nil ?_
  refine T.seq ?_
  refine T.region ?_
  refine oN (EvN.mv (eL (cL Ximpl_Instr.c) p) rfl) ?_
  obtain ⟨v3, cv3, h⟩ := bindL h
  refine oN (EvN.call rfl rfl rfl (F_impl_conflictRel_P p cv3) rfl) ?_
  refine oN (EvN.asg (eL cI v3) rfl) ?_
  refine TO.nil ?_
  refine T.seq ?_
  refine T.clean (H0 := []) (e0 := envOf [(5, eL cI v3), (4, eL cI v2)]) rfl (weak_cons rfl (weak_cons rfl weak_nil)) ?_
  refine T.region ?_
  refine oN (EvN.mv (eL cI v3) rfl) ?_
  refine oN (EvN.mv (eL cI v3) rfl) ?_
  obtain ⟨v4, cv4, h⟩ := bindL h
  refine oN (EvN.call rfl rfl rfl (F_impl_ComposeRel_P v3 v3 cv4) rfl) ?_
  refine oN (EvN.asg (eL cI v4) rfl) ?_
  refine TO.nil ?_
  refine T.seq ?_
  refine T.region ?_
  refine oN (EvN.mv (eL cI v4) rfl) ?_
  refine oN (EvN.mv (eL cI v3) rfl) ?_
  refine oN (EvN.mv (eL cI v3) rfl) ?_
  refine oN (EvN.mv (eL cI v2) rfl) ?_
  obtain ⟨v5, cv5, h⟩ := bindL h
  refine oN (EvN.call rfl rfl rfl (F_impl_UnionRel_P v3 v2 cv5) rfl) ?_
  obtain ⟨v6, cv6, h⟩ := bindL h
  refine oN (EvN.call rfl rfl rfl (F_impl_ClosureRel_P v5 cv6) rfl) ?_
  obtain ⟨v7, cv7, h⟩ := bindL h
  refine oN (EvN.call rfl rfl rfl (F_impl_ComposeRel_P v3 v6 cv7) rfl) ?_
  refine oN (EvN.mv (eL cI v3) rfl) ?_
  obtain ⟨v8, cv8, h⟩ := bindL h
  refine oN (EvN.call rfl rfl rfl (F_impl_ComposeRel_P v7 v3 cv8) rfl) ?_
  obtain ⟨v9, cv9, h⟩ := bindL h
  refine oN (EvN.call rfl rfl rfl (F_impl_UnionRel_P v4 v8 cv9) rfl) ?_
  refine oN (EvN.asg (eL cI v9) rfl) ?_
  refine TO.nil ?_
  refine T.seq ?_
  refine T.clean (H0 := []) (e0 := envOf [(6, eL cI v9), (4, eL cI v2)]) rfl (weak_cons rfl (weak_cons rfl weak_nil)) ?_
  refine T.region ?_
  refine oN (EvN.mv (eL cI v2) rfl) ?_
  refine oN (EvN.mv (eL cI v9) rfl) ?_
  obtain ⟨v10, cv10, h⟩ := bindL h
  refine oN (EvN.call rfl rfl rfl (F_impl_InverseRel_P v9 cv10) rfl) ?_
  obtain ⟨v11, cv11, h⟩ := bindL h
  refine oN (EvN.call rfl rfl rfl (F_impl_MeetRel_P v2 v10 cv11) rfl) ?_
  refine oN (EvN.asg (eL cI v11) rfl) ?_
  refine TO.nil ?_
  refine T.ret ?_
  obtain rfl := Option.some.inj h
  repeat first | refine retS ?_ | refine retB ?_
  exact Fin.ret (vs := [eL cI v11]) (.cons (.tmp rfl) .nil) (.of_isF 9 _ rfl)

theorem F_impl_DelayRel_P (p : List (List Ximpl_Instr)) {q : (List Int)} (h : F_impl_DelayRel p = some q) : PCall Try.prog 35 [eL (cL Ximpl_Instr.c) p] (eL cI q) := by
  refine PCall.mkT Try.func35 rfl (by kernel_rfl) rfl (by kernel_rfl) (e0 := envOf [(0, eL (cL Ximpl_Instr.c) p)]) (weak_cons rfl weak_nil) ?_
  refine T.seq ?_
  refine T.region ?_
  refine oN (EvN.asg (.nil) rfl) ?_
  refine TO.nil ?_
  refine T.seq ?_
  refine T.seq ?_
  refine T.region ?_
  refine oN (EvN.mv (eL (cL Ximpl_Instr.c) p) rfl) ?_
  obtain ⟨v1, cv1, h⟩ := bindL h
  refine oN (EvN.call rfl rfl rfl (F_impl_ProgramValid_P p cv1) rfl) ?_
  refine oN (EvN.not rfl) ?_
  refine TO.nil ?_
  refine T.cond rfl (fun q2 => ?_) (fun q2 => ?_)
  · replace h := condT q2 h
    refine T.seq ?_
    refine T.region ?_
    refine oN (EvN.asg (.nil) rfl) ?_
    refine TO.nil ?_
    refine T.ret ?_
    obtain rfl := Option.some.inj h
    repeat first | refine retS ?_ | refine retB ?_
    exact Fin.ret (vs := [.nil]) (.cons (.tmp rfl) .nil) .nil0
  · replace h := condF q2 h
    refine T.skip ?_
    refine T.seq ?_
    refine T.region ?_
    refine oN (EvN.mv (eL (cL Ximpl_Instr.c) p) rfl) ?_
    obtain ⟨v3, cv3, h⟩ := bindL h
    refine oN (EvN.call rfl rfl rfl (F_impl_delayRel_P p cv3) rfl) ?_
    refine oN (EvN.asg (eL cI v3) rfl) ?_
    refine TO.nil ?_
    refine T.ret ?_
    obtain rfl := Option.some.inj h
    repeat first | refine retS ?_ | refine retB ?_
    exact Fin.ret (vs := [eL cI v3]) (.cons (.tmp rfl) .nil) (.of_isF 9 _ rfl)

theorem F_math_bits_OnesCount64_P (x : Int) {q : Int} (h : F_math_bits_OnesCount64 x = some q) : PCall Try.prog 141 [.v (.int .u64 x)] (I q) := by
  refine PCall.mkT Try.func141 rfl (by kernel_rfl) rfl (by kernel_rfl) (e0 := envOf [(0, .v (.int .u64 x))]) (weak_cons rfl weak_nil) ?_
  refine T.seq ?_
  refine T.region ?_
  refine oN (EvN.asg (I (0 : Int)) rfl) ?_
  refine TO.nil ?_
  refine T.seq ?_
  refine T.region ?_
  refine oN (EvN.mv (.v (.int .u64 x)) rfl) ?_
  obtain ⟨g1, h⟩ := gdD h
  refine oN (EvN.shr rfl rfl g1) ?_
  refine oN (EvN.band rfl rfl) ?_
  refine oN (EvN.mv (.v (.int .u64 x)) rfl) ?_
  refine oN (EvN.band rfl rfl) ?_
  obtain ⟨g2, h⟩ := gdW h
  refine oN (EvN.add rfl rfl g2) ?_
  refine oN (EvN.asg (.v (.int .u64 ((bAnd .u64 (bShr .u64 x (1 : Int)) (6148914691236517205 : Int)) + (bAnd .u64 x (6148914691236517205 : Int))))) rfl) ?_
  refine TO.nil ?_
  refine T.seq ?_
  refine T.clean (H0 := []) (e0 := envOf [(0, .v (.int .u64 ((bAnd .u64 (bShr .u64 x (1 : Int)) (6148914691236517205 : Int)) + (bAnd .u64 x (6148914691236517205 : Int)))))]) rfl (weak_cons rfl weak_nil) ?_
  refine T.region ?_
  refine oN (EvN.mv (.v (.int .u64 ((bAnd .u64 (bShr .u64 x (1 : Int)) (6148914691236517205 : Int)) + (bAnd .u64 x (6148914691236517205 : Int))))) rfl) ?_
  obtain ⟨g3, h⟩ := gdD h
  refine oN (EvN.shr rfl rfl g3) ?_
  refine oN (EvN.band rfl rfl) ?_
  refine oN (EvN.mv (.v (.int .u64 ((bAnd .u64 (bShr .u64 x (1 : Int)) (6148914691236517205 : Int)) + (bAnd .u64 x (6148914691236517205 : Int))))) rfl) ?_
  refine oN (EvN.band rfl rfl) ?_
  obtain ⟨g4, h⟩ := gdW h
  refine oN (EvN.add rfl rfl g4) ?_
  refine oN (EvN.asg (.v (.int .u64 ((bAnd .u64 (bShr .u64 ((bAnd .u64 (bShr .u64 x (1 : Int)) (6148914691236517205 : Int)) + (bAnd .u64 x (6148914691236517205 : Int))) (2 : Int)) (3689348814741910323 : Int)) + (bAnd .u64 ((bAnd .u64 (bShr .u64 x (1 : Int)) (6148914691236517205 : Int)) + (bAnd .u64 x (6148914691236517205 : Int))) (3689348814741910323 : Int))))) rfl) ?_
  refine TO.nil ?_
  refine T.seq ?_
  refine T.clean (H0 := []) (e0 := envOf [(0, .v (.int .u64 ((bAnd .u64 (bShr .u64 ((bAnd .u64 (bShr .u64 x (1 : Int)) (6148914691236517205 : Int)) + (bAnd .u64 x (6148914691236517205 : Int))) (2 : Int)) (3689348814741910323 : Int)) + (bAnd .u64 ((bAnd .u64 (bShr .u64 x (1 : Int)) (6148914691236517205 : Int)) + (bAnd .u64 x (6148914691236517205 : Int))) (3689348814741910323 : Int)))))]) rfl (weak_cons rfl weak_nil) ?_
  refine T.region ?_
  refine oN (EvN.mv (.v (.int .u64 ((bAnd .u64 (bShr .u64 ((bAnd .u64 (bShr .u64 x (1 : Int)) (6148914691236517205 : Int)) + (bAnd .u64 x (6148914691236517205 : Int))) (2 : Int)) (3689348814741910323 : Int)) + (bAnd .u64 ((bAnd .u64 (bShr .u64 x (1 : Int)) (6148914691236517205 : Int)) + (bAnd .u64 x (6148914691236517205 : Int))) (3689348814741910323 : Int))))) rfl) ?_
  obtain ⟨g5, h⟩ := gdD h
  refine oN (EvN.shr rfl rfl g5) ?_
  refine oN (EvN.mv (.v (.int .u64 ((bAnd .u64 (bShr .u64 ((bAnd .u64 (bShr .u64 x (1 : Int)) (6148914691236517205 : Int)) + (bAnd .u64 x (6148914691236517205 : Int))) (2 : Int)) (3689348814741910323 : Int)) + (bAnd .u64 ((bAnd .u64 (bShr .u64 x (1 : Int)) (6148914691236517205 : Int)) + (bAnd .u64 x (6148914691236517205 : Int))) (3689348814741910323 : Int))))) rfl) ?_
  obtain ⟨g6, h⟩ := gdW h
  obtain ⟨w7, ew7, h⟩ := bindL h
  replace ew7 := Option.some.inj ew7
  refine oN (EvN.res (EvN.add rfl rfl g6) (r' := .v (.int .u64 w7)) (fun _ _ hr => by rw [← ew7]; exact hr)) ?_
  refine oN (EvN.band rfl rfl) ?_
  refine oN (EvN.asg (.v (.int .u64 (bAnd .u64 w7 (1085102592571150095 : Int)))) rfl) ?_
  refine TO.nil ?_
  refine T.seq ?_
  refine T.clean (H0 := []) (e0 := envOf [(0, .v (.int .u64 (bAnd .u64 w7 (1085102592571150095 : Int))))]) rfl (weak_cons rfl weak_nil) ?_
  refine T.region ?_
  refine oN (EvN.mv (.v (.int .u64 (bAnd .u64 w7 (1085102592571150095 : Int)))) rfl) ?_
  refine oN (EvN.mv (.v (.int .u64 (bAnd .u64 w7 (1085102592571150095 : Int)))) rfl) ?_
  obtain ⟨g8, h⟩ := gdD h
  refine oN (EvN.shr rfl rfl g8) ?_
  obtain ⟨g9, h⟩ := gdW h
  refine oN (EvN.add rfl rfl g9) ?_
  refine oN (EvN.asg (.v (.int .u64 ((bAnd .u64 w7 (1085102592571150095 : Int)) + (bShr .u64 (bAnd .u64 w7 (1085102592571150095 : Int)) (8 : Int))))) rfl) ?_
  refine TO.nil ?_
  refine T.seq ?_
  refine T.region ?_
  refine oN (EvN.mv (.v (.int .u64 ((bAnd .u64 w7 (1085102592571150095 : Int)) + (bShr .u64 (bAnd .u64 w7 (1085102592571150095 : Int)) (8 : Int))))) rfl) ?_
  refine oN (EvN.mv (.v (.int .u64 ((bAnd .u64 w7 (1085102592571150095 : Int)) + (bShr .u64 (bAnd .u64 w7 (1085102592571150095 : Int)) (8 : Int))))) rfl) ?_
  obtain ⟨g10, h⟩ := gdD h
  refine oN (EvN.shr rfl rfl g10) ?_
  obtain ⟨g11, h⟩ := gdW h
  refine oN (EvN.add rfl rfl g11) ?_
  refine oN (EvN.asg (.v (.int .u64 (((bAnd .u64 w7 (1085102592571150095 : Int)) + (bShr .u64 (bAnd .u64 w7 (1085102592571150095 : Int)) (8 : Int))) + (bShr .u64 ((bAnd .u64 w7 (1085102592571150095 : Int)) + (bShr .u64 (bAnd .u64 w7 (1085102592571150095 : Int)) (8 : Int))) (16 : Int))))) rfl) ?_
  refine TO.nil ?_
  refine T.seq ?_
  refine T.clean (H0 := []) (e0 := envOf [(0, .v (.int .u64 (((bAnd .u64 w7 (1085102592571150095 : Int)) + (bShr .u64 (bAnd .u64 w7 (1085102592571150095 : Int)) (8 : Int))) + (bShr .u64 ((bAnd .u64 w7 (1085102592571150095 : Int)) + (bShr .u64 (bAnd .u64 w7 (1085102592571150095 : Int)) (8 : Int))) (16 : Int)))))]) rfl (weak_cons rfl weak_nil) ?_
  refine T.region ?_
  refine oN (EvN.mv (.v (.int .u64 (((bAnd .u64 w7 (1085102592571150095 : Int)) + (bShr .u64 (bAnd .u64 w7 (1085102592571150095 : Int)) (8 : Int))) + (bShr .u64 ((bAnd .u64 w7 (1085102592571150095 : Int)) + (bShr .u64 (bAnd .u64 w7 (1085102592571150095 : Int)) (8 : Int))) (16 : Int))))) rfl) ?_
  refine oN (EvN.mv (.v (.int .u64 (((bAnd .u64 w7 (1085102592571150095 : Int)) + (bShr .u64 (bAnd .u64 w7 (1085102592571150095 : Int)) (8 : Int))) + (bShr .u64 ((bAnd .u64 w7 (1085102592571150095 : Int)) + (bShr .u64 (bAnd .u64 w7 (1085102592571150095 : Int)) (8 : Int))) (16 : Int))))) rfl) ?_
  obtain ⟨g12, h⟩ := gdD h
  refine oN (EvN.shr rfl rfl g12) ?_
  obtain ⟨g13, h⟩ := gdW h
  refine oN (EvN.add rfl rfl g13) ?_
  refine oN (EvN.asg (.v (.int .u64 ((((bAnd .u64 w7 (1085102592571150095 : Int)) + (bShr .u64 (bAnd .u64 w7 (1085102592571150095 : Int)) (8 : Int))) + (bShr .u64 ((bAnd .u64 w7 (1085102592571150095 : Int)) + (bShr .u64 (bAnd .u64 w7 (1085102592571150095 : Int)) (8 : Int))) (16 : Int))) + (bShr .u64 (((bAnd .u64 w7 (1085102592571150095 : Int)) + (bShr .u64 (bAnd .u64 w7 (1085102592571150095 : Int)) (8 : Int))) + (bShr .u64 ((bAnd .u64 w7 (1085102592571150095 : Int)) + (bShr .u64 (bAnd .u64 w7 (1085102592571150095 : Int)) (8 : Int))) (16 : Int))) (32 : Int))))) rfl) ?_
  refine TO.nil ?_
  refine T.seq ?_
  refine T.region ?_
  refine oN (EvN.mv (.v (.int .u64 ((((bAnd .u64 w7 (1085102592571150095 : Int)) + (bShr .u64 (bAnd .u64 w7 (1085102592571150095 : Int)) (8 : Int))) + (bShr .u64 ((bAnd .u64 w7 (1085102592571150095 : Int)) + (bShr .u64 (bAnd .u64 w7 (1085102592571150095 : Int)) (8 : Int))) (16 : Int))) + (bShr .u64 (((bAnd .u64 w7 (1085102592571150095 : Int)) + (bShr .u64 (bAnd .u64 w7 (1085102592571150095 : Int)) (8 : Int))) + (bShr .u64 ((bAnd .u64 w7 (1085102592571150095 : Int)) + (bShr .u64 (bAnd .u64 w7 (1085102592571150095 : Int)) (8 : Int))) (16 : Int))) (32 : Int))))) rfl) ?_
  obtain ⟨g14, h⟩ := gdW h
  refine oN (EvN.iconv ty143.und Try.underlying3 rfl g14) ?_
  refine oN (EvN.band rfl rfl) ?_
  refine oN (EvN.asg (I (bAnd .i64 ((((bAnd .u64 w7 (1085102592571150095 : Int)) + (bShr .u64 (bAnd .u64 w7 (1085102592571150095 : Int)) (8 : Int))) + (bShr .u64 ((bAnd .u64 w7 (1085102592571150095 : Int)) + (bShr .u64 (bAnd .u64 w7 (1085102592571150095 : Int)) (8 : Int))) (16 : Int))) + (bShr .u64 (((bAnd .u64 w7 (1085102592571150095 : Int)) + (bShr .u64 (bAnd .u64 w7 (1085102592571150095 : Int)) (8 : Int))) + (bShr .u64 ((bAnd .u64 w7 (1085102592571150095 : Int)) + (bShr .u64 (bAnd .u64 w7 (1085102592571150095 : Int)) (8 : Int))) (16 : Int))) (32 : Int))) (127 : Int))) rfl) ?_
  refine TO.nil ?_
  refine T.ret ?_
  obtain rfl := Option.some.inj h
  repeat first | refine retS ?_ | refine retB ?_
  exact Fin.ret (vs := [I (bAnd .i64 ((((bAnd .u64 w7 (1085102592571150095 : Int)) + (bShr .u64 (bAnd .u64 w7 (1085102592571150095 : Int)) (8 : Int))) + (bShr .u64 ((bAnd .u64 w7 (1085102592571150095 : Int)) + (bShr .u64 (bAnd .u64 w7 (1085102592571150095 : Int)) (8 : Int))) (16 : Int))) + (bShr .u64 (((bAnd .u64 w7 (1085102592571150095 : Int)) + (bShr .u64 (bAnd .u64 w7 (1085102592571150095 : Int)) (8 : Int))) + (bShr .u64 ((bAnd .u64 w7 (1085102592571150095 : Int)) + (bShr .u64 (bAnd .u64 w7 (1085102592571150095 : Int)) (8 : Int))) (16 : Int))) (32 : Int))) (127 : Int))]) (.cons (.tmp rfl) .nil) (.of_isF 9 _ rfl)

theorem F_math_bits_OnesCount_P (x : Int) {q : Int} (h : F_math_bits_OnesCount x = some q) : PCall Try.prog 97 [.v (.int .u64 x)] (I q) := by
  refine PCall.mkT Try.func97 rfl (by kernel_rfl) rfl (by kernel_rfl) (e0 := envOf [(0, .v (.int .u64 x))]) (weak_cons rfl weak_nil) ?_
  refine T.seq ?_
  refine T.region ?_
  refine oN (EvN.asg (I (0 : Int)) rfl) ?_
  refine TO.nil ?_
  refine T.seq ?_
  refine T.cond rfl (fun q => absurd (q.symm.trans rfl) (by decide)) (fun _ => ?_)
  refine T.skip ?_
  refine T.seq ?_
  refine T.region ?_
  refine oN (EvN.mv (.v (.int .u64 x)) rfl) ?_
  obtain ⟨v1, cv1, h⟩ := bindL h
  refine oN (EvN.call rfl rfl rfl (F_math_bits_OnesCount64_P x cv1) rfl) ?_
  refine oN (EvN.asg (I v1) rfl) ?_
  refine TO.nil ?_
  refine T.ret ?_
  obtain rfl := Option.some.inj h
  repeat first | refine retS ?_ | refine retB ?_
  exact Fin.ret (vs := [I v1]) (.cons (.tmp rfl) .nil) (.of_isF 9 _ rfl)

theorem F_impl_CountRel_P (r_ : List Int) {q : Int} (h : F_impl_CountRel r_ = some q) : PCall Try.prog 34 [eL cI r_] (I q) := by
  refine PCall.mkT Try.func34 rfl (by kernel_rfl) rfl (by kernel_rfl) (e0 := envOf [(0, eL cI r_)]) (weak_cons rfl weak_nil) ?_
  refine T.seq ?_
  refine T.region ?_
  refine oN (EvN.asg (I (0 : Int)) rfl) ?_
  refine TO.nil ?_
  refine T.seq ?_
  refine T.seq ?_
  refine T.region ?_
  refine oN (EvN.mv (eL cI r_) rfl) ?_
  obtain ⟨v1, cv1, h⟩ := bindL h
  refine oN (EvN.call rfl rfl rfl (F_impl_RelValid_P r_ cv1) rfl) ?_
  refine oN (EvN.not rfl) ?_
  refine TO.nil ?_
  refine T.cond rfl (fun q2 => ?_) (fun q2 => ?_)
  · replace h := condT q2 h
    refine T.seq ?_
    refine T.region ?_
    refine oN (EvN.asg (I (0 : Int)) rfl) ?_
    refine TO.nil ?_
    refine T.ret ?_
    obtain rfl := Option.some.inj h
    repeat first | refine retS ?_ | refine retB ?_
    exact Fin.ret (vs := [I (0 : Int)]) (.cons (.tmp rfl) .nil) (.of_isF 9 _ rfl)
  · replace h := condF q2 h
    refine T.skip ?_
    refine T.seq ?_
    refine T.region ?_
    refine oN (EvN.asg (I (0 : Int)) rfl) ?_
    refine TO.nil ?_
    obtain ⟨s3, h, ks3⟩ := bindL h
    refine T.joinF (G := Unit) (fun gh => True) (fun gh => [(3, I s3)]) (fun gh => []) (fun gh hg => ?_) ?_
    · clear h
      have h := ks3
      clear ks3
      refine T.seq ?_
      refine T.region ?_
      refine oN (EvN.mv (I s3) rfl) ?_
      refine oN (EvN.asg (I s3) rfl) ?_
      refine TO.nil ?_
      refine T.ret ?_
      obtain rfl := Option.some.inj h
      repeat first | refine retS ?_ | refine retB ?_
      exact Fin.ret (vs := [I s3]) (.cons (.tmp rfl) .nil) (.of_isF 9 _ rfl)
    · clear ks3
      refine T.seq ?_
      refine T.region ?_
      refine oN (EvN.mv (eL cI r_) rfl) ?_
      refine oN (EvN.lenL sl37 rfl) ?_
      refine oN (EvN.mv (I (0 : Int)) rfl) ?_
      refine TO.nil ?_
      refine T.block ?_
      refine T.loop (S := Int × Int) (G := Unit) (F_impl_CountRel_L5 r_) (fun s4 gh => True) (fun s4 gh => [(11, I s4.1), (10, I (r_.length : Int)), (9, eL cI r_), (3, I s4.2)]) (fun s4 gh => []) (s0 := ((0 : Int), (0 : Int))) () h trivial (cutW rfl (weak_cons rfl (weak_cons rfl (weak_cons rfl (weak_cons rfl weak_nil))))) (fun s4 gh ws4 h hg => ?_)
      refine T.seq ?_
      refine T.region ?_
      refine oN (EvN.ilt rfl rfl) ?_
      refine TO.nil ?_
      refine T.seq ?_
      refine T.cond rfl (fun q6 => ?_) (fun q6 => ?_)
      · replace h := condT q6 h
        refine T.skip ?_
        refine T.seq ?_
        refine T.block ?_
        refine T.seq ?_
        refine T.region ?_
        obtain ⟨g7, h⟩ := gdD h
        refine oN (EvN.ixL sl37 rfl rfl g7 (fun _ => rfl)) ?_
        refine oN (EvN.loadfp (I (r_.getD s4.1.toNat default)) ty3 rfl rfl) ?_
        refine oN (EvN.asg (I (r_.getD s4.1.toNat default)) rfl) ?_
        refine TO.nil ?_
        refine T.region ?_
        refine oN (EvN.mv (I s4.2) rfl) ?_
        refine oN (EvN.mv (I (r_.getD s4.1.toNat default)) rfl) ?_
        obtain ⟨g8, h⟩ := gdW h
        refine oN (EvN.iconv ty3.und Try.underlying110 rfl g8) ?_
        obtain ⟨v9, cv9, h⟩ := bindL h
        refine oN (EvN.call rfl rfl rfl (F_math_bits_OnesCount_P (r_.getD s4.1.toNat default) cv9) rfl) ?_
        obtain ⟨g10, h⟩ := gdW h
        refine oN (EvN.add rfl rfl g10) ?_
        refine oN (EvN.asg (I (s4.2 + v9)) rfl) ?_
        refine TO.nil ?_
        refine T.clean (H0 := []) (e0 := envOf [(3, I (s4.2 + v9)), (11, I s4.1), (10, I (r_.length : Int)), (9, eL cI r_)]) rfl (weak_cons rfl (weak_cons rfl (weak_cons rfl (weak_cons rfl weak_nil)))) ?_
        refine T.region ?_
        obtain ⟨g11, h⟩ := gdW h
        refine oN (EvN.add rfl rfl g11) ?_
        refine oN (EvN.mv (I (s4.1 + (1 : Int))) rfl) ?_
        refine TO.nil ?_
        obtain rfl := Option.some.inj h
        exact ⟨((s4.1 + (1 : Int)), (s4.2 + v9)), (), rfl, trivial, cutW rfl (weak_cons rfl (weak_cons rfl (weak_cons rfl (weak_cons rfl weak_nil))))⟩
      · replace h := condF q6 h
        refine T.exit ?_
        refine ⟨_, (Option.some.inj h).symm, fun h => ?_⟩
        replace h := congrArg some h
        obtain rfl := Option.some.inj h
        exact ⟨(), trivial, cutW rfl (weak_cons rfl weak_nil)⟩

theorem F_laws_FnRaceThread_P (code : List Int) {q : Bool} (h : F_laws_FnRaceThread code = some q) : PCall Try.prog 8 [eL cY code] (Bo q) := by
  refine PCall.mkT Try.func8 rfl (by kernel_rfl) rfl (by kernel_rfl) (e0 := envOf [(0, eL cY code)]) (weak_cons rfl weak_nil) ?_
  refine T.seq ?_
  refine T.region ?_
  refine oN (EvN.asg (Bo false) rfl) ?_
  refine TO.nil ?_
  refine T.seq ?_
  refine T.seq ?_
  refine T.region ?_
  refine oN (EvN.mv (eL cY code) rfl) ?_
  refine oN (EvN.lenL sl22 rfl) ?_
  refine oN (EvN.igt rfl rfl) ?_
  refine TO.nil ?_
  refine T.cond rfl (fun q1 => ?_) (fun q1 => ?_)
  · replace h := condT q1 h
    refine T.seq ?_
    refine T.region ?_
    refine oN (EvN.asg (Bo true) rfl) ?_
    refine TO.nil ?_
    refine T.ret ?_
    obtain rfl := Option.some.inj h
    repeat first | refine retS ?_ | refine retB ?_
    exact Fin.ret (vs := [Bo true]) (.cons (.tmp rfl) .nil) (.of_isF 9 _ rfl)
  · replace h := condF q1 h
    refine T.skip ?_
    refine T.seq ?_
    refine T.region ?_
    refine oN (EvN.mv (eL cY code) rfl) ?_
    obtain ⟨v2, cv2, h⟩ := bindL h
    refine oN (EvN.call rfl rfl rfl (F_spec_DrawRacesOf_P code cv2) rfl) ?_
    refine oN (EvN.asg (eL (cL Ximpl_Instr.c) v2) rfl) ?_
    refine TO.nil ?_
    refine T.seq ?_
    refine T.clean (H0 := []) (e0 := envOf [(3, eL (cL Ximpl_Instr.c) v2)]) rfl (weak_cons rfl weak_nil) ?_
    refine T.region ?_
    refine oN (EvN.mv (eL (cL Ximpl_Instr.c) v2) rfl) ?_
    obtain ⟨v3, cv3, h⟩ := bindL h
    refine oN (EvN.call rfl rfl rfl (F_impl_RacesOf_P v2 cv3) rfl) ?_
    refine oN (EvN.asg (eL Ximpl_Race.c v3) rfl) ?_
    refine TO.nil ?_
    refine T.seq ?_
    refine T.seq ?_
    refine T.region ?_
    refine oN (EvN.mv (eL Ximpl_Race.c v3) rfl) ?_
    refine oN (EvN.lenL sl35 rfl) ?_
    refine oN (EvN.mv (eL (cL Ximpl_Instr.c) v2) rfl) ?_
    obtain ⟨v4, cv4, h⟩ := bindL h
    refine oN (EvN.call rfl rfl rfl (F_spec_RacesOf_P v2 cv4) rfl) ?_
    refine oN (EvN.lenL sl35 rfl) ?_
    refine oN (EvN.ine rfl rfl) ?_
    refine oN (EvN.mv (Bo ((v3.length : Int) != (v4.length : Int))) rfl) ?_
    obtain ⟨s5, h, ks5⟩ := bindL h
    refine TO.joinF (G := Unit) 4 (fun _ => True) (fun _ => [(24, Bo s5), (4, eL Ximpl_Race.c v3), (3, eL (cL Ximpl_Instr.c) v2)]) (fun _ => []) ?_ (fun js5 => ?_)
    rotate_left
    · clear ks5
      rcases bifL h with ⟨q6, h⟩ | ⟨q6, h⟩
      · refine gS rfl q6 ?_
        refine gS rfl q6 ?_
        refine gS rfl q6 ?_
        refine oN (EvN.pickT rfl q6 (Bo true) rfl) ?_
        obtain rfl := Option.some.inj h
        exact js5 _ _ ⟨(), trivial, cutW rfl (weak_cons rfl (weak_cons rfl (weak_cons rfl weak_nil)))⟩
      · refine gN rfl q6 (EvN.mv (eL (cL Ximpl_Instr.c) v2) rfl) ?_
        obtain ⟨v7, cv7, h⟩ := bindL h
        refine gN rfl q6 (EvN.call rfl rfl rfl (F_impl_ProgramValid_P v2 cv7) rfl) ?_
        refine gN rfl q6 (EvN.not rfl) ?_
        refine oN (EvN.pickF rfl q6 (Bo (!v7)) rfl) ?_
        obtain rfl := Option.some.inj h
        exact js5 _ _ ⟨(), trivial, cutW rfl (weak_cons rfl (weak_cons rfl (weak_cons rfl weak_nil)))⟩
    · intro _ _
      replace h := ks5
      clear ks5
      refine TO.nil ?_
      refine T.cond rfl (fun q8 => ?_) (fun q8 => ?_)
      · replace h := condT q8 h
        refine T.seq ?_
        refine T.region ?_
        refine oN (EvN.mv (eL Ximpl_Race.c v3) rfl) ?_
        refine oN (EvN.lenL sl35 rfl) ?_
        refine oN (EvN.mv (eL (cL Ximpl_Instr.c) v2) rfl) ?_
        obtain ⟨v9, cv9, h⟩ := bindL h
        refine oN (EvN.call rfl rfl rfl (F_spec_RacesOf_P v2 cv9) rfl) ?_
        refine oN (EvN.lenL sl35 rfl) ?_
        refine oN (EvN.ieq rfl rfl) ?_
        refine oN (EvN.asg (Bo ((v3.length : Int) == (v9.length : Int))) rfl) ?_
        refine TO.nil ?_
        refine T.ret ?_
        obtain rfl := Option.some.inj h
        repeat first | refine retS ?_ | refine retB ?_
        exact Fin.ret (vs := [Bo ((v3.length : Int) == (v9.length : Int))]) (.cons (.tmp rfl) .nil) (.of_isF 9 _ rfl)
      · replace h := condF q8 h
        refine T.skip ?_
        refine T.seq ?_
        refine T.seq ?_
        refine T.region ?_
        refine oN (EvN.mv (eL (cL Ximpl_Instr.c) v2) rfl) ?_
        refine oN (EvN.lenL sl23 rfl) ?_
        refine oN (EvN.ieq rfl rfl) ?_
        refine TO.nil ?_
        refine T.cond rfl (fun q10 => ?_) (fun q10 => ?_)
        · replace h := condT q10 h
          refine T.seq ?_
          refine T.region ?_
          refine oN (EvN.mv (eL Ximpl_Race.c v3) rfl) ?_
          refine oN (EvN.lenL sl35 rfl) ?_
          refine oN (EvN.ieq rfl rfl) ?_
          refine oN (EvN.mv (Bo ((v3.length : Int) == (0 : Int))) rfl) ?_
          obtain ⟨s11, h, ks11⟩ := bindL h
          refine TO.joinF (G := Unit) 5 (fun _ => True) (fun _ => [(42, Bo s11)]) (fun _ => []) ?_ (fun js11 => ?_)
          rotate_left
          · clear ks11
            rcases bifL h with ⟨q12, h⟩ | ⟨q12, h⟩
            · refine gN rfl q12 (EvN.mv (eL (cL Ximpl_Instr.c) v2) rfl) ?_
              obtain ⟨v13, cv13, h⟩ := bindL h
              refine gN rfl q12 (EvN.call rfl rfl rfl (F_impl_DelayRel_P v2 cv13) rfl) ?_
              obtain ⟨v14, cv14, h⟩ := bindL h
              refine gN rfl q12 (EvN.call rfl rfl rfl (F_impl_CountRel_P v13 cv14) rfl) ?_
              refine gN rfl q12 (EvN.ieq rfl rfl) ?_
              refine oN (EvN.pickT rfl q12 (Bo (v14 == (0 : Int))) rfl) ?_
              obtain rfl := Option.some.inj h
              exact js11 _ _ ⟨(), trivial, cutW rfl (weak_cons rfl weak_nil)⟩
            · refine gS rfl q12 ?_
              refine gS rfl q12 ?_
              refine gS rfl q12 ?_
              refine gS rfl q12 ?_
              refine oN (EvN.pickF rfl q12 (Bo false) rfl) ?_
              obtain rfl := Option.some.inj h
              exact js11 _ _ ⟨(), trivial, cutW rfl (weak_cons rfl weak_nil)⟩
          · intro _ _
            replace h := ks11
            clear ks11
            refine oN (EvN.asg (Bo s11) rfl) ?_
            refine TO.nil ?_
            refine T.ret ?_
            obtain rfl := Option.some.inj h
            repeat first | refine retS ?_ | refine retB ?_
            exact Fin.ret (vs := [Bo s11]) (.cons (.tmp rfl) .nil) (.of_isF 9 _ rfl)
        · replace h := condF q10 h
          refine T.skip ?_
          refine T.seq ?_
          refine T.region ?_
          refine oN (EvN.mv (eL (cL Ximpl_Instr.c) v2) rfl) ?_
          obtain ⟨v15, cv15, h⟩ := bindL h
          refine oN (EvN.call rfl rfl rfl (F_impl_DropThread_P v2 (0 : Int) cv15) rfl) ?_
          refine oN (EvN.mv (.tup [eL (cL Ximpl_Instr.c) v15.1, Bo v15.2]) rfl) ?_
          refine oN (EvN.ext (eL (cL Ximpl_Instr.c) v15.1) rfl rfl) ?_
          refine oN (EvN.ext (Bo v15.2) rfl rfl) ?_
          refine oN (EvN.asg (eL (cL Ximpl_Instr.c) v15.1) rfl) ?_
          refine oN (EvN.asg (Bo v15.2) rfl) ?_
          refine TO.nil ?_
          refine T.seq ?_
          refine T.clean (H0 := []) (e0 := envOf [(6, Bo v15.2), (5, eL (cL Ximpl_Instr.c) v15.1), (4, eL Ximpl_Race.c v3)]) rfl (weak_cons rfl (weak_cons rfl (weak_cons rfl weak_nil))) ?_
          refine T.region ?_
          refine oN (EvN.mv (Bo v15.2) rfl) ?_
          refine oN (EvN.mv (Bo v15.2) rfl) ?_
          obtain ⟨s16, h, ks16⟩ := bindL h
          refine TO.joinF (G := Unit) 7 (fun _ => True) (fun _ => [(56, Bo s16)]) (fun _ => []) ?_ (fun js16 => ?_)
          rotate_left
          · clear ks16
            rcases bifL h with ⟨q17, h⟩ | ⟨q17, h⟩
            · refine gN rfl q17 (EvN.mv (eL (cL Ximpl_Instr.c) v15.1) rfl) ?_
              obtain ⟨v18, cv18, h⟩ := bindL h
              refine gN rfl q17 (EvN.call rfl rfl rfl (F_impl_RacesOf_P v15.1 cv18) rfl) ?_
              refine gN rfl q17 (EvN.lenL sl35 rfl) ?_
              refine gN rfl q17 (EvN.mv (eL Ximpl_Race.c v3) rfl) ?_
              refine gN rfl q17 (EvN.lenL sl35 rfl) ?_
              refine gN rfl q17 (EvN.ile rfl rfl) ?_
              refine oN (EvN.pickT rfl q17 (Bo (decide ((v18.length : Int) ≤ (v3.length : Int)))) rfl) ?_
              obtain rfl := Option.some.inj h
              exact js16 _ _ ⟨(), trivial, cutW rfl (weak_cons rfl weak_nil)⟩
            · refine gS rfl q17 ?_
              refine gS rfl q17 ?_
              refine gS rfl q17 ?_
              refine gS rfl q17 ?_
              refine gS rfl q17 ?_
              refine gS rfl q17 ?_
              refine oN (EvN.pickF rfl q17 (Bo false) rfl) ?_
              obtain rfl := Option.some.inj h
              exact js16 _ _ ⟨(), trivial, cutW rfl (weak_cons rfl weak_nil)⟩
          · intro _ _
            replace h := ks16
            clear ks16
            refine oN (EvN.asg (Bo s16) rfl) ?_
            refine TO.nil ?_
            refine T.ret ?_
            obtain rfl := Option.some.inj h
            repeat first | refine retS ?_ | refine retB ?_
            exact Fin.ret (vs := [Bo s16]) (.cons (.tmp rfl) .nil) (.of_isF 9 _ rfl)
end Go.Proofs.Ytjogdblionfmiaa
