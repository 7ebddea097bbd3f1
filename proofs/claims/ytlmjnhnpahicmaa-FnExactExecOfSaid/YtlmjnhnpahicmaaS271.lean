/-
 The program's code computes the functions over plain values; printed by lift.py. No conditions.
-/
import Derived.Test.YtlmjnhnpahicmaaS27d
import Derived.Test.YtlmjnhnpahicmaaSf
import Derived.Test.YtlmjnhnpahicmaaXOwn2
import Derived.Test.YtlmjnhnpahicmaaS263
namespace Go.Proofs.Ytlmjnhnpahicmaa
open Go.RowKit
set_option maxRecDepth 100000
theorem F_slices_Repeat_int_int_OP7 (x : List Int) (count : Int) {q : (List Int)} (h : F_slices_Repeat_int_int_O x count = some q) : BCall Try.prog 121 [eL cI x, I count] [] (OwnR 1 3 (fun x => x) q.length (q.map cI) 0 []) := by
 refine BCall.mkO Try.func121 rfl (by kernel_rfl) rfl (by kernel_rfl) (e0 := envOf [(0, eL cI x), (1, I count)]) (wkC rfl (wkC rfl wkN)) ren_id (rowsM (fun _ => rfl)) ?_
 refine T.seq ?_
 refine T.region ?_
 refine oN (EvN.asg (.nil) rfl) ?_
 refine TO.nil ?_
 obtain ⟨s1, h, ks1⟩ := bindL h
 refine T.joinF (G := Unit) (fun gh => True) (fun gh => [(0, eL cI x), (1, I count)]) (fun gh => []) (fun gh hg => ?_) ?_
 ·clear h
  have h := ks1
  clear ks1
  refine T.seq ?_
  refine T.region ?_
  refine oN (EvN.mv (eL cI x) rfl) ?_
  refine oN (EvN.lenL sl23 rfl) ?_
  obtain ⟨g3, h⟩ := gdW h
  refine oN (EvN.iconv ty3.und Try.underlying168 rfl g3) ?_
  refine oN (EvN.mv (I count) rfl) ?_
  obtain ⟨g4, h⟩ := gdW h
  refine oN (EvN.iconv ty3.und Try.underlying168 rfl g4) ?_
  obtain ⟨v5, cv5, h⟩ := bindL h
  refine oN (EvN.call rfl rfl rfl (F_math_bits_Mul_P (x.length : Int) count cv5) rfl) ?_
  refine oN (EvN.mv (.tup [.v (.int .u64 v5.1), .v (.int .u64 v5.2)]) rfl) ?_
  refine oN (EvN.ext (.v (.int .u64 v5.1)) rfl rfl) ?_
  refine oN (EvN.ext (.v (.int .u64 v5.2)) rfl rfl) ?_
  refine oN (EvN.asg (.v (.int .u64 v5.1)) rfl) ?_
  refine oN (EvN.asg (.v (.int .u64 v5.2)) rfl) ?_
  refine TO.nil ?_
  obtain ⟨s6, h, ks6⟩ := bindL h
  refine T.joinF (G := Unit) (fun gh => True) (fun gh => [(6, .v (.int .u64 v5.2)), (0, eL cI x)]) (fun gh => []) (fun gh hg => ?_) ?_
  ·clear h
   have h := ks6
   clear ks6
   refine T.seq ?_
   refine T.region ?_
   refine oN (EvN.mv (.v (.int .u64 v5.2)) rfl) ?_
   obtain ⟨g10, h⟩ := gdW h
   refine oN (EvN.iconv ty168.und Try.underlying3 rfl g10) ?_
   obtain ⟨g11, h⟩ := gdD h
   refine oA (EvA.mkN (c := cI) (default : Int) sl23 rfl rfl g11 rfl rfl rfl) ?_
   refine oN (EvN.asg (hS false 0 0 1 ((List.replicate v5.2.toNat (default : Int)).length)) rfl) ?_
   refine TO.nil ?_
   refine T.seq ?_
   refine T.region ?_
   refine oN (EvN.mv (hS false 0 0 1 ((List.replicate v5.2.toNat (default : Int)).length)) rfl) ?_
   refine oN (EvN.mv (eL cI x) rfl) ?_
   refine oA (EvA.copyO (l := (List.replicate v5.2.toNat (default : Int))) x sl23 rfl rfl (show 0 + (List.replicate v5.2.toNat (default : Int)).length ≤ (List.replicate v5.2.toNat (default : Int)).length by simp) (SrcN.el rfl (fun _ => rfl))) ?_
   refine oN (EvN.asg (I ((min x.length ((List.replicate v5.2.toNat (default : Int)).length) : Nat) : Int)) rfl) ?_
   refine TO.nil ?_
   obtain ⟨s12, h, ks12⟩ := bindL h
   refine T.joinF (G := Nat) (fun gh => True) (fun gh => [(7, hS false 0 gh 1 s12.length)]) (fun gh => [bE false gh 1 3 (s12.map cI)]) (fun u23 hg => ?_) ?_
   ·clear h
    have h := ks12
    clear ks12
    refine T.seq ?_
    refine T.region ?_
    refine oN (EvN.mv (hS false 0 u23 1 s12.length) rfl) ?_
    refine oN (EvN.asg (hS false 0 u23 1 s12.length) rfl) ?_
    refine TO.nil ?_
    refine T.ret ?_
    obtain rfl := osi h
    repeat (first|refine retS ?_|refine retB ?_)
    exact Fin.ret (vs := [hS false 0 u23 1 s12.length]) (.cons (.tmp rfl) .nil) ⟨0, false, u23, nofun, rfl, ownB rfl⟩
   ·clear ks12
    refine T.block ?_
    refine T.loop (S := (List Int) × Int) (G := Nat) F_slices_Repeat_int_int_O_L17 (fun s16 gh => True) (fun s16 gh => [(8, I s16.2), (7, hS false 0 gh 1 s16.1.length)]) (fun s16 gh => [bE false gh 1 3 (s16.1.map cI)]) (s0 := ((cpy (List.replicate v5.2.toNat (default : Int)) 0 x ((List.replicate v5.2.toNat (default : Int)).length)), ((min x.length ((List.replicate v5.2.toNat (default : Int)).length) : Nat) : Int))) 0 h trivial (cutW rfl (wkC rfl (wkC (congrArg (hS false 0 0 1) (by simp [cpy_length] : (List.replicate v5.2.toNat (default : Int)).length = (cpy (List.replicate v5.2.toNat (default : Int)) 0 x ((List.replicate v5.2.toNat (default : Int)).length)).length)) wkN))) (fun s16 u18 ws16 h hg => ?_)
    refine T.seq ?_
    refine T.seq ?_
    refine T.region ?_
    refine oN (EvN.mv (I s16.2) rfl) ?_
    refine oN (EvN.mv (hS false 0 u18 1 s16.1.length) rfl) ?_
    refine oN (EvN.lenO (g := false) sl23 rfl nofun) ?_
    refine oN (EvN.ilt rfl rfl) ?_
    refine TO.nil ?_
    refine T.cond rfl (fun q19 => ?_) (fun q19 => ?_)
    ·replace h := condT q19 h
     refine T.skip ?_
     refine T.block ?_
     refine T.drawF (fun i => [([], false), ([], false), ([], false), ([], false), ([], false), ([], false), ([], false), ([0], true), ([], false), ([], false)].getD i ([], false)) (by kernel_rfl) (by kernel_rfl) ?_
     refine fN rfl (EvN.mv (I s16.2) rfl) ?_
     refine fN rfl (EvN.mv (hS false 0 u18 1 s16.1.length) rfl) ?_
     refine fN rfl (EvN.mv (I s16.2) rfl) ?_
     obtain ⟨g20, h⟩ := gdD h
     refine fN rfl (EvN.slhs Try.underlying23 ty3 (l := s16.2) (h := (s16.1.length : Int)) rfl (.yes rfl) .no g20) ?_
     refine fN rfl (EvN.mv (hS false 0 u18 1 s16.1.length) rfl) ?_
     refine fN rfl (EvN.mv (I s16.2) rfl) ?_
     obtain ⟨g21, h⟩ := gdD h
     refine fN rfl (EvN.slhs Try.underlying23 ty3 (l := (0 : Int)) (h := s16.2) rfl .no (.yes rfl) g21) ?_
     refine fW 0 [] rfl rfl (fun G hG => EvA.copyO (l := s16.1) ((s16.1.drop (0 + (0 : Int).toNat)).take (s16.2.toNat - (0 : Int).toNat)) sl23 rfl (hG.a0 rfl) (osl_le (l := s16.1) g20 rfl) (SrcN.ow (l := s16.1) (0 + (0 : Int).toNat) (s16.2.toNat - (0 : Int).toNat) rfl (hG.a0 rfl) (osl_le (l := s16.1) g21 rfl))) ?_
     obtain ⟨g22, h⟩ := gdW h
     refine fN rfl (EvN.add rfl rfl g22) ?_
     refine fN rfl (EvN.asg (I (s16.2 + ((min ((s16.1.drop (0 + (0 : Int).toNat)).take (s16.2.toNat - (0 : Int).toNat)).length ((s16.1.length : Int).toNat - s16.2.toNat) : Nat) : Int))) rfl) ?_
     refine TF.nil ?_
     obtain rfl := osi h
     exact ⟨((cpy s16.1 (0 + s16.2.toNat) ((s16.1.drop (0 + (0 : Int).toNat)).take (s16.2.toNat - (0 : Int).toNat)) ((s16.1.length : Int).toNat - s16.2.toNat)), (s16.2 + ((min ((s16.1.drop (0 + (0 : Int).toNat)).take (s16.2.toNat - (0 : Int).toNat)).length ((s16.1.length : Int).toNat - s16.2.toNat) : Nat) : Int))), u18, rfl, trivial, cutW rfl (wkC rfl (wkC (congrArg (hS false 0 u18 1) (by simp [cpy_length] : s16.1.length = (cpy s16.1 (0 + s16.2.toNat) ((s16.1.drop (0 + (0 : Int).toNat)).take (s16.2.toNat - (0 : Int).toNat)) ((s16.1.length : Int).toNat - s16.2.toNat)).length)) wkN))⟩
    ·replace h := condF q19 h
     refine T.exit ?_
     refine ⟨_, (osi h).symm, fun h => ?_⟩
     replace h := congrArg some h
     obtain rfl := osi h
     exact ⟨u18, trivial, cutW rfl (wkC rfl wkN)⟩
  ·clear ks6
   refine T.seq ?_
   refine T.clean (H0 := []) (e0 := envOf [(6, .v (.int .u64 v5.2)), (5, .v (.int .u64 v5.1)), (0, eL cI x)]) rfl (wkC rfl (wkC rfl (wkC rfl wkN))) ?_
   refine T.region ?_
   refine oN (EvN.mv (.v (.int .u64 v5.1)) rfl) ?_
   refine oN (EvN.igt rfl rfl) ?_
   refine oN (EvN.mv (Bo (decide ((0 : Int) < v5.1))) rfl) ?_
   obtain ⟨s7, h, ks7⟩ := bindL h
   refine TO.joinF (G := Unit) 3 (fun _ => True) (fun _ => [(26, Bo s7), (6, .v (.int .u64 v5.2)), (0, eL cI x)]) (fun _ => []) ?_ (fun js7 => ?_)
   rotate_left
   ·clear ks7
    rcases bifL h with ⟨q8, h⟩ | ⟨q8, h⟩
    ·refine gS rfl q8 ?_
     refine gS rfl q8 ?_
     refine oN (EvN.pickT rfl q8 (Bo true) rfl) ?_
     obtain rfl := osi h
     exact js7 _ _ ⟨(), trivial, cutW rfl (wkC rfl (wkC rfl (wkC rfl wkN)))⟩
    ·refine gN rfl q8 (EvN.mv (.v (.int .u64 v5.2)) rfl) ?_
     refine gN rfl q8 (EvN.igt rfl rfl) ?_
     refine oN (EvN.pickF rfl q8 (Bo (decide ((9223372036854775807 : Int) < v5.2))) rfl) ?_
     obtain rfl := osi h
     exact js7 _ _ ⟨(), trivial, cutW rfl (wkC rfl (wkC rfl (wkC rfl wkN)))⟩
   ·intro _ _
    replace h := ks7
    clear ks7
    refine TO.nil ?_
    refine T.cond rfl (fun q9 => ?_) (fun q9 => ?_)
    ·replace h := condT q9 h
     cases h
    ·replace h := condF q9 h
     refine T.skip ?_
     obtain rfl := osi h
     exact ⟨(), trivial, cutW rfl (wkC rfl (wkC rfl wkN))⟩
 ·clear ks1
  refine T.seq ?_
  refine T.region ?_
  refine oN (EvN.mv (I count) rfl) ?_
  refine oN (EvN.ilt rfl rfl) ?_
  refine TO.nil ?_
  refine T.cond rfl (fun q2 => ?_) (fun q2 => ?_)
  ·replace h := condT q2 h
   cases h
  ·replace h := condF q2 h
   refine T.skip ?_
   obtain rfl := osi h
   exact ⟨(), trivial, cutW rfl (wkC rfl (wkC rfl wkN))⟩
theorem F_impl_execOf_OX (p : List (List ZIn)) (schedule : List Int) {q : Ximpl_Exec} (h : F_impl_execOf p schedule = some q) : BCall Try.prog 69 [eL (cL ZIn.c) p, eL cI schedule] [] (OwnX 3 23 q) := by
 refine BCall.mkT (H := []) Try.func69 rfl (by kernel_rfl) rfl (by kernel_rfl) (e0 := envOf [(0, eL (cL ZIn.c) p), (1, eL cI schedule)]) (wkC rfl (wkC rfl wkN)) ?_
 refine T.seq ?_
 refine T.region ?_
 refine oA (EvA.al zs43 rfl rfl) ?_
 refine TO.nil ?_
 refine T.seq ?_
 refine T.region ?_
 refine oN (EvN.mkF (c := cI) ([(-1 : Int)] : List Int) [[I (-1 : Int)]] sl23 rfl rfl rfl (fun _ => rfl) (fun _ => rfl) rfl) ?_
 refine oN (EvN.mv (eL (cL ZIn.c) p) rfl) ?_
 obtain ⟨v1, cv1, h⟩ := bindL h
 refine oN (EvN.call rfl rfl rfl (F_impl_events_P p cv1) rfl) ?_
 refine oN (EvN.lenL sl98 rfl) ?_
 obtain ⟨v2, cv2, h⟩ := bindL h
 refine oG rfl rfl rfl ((F_slices_Repeat_int_int_OP7 ([(-1 : Int)] : List Int) (v1.length : Int) cv2).own rfl (rowsM (fun _ => rfl)) ren_id 1 rfl) (fun g3 v4 n5 => ?_)
 refine oA (EvA.mkO (c := cI) ([(0 : Int)] : List Int) [[I (0 : Int)]] sl23 rfl rfl rfl (fun _ => rfl) rfl rfl) ?_
 refine oA (EvA.mkO (c := cI) ([(1 : Int)] : List Int) [[I (1 : Int)]] sl23 rfl rfl rfl (fun _ => rfl) rfl rfl) ?_
 refine oA (EvA.mkO (c := cI) ([(2 : Int)] : List Int) [[I (2 : Int)]] sl23 rfl rfl rfl (fun _ => rfl) rfl rfl) ?_
 refine oA (EvA.mkR [[hS false 2 0 1 (([(0 : Int)] : List Int).length)], [hS false 3 0 1 (([(1 : Int)] : List Int).length)], [hS false 4 0 1 (([(2 : Int)] : List Int).length)]] sl37 rfl rfl rfl rfl) ?_
 refine TO.reid (e0 := envOf [(21, hS false 2 0 1 (([([(0 : Int)] : List Int), ([(1 : Int)] : List Int), ([(2 : Int)] : List Int)] : List (List Int)).length)), (17, hS g3 1 v4 1 v2.length), (4, .hp 0 0 2 0 0), (0, eL (cL ZIn.c) p), (1, eL cI schedule)]) (Reid.rot (m := 2) (N := 3) (S := [some ⟨0, 2, 43, [[.nil, .nil]]⟩, bE g3 v4 1 3 (v2.map cI)]) (S' := [some ⟨0, 2, 43, [[.nil, .nil]]⟩, bE g3 v4 1 3 (v2.map cI)]) (K := [bE false 0 1 3 (([(0 : Int)] : List Int).map cI), bE false 0 1 3 (([(1 : Int)] : List Int).map cI), bE false 0 1 3 (([(2 : Int)] : List Int).map cI)]) (x := some ⟨0, 1, 23, [[hS false 2 0 1 (([(0 : Int)] : List Int).length)], [hS false 3 0 1 (([(1 : Int)] : List Int).length)], [hS false 4 0 1 (([(2 : Int)] : List Int).length)]]⟩) (x' := some ⟨0, 1, 23, [[hS false (0 + 3) 0 1 ([(0 : Int)] : List Int).length], [hS false (1 + 3) 0 1 ([(1 : Int)] : List Int).length], [hS false (2 + 3) 0 1 ([(2 : Int)] : List Int).length]]⟩) rfl rfl rfl (.some (.rowL (.cons .nil (.cons .nil .nil))) (.bE (fun _ => rfl) .nil)) (NN.lit (w := 1) (ty := 3) (f := cI) ([([(0 : Int)] : List Int), ([(1 : Int)] : List Int), ([(2 : Int)] : List Int)] : List (List Int)) (fun _ => rfl)).kf (.some (.rowsL (.cons (.cons (ren_hSg (Rot.up (k := 0) (by decide))) .nil) (.cons (.cons (ren_hSg (Rot.up (k := 1) (by decide))) .nil) (.cons (.cons (ren_hSg (Rot.up (k := 2) (by decide))) .nil) .nil)))) .nil)) (renE_cons (a0 := hS false 5 0 1 3) rfl (ren_hSg Rot.new) (renE_cons (a0 := hS g3 1 v4 1 v2.length) rfl (ren_hSg (Rot.low rfl)) (renE_cons (a0 := .hp 0 0 2 0 0) rfl (.hp (Rot.low rfl)) (renE_F rfl rfl (renE_F rfl rfl renE_nil))))) ?_
 refine oN (EvN.build [hS g3 1 v4 1 v2.length, hS false 2 0 1 (([([(0 : Int)] : List Int), ([(1 : Int)] : List Int), ([(2 : Int)] : List Int)] : List (List Int)).length)] Try.underlying43 zs43 fs43 rfl (by generalize g3 = gq0; cases gq0 <;> rfl)) ?_
 refine oA (EvA.al zs43 rfl rfl) ?_
 refine TO.reid (e0 := envOf [(5, .hp 3 0 2 0 0), (22, .agg [hS g3 1 v4 1 v2.length, hS false 2 0 1 (([([(0 : Int)] : List Int), ([(1 : Int)] : List Int), ([(2 : Int)] : List Int)] : List (List Int)).length)]), (4, .hp 0 0 2 0 0), (0, eL (cL ZIn.c) p), (1, eL cI schedule)]) (Reid.rot (m := 3) (S := [some ⟨0, 2, 43, [[.nil, .nil]]⟩, bE g3 v4 1 3 (v2.map cI), bE false 0 1 23 (nrs 3 (fun i => (false, i, 0)) 1 ([([(0 : Int)] : List Int), ([(1 : Int)] : List Int), ([(2 : Int)] : List Int)] : List (List Int)))]) (S' := [some ⟨0, 2, 43, [[.nil, .nil]]⟩, bE g3 v4 1 3 (v2.map cI), bE false 0 1 23 (nrs 4 (fun i => (false, i, 0)) 1 ([([(0 : Int)] : List Int), ([(1 : Int)] : List Int), ([(2 : Int)] : List Int)] : List (List Int)))]) (K := [bE false 0 1 3 (([(0 : Int)] : List Int).map cI), bE false 0 1 3 (([(1 : Int)] : List Int).map cI), bE false 0 1 3 (([(2 : Int)] : List Int).map cI)]) (x := some ⟨0, 2, 43, [[.nil, .nil]]⟩) (x' := some ⟨0, 2, 43, [[.nil, .nil]]⟩) rfl rfl rfl (.some (.rowL (.cons .nil (.cons .nil .nil))) (.bE (fun _ => rfl) (.nest ((NN.lit (w := 1) (ty := 3) (f := cI) ([([(0 : Int)] : List Int), ([(1 : Int)] : List Int), ([(2 : Int)] : List Int)] : List (List Int)) (fun _ => rfl)).renK rfl) .nil))) (NN.lit (w := 1) (ty := 3) (f := cI) ([([(0 : Int)] : List Int), ([(1 : Int)] : List Int), ([(2 : Int)] : List Int)] : List (List Int)) (fun _ => rfl)).kf (.some (.rowL (.cons .nil (.cons .nil .nil))) .nil)) (renE_cons (a0 := .hp ([bE false 0 1 3 (([(0 : Int)] : List Int).map cI), bE false 0 1 3 (([(1 : Int)] : List Int).map cI), bE false 0 1 3 (([(2 : Int)] : List Int).map cI)].length + 3) 0 2 0 0) rfl (.hp Rot.new) (renE_cons (a0 := .agg [hS g3 1 v4 1 v2.length, hS false 2 0 1 (([([(0 : Int)] : List Int), ([(1 : Int)] : List Int), ([(2 : Int)] : List Int)] : List (List Int)).length)]) rfl (Ren.aggL (.cons (ren_hSg (Rot.low rfl)) (.cons (ren_hSg (Rot.low rfl)) .nil))) (renE_cons (a0 := .hp 0 0 2 0 0) rfl (.hp (Rot.low rfl)) (renE_F rfl rfl (renE_F rfl rfl renE_nil))))) ?_
 refine oV (EvA.st (cs := [hS g3 1 v4 1 v2.length, hS false 2 0 1 (([([(0 : Int)] : List Int), ([(1 : Int)] : List Int), ([(2 : Int)] : List Int)] : List (List Int)).length)]) ⟨0, 2, 43, [[hS g3 1 v4 1 v2.length, hS false 2 0 1 (([([(0 : Int)] : List Int), ([(1 : Int)] : List Int), ([(2 : Int)] : List Int)] : List (List Int)).length)]]⟩ ty43 rfl (by generalize g3 = gq0; cases gq0 <;> rfl) rfl rfl rfl rfl rfl rfl rfl) ?_
 refine TO.nil ?_
 refine T.seq ?_
 refine T.region ?_
 refine oN (EvN.mv (eL (cL ZIn.c) p) rfl) ?_
 obtain ⟨v6, cv6, h⟩ := bindL h
 refine oN (EvN.call rfl rfl rfl (F_impl_numbers_P p cv6) rfl) ?_
 refine oN (EvN.asg (eL (cL cI) v6) rfl) ?_
 refine TO.nil ?_
 refine T.seq ?_
 refine T.region ?_
 refine oA (EvA.al zs127 rfl rfl) ?_
 refine TO.reid (e0 := envOf [(7, .hp 4 0 3 0 0), (6, eL (cL cI) v6), (5, .hp 3 0 2 0 0), (4, .hp 0 0 2 0 0), (0, eL (cL ZIn.c) p), (1, eL cI schedule)]) (Reid.rot (m := 4) (S := [some ⟨0, 2, 43, [[.nil, .nil]]⟩, bE g3 v4 1 3 (v2.map cI), bE false 0 1 23 (nrs 4 (fun i => (false, i, 0)) 1 ([([(0 : Int)] : List Int), ([(1 : Int)] : List Int), ([(2 : Int)] : List Int)] : List (List Int))), some ⟨0, 2, 43, [[hS g3 1 v4 1 v2.length, hS false 2 0 1 (([([(0 : Int)] : List Int), ([(1 : Int)] : List Int), ([(2 : Int)] : List Int)] : List (List Int)).length)]]⟩]) (S' := [some ⟨0, 2, 43, [[.nil, .nil]]⟩, bE g3 v4 1 3 (v2.map cI), bE false 0 1 23 (nrs 5 (fun i => (false, i, 0)) 1 ([([(0 : Int)] : List Int), ([(1 : Int)] : List Int), ([(2 : Int)] : List Int)] : List (List Int))), some ⟨0, 2, 43, [[hS g3 1 v4 1 v2.length, hS false 2 0 1 (([([(0 : Int)] : List Int), ([(1 : Int)] : List Int), ([(2 : Int)] : List Int)] : List (List Int)).length)]]⟩]) (K := [bE false 0 1 3 (([(0 : Int)] : List Int).map cI), bE false 0 1 3 (([(1 : Int)] : List Int).map cI), bE false 0 1 3 (([(2 : Int)] : List Int).map cI)]) (x := some ⟨0, 3, 127, [[I (0 : Int), I (0 : Int), I (0 : Int)]]⟩) (x' := some ⟨0, 3, 127, [[I (0 : Int), I (0 : Int), I (0 : Int)]]⟩) rfl rfl rfl (.some (.rowL (.cons .nil (.cons .nil .nil))) (.bE (fun _ => rfl) (.nest ((NN.lit (w := 1) (ty := 3) (f := cI) ([([(0 : Int)] : List Int), ([(1 : Int)] : List Int), ([(2 : Int)] : List Int)] : List (List Int)) (fun _ => rfl)).renK rfl) (.some (.rowL (.cons (ren_hSg (Rot.low rfl)) (.cons (ren_hSg (Rot.low rfl)) .nil))) .nil)))) (NN.lit (w := 1) (ty := 3) (f := cI) ([([(0 : Int)] : List Int), ([(1 : Int)] : List Int), ([(2 : Int)] : List Int)] : List (List Int)) (fun _ => rfl)).kf (.some (.rowL (.cons (ren_isF 9 _ rfl) (.cons (ren_isF 9 _ rfl) (.cons (ren_isF 9 _ rfl) .nil)))) .nil)) (renE_cons (a0 := .hp ([bE false 0 1 3 (([(0 : Int)] : List Int).map cI), bE false 0 1 3 (([(1 : Int)] : List Int).map cI), bE false 0 1 3 (([(2 : Int)] : List Int).map cI)].length + 4) 0 3 0 0) rfl (.hp Rot.new) (renE_F rfl rfl (renE_cons (a0 := .hp 3 0 2 0 0) rfl (.hp (Rot.low rfl)) (renE_cons (a0 := .hp 0 0 2 0 0) rfl (.hp (Rot.low rfl)) (renE_F rfl rfl (renE_F rfl rfl renE_nil)))))) ?_
 refine TO.nil ?_
 obtain ⟨s7, h, ks7⟩ := bindL h
 refine T.joinF (G := (Bool × Nat) × (NG × AH × Nat)) (fun gh => (gh.1.1 = true → s7.1 = []) ∧ NN gh.2.2.1 gh.2.1 1 3 cI s7.2.1) (fun gh => [(5, .hp 3 0 2 0 0), (4, .hp 0 0 2 0 0)]) (fun gh => (some ⟨0, 2, 43, [[.nil, .nil]]⟩ :: bE gh.1.1 gh.1.2 1 3 (s7.1.map cI) :: bE false gh.2.2.2 1 23 (nrs 5 gh.2.1 1 s7.2.1) :: some ⟨0, 2, 43, [[hS gh.1.1 1 gh.1.2 1 s7.1.length, hS false 2 gh.2.2.2 1 s7.2.1.length]]⟩ :: some ⟨0, 3, 127, [[I s7.2.2.1, I s7.2.2.2.1, I s7.2.2.2.2]]⟩ :: gh.2.2.1)) (fun gh hg => ?_) ?_
 ·clear h
  have h := ks7
  clear ks7
  obtain ⟨⟨b77, u76⟩, ⟨y80, kk81, u79⟩⟩ := gh
  obtain ⟨n78, hN82⟩ := hg
  refine T.seq ?_
  refine T.region ?_
  refine oA (EvA.loadhp (.agg [hS b77 1 u76 1 s7.1.length, hS false 2 u79 1 s7.2.1.length]) ty43 rfl rfl rfl rfl rfl rfl) ?_
  refine oV (EvA.st (cs := [hS b77 1 u76 1 s7.1.length, hS false 2 u79 1 s7.2.1.length]) ⟨0, 2, 43, [[hS b77 1 u76 1 s7.1.length, hS false 2 u79 1 s7.2.1.length]]⟩ ty43 rfl (by generalize b77 = gq0; cases gq0 <;> rfl) rfl rfl rfl rfl rfl rfl rfl) ?_
  refine TO.nil ?_
  refine T.ret ?_
  obtain rfl := osi h
  repeat (first|refine retS ?_|refine retB ?_)
  exact Fin.ret (vs := [.agg [hS b77 1 u76 1 s7.1.length, hS false 2 u79 1 s7.2.1.length]]) (.cons (.cell (.agg [hS b77 1 u76 1 s7.1.length, hS false 2 u79 1 s7.2.1.length]) ty43 rfl rfl rfl rfl rfl rfl) .nil) ⟨1, b77, u76, 2, u79, y80, kk81, [some ⟨0, 2, 43, [[hS b77 1 u76 1 s7.1.length, hS false 2 u79 1 s7.2.1.length]]⟩, bE b77 u76 1 3 (s7.1.map cI), bE false u79 1 23 (nrs 5 y80 1 s7.2.1), some ⟨0, 2, 43, [[hS b77 1 u76 1 s7.1.length, hS false 2 u79 1 s7.2.1.length]]⟩, some ⟨0, 3, 127, [[I s7.2.2.1, I s7.2.2.2.1, I s7.2.2.2.2]]⟩], rfl, rfl, n78, rfl, rfl, hN82, by decide⟩
 ·clear ks7
  refine T.seq ?_
  refine T.region ?_
  refine oN (EvN.mv (eL cI schedule) rfl) ?_
  refine oN (EvN.lenL sl23 rfl) ?_
  refine oN (EvN.mv (I (0 : Int)) rfl) ?_
  refine TO.nil ?_
  refine T.block ?_
  refine T.loop (S := (List Int) × (List (List Int)) × Int × Int × Int × Int) (G := (Bool × Nat) × (NG × AH × Nat)) (F_impl_execOf_L25 p schedule v6) (fun s24 gh => (gh.1.1 = true → s24.1 = []) ∧ NN gh.2.2.1 gh.2.1 1 3 cI s24.2.1) (fun s24 gh => [(27, I s24.2.2.2.2.2), (26, I (schedule.length : Int)), (25, eL cI schedule), (7, .hp 4 0 3 0 0), (6, eL (cL cI) v6), (5, .hp 3 0 2 0 0), (4, .hp 0 0 2 0 0), (0, eL (cL ZIn.c) p)]) (fun s24 gh => (some ⟨0, 2, 43, [[.nil, .nil]]⟩ :: bE gh.1.1 gh.1.2 1 3 (s24.1.map cI) :: bE false gh.2.2.2 1 23 (nrs 5 gh.2.1 1 s24.2.1) :: some ⟨0, 2, 43, [[hS gh.1.1 1 gh.1.2 1 s24.1.length, hS false 2 gh.2.2.2 1 s24.2.1.length]]⟩ :: some ⟨0, 3, 127, [[I s24.2.2.1, I s24.2.2.2.1, I s24.2.2.2.2.1]]⟩ :: gh.2.2.1)) (s0 := (v2, ([([(0 : Int)] : List Int), ([(1 : Int)] : List Int), ([(2 : Int)] : List Int)] : List (List Int)), (0 : Int), (0 : Int), (0 : Int), (0 : Int))) ((g3, v4), ((fun i => (false, i, 0)), [bE false 0 1 3 (([(0 : Int)] : List Int).map cI), bE false 0 1 3 (([(1 : Int)] : List Int).map cI), bE false 0 1 3 (([(2 : Int)] : List Int).map cI)], 0)) h ⟨(fun x => List.eq_nil_of_length_eq_zero (n5 x)), (NN.lit (w := 1) (ty := 3) (f := cI) ([([(0 : Int)] : List Int), ([(1 : Int)] : List Int), ([(2 : Int)] : List Int)] : List (List Int)) (fun _ => rfl))⟩ (cutW rfl (wkC rfl (wkC rfl (wkC rfl (wkC rfl (wkC rfl (wkC rfl (wkC rfl (wkC rfl wkN))))))))) (fun s24 gh ws24 h hg => ?_)
  obtain ⟨⟨b27, u26⟩, ⟨y30, kk31, u29⟩⟩ := gh
  obtain ⟨n28, hN32⟩ := hg
  refine T.seq ?_
  refine T.region ?_
  refine oN (EvN.ilt rfl rfl) ?_
  refine TO.nil ?_
  refine T.seq ?_
  refine T.cond rfl (fun q33 => ?_) (fun q33 => ?_)
  ·replace h := condT q33 h
   refine T.skip ?_
   obtain ⟨s34, h, ks34⟩ := bindL h
   refine T.joinF (G := (Bool × Nat) × (NG × AH × Nat)) (fun gh => (gh.1.1 = true → s34.1 = []) ∧ NN gh.2.2.1 gh.2.1 1 3 cI s34.2) (fun gh => [(27, I s24.2.2.2.2.2), (26, I (schedule.length : Int)), (25, eL cI schedule), (7, .hp 4 0 3 0 0), (6, eL (cL cI) v6), (5, .hp 3 0 2 0 0), (4, .hp 0 0 2 0 0), (0, eL (cL ZIn.c) p)]) (fun gh => (some ⟨0, 2, 43, [[.nil, .nil]]⟩ :: bE gh.1.1 gh.1.2 1 3 (s34.1.map cI) :: bE false gh.2.2.2 1 23 (nrs 5 gh.2.1 1 s34.2) :: some ⟨0, 2, 43, [[hS gh.1.1 1 gh.1.2 1 s34.1.length, hS false 2 gh.2.2.2 1 s34.2.length]]⟩ :: some ⟨0, 3, 127, [[I ((X_3_int.set (⟨s24.2.2.1, s24.2.2.2.1, s24.2.2.2.2.1⟩ : X_3_int) (schedule.getD s24.2.2.2.2.2.toNat default) ((X_3_int.get (⟨s24.2.2.1, s24.2.2.2.1, s24.2.2.2.2.1⟩ : X_3_int) (schedule.getD s24.2.2.2.2.2.toNat default)) + (1 : Int))).x0), I ((X_3_int.set (⟨s24.2.2.1, s24.2.2.2.1, s24.2.2.2.2.1⟩ : X_3_int) (schedule.getD s24.2.2.2.2.2.toNat default) ((X_3_int.get (⟨s24.2.2.1, s24.2.2.2.1, s24.2.2.2.2.1⟩ : X_3_int) (schedule.getD s24.2.2.2.2.2.toNat default)) + (1 : Int))).x1), I ((X_3_int.set (⟨s24.2.2.1, s24.2.2.2.1, s24.2.2.2.2.1⟩ : X_3_int) (schedule.getD s24.2.2.2.2.2.toNat default) ((X_3_int.get (⟨s24.2.2.1, s24.2.2.2.1, s24.2.2.2.2.1⟩ : X_3_int) (schedule.getD s24.2.2.2.2.2.toNat default)) + (1 : Int))).x2)]]⟩ :: gh.2.2.1)) (fun gh hg => ?_) ?_
   ·clear h
    have h := ks34
    clear ks34
    obtain ⟨⟨b69, u68⟩, ⟨y72, kk73, u71⟩⟩ := gh
    obtain ⟨n70, hN74⟩ := hg
    refine T.region ?_
    obtain ⟨g75, h⟩ := gdW h
    refine oN (EvN.add rfl rfl g75) ?_
    refine oN (EvN.mv (I (s24.2.2.2.2.2 + (1 : Int))) rfl) ?_
    refine TO.nil ?_
    obtain rfl := osi h
    exact ⟨(s34.1, s34.2, (X_3_int.set (⟨s24.2.2.1, s24.2.2.2.1, s24.2.2.2.2.1⟩ : X_3_int) (schedule.getD s24.2.2.2.2.2.toNat default) ((X_3_int.get (⟨s24.2.2.1, s24.2.2.2.1, s24.2.2.2.2.1⟩ : X_3_int) (schedule.getD s24.2.2.2.2.2.toNat default)) + (1 : Int))).x0, (X_3_int.set (⟨s24.2.2.1, s24.2.2.2.1, s24.2.2.2.2.1⟩ : X_3_int) (schedule.getD s24.2.2.2.2.2.toNat default) ((X_3_int.get (⟨s24.2.2.1, s24.2.2.2.1, s24.2.2.2.2.1⟩ : X_3_int) (schedule.getD s24.2.2.2.2.2.toNat default)) + (1 : Int))).x1, (X_3_int.set (⟨s24.2.2.1, s24.2.2.2.1, s24.2.2.2.2.1⟩ : X_3_int) (schedule.getD s24.2.2.2.2.2.toNat default) ((X_3_int.get (⟨s24.2.2.1, s24.2.2.2.1, s24.2.2.2.2.1⟩ : X_3_int) (schedule.getD s24.2.2.2.2.2.toNat default)) + (1 : Int))).x2, (s24.2.2.2.2.2 + (1 : Int))), ((b69, u68), (y72, kk73, u71)), rfl, ⟨n70, hN74⟩, cutW rfl (wkC rfl (wkC rfl (wkC rfl (wkC rfl (wkC rfl (wkC rfl (wkC rfl (wkC rfl wkN))))))))⟩
   ·clear ks34
    refine T.block ?_
    refine T.seq ?_
    refine T.region ?_
    obtain ⟨g35, h⟩ := gdD h
    refine oN (EvN.ixL sl23 rfl rfl g35 (fun _ => rfl)) ?_
    refine oN (EvN.loadfp (I (schedule.getD s24.2.2.2.2.2.toNat default)) ty3 rfl rfl) ?_
    refine oN (EvN.asg (I (schedule.getD s24.2.2.2.2.2.toNat default)) rfl) ?_
    refine TO.nil ?_
    refine T.seq ?_
    refine T.reserve ?_
    refine T.reid (e0 := envOf [(9, I (schedule.getD s24.2.2.2.2.2.toNat default)), (30, I (schedule.getD s24.2.2.2.2.2.toNat default)), (29, .fp (cI (schedule.getD s24.2.2.2.2.2.toNat default)) 0), (28, Bo (decide (s24.2.2.2.2.2 < (schedule.length : Int)))), (27, I s24.2.2.2.2.2), (26, I (schedule.length : Int)), (25, eL cI schedule), (7, .hp 4 0 3 0 0), (6, eL (cL cI) v6), (5, .hp 3 0 2 0 0), (4, .hp 0 0 2 0 0), (0, eL (cL ZIn.c) p)]) (Reid.rot (m := 5) (S := [some ⟨0, 2, 43, [[.nil, .nil]]⟩, bE b27 u26 1 3 (s24.1.map cI), bE false u29 1 23 (nrs 5 y30 1 s24.2.1), some ⟨0, 2, 43, [[hS b27 1 u26 1 s24.1.length, hS false 2 u29 1 s24.2.1.length]]⟩, some ⟨0, 3, 127, [[I s24.2.2.1, I s24.2.2.2.1, I s24.2.2.2.2.1]]⟩]) (S' := [some ⟨0, 2, 43, [[.nil, .nil]]⟩, bE b27 u26 1 3 (s24.1.map cI), bE false u29 1 23 (nrs 6 y30 1 s24.2.1), some ⟨0, 2, 43, [[hS b27 1 u26 1 s24.1.length, hS false 2 u29 1 s24.2.1.length]]⟩, some ⟨0, 3, 127, [[I s24.2.2.1, I s24.2.2.2.1, I s24.2.2.2.2.1]]⟩]) (K := kk31) (x := none) (x' := none) rfl rfl rfl (.some (.rowL (.cons .nil (.cons .nil .nil))) (.bE (fun _ => rfl) (.nest (hN32.renK rfl) (.some (.rowL (.cons (ren_hSg (Rot.low rfl)) (.cons (ren_hSg (Rot.low rfl)) .nil))) (.some (.rowL (.cons (ren_isF 9 _ rfl) (.cons (ren_isF 9 _ rfl) (.cons (ren_isF 9 _ rfl) .nil)))) .nil))))) hN32.kf (.none .nil)) (renE_F rfl rfl (renE_F rfl rfl (renE_F rfl rfl (renE_F rfl rfl (renE_F rfl rfl (renE_F rfl rfl (renE_F rfl rfl (renE_cons (a0 := .hp 4 0 3 0 0) rfl (.hp (Rot.low rfl)) (renE_F rfl rfl (renE_cons (a0 := .hp 3 0 2 0 0) rfl (.hp (Rot.low rfl)) (renE_cons (a0 := .hp 0 0 2 0 0) rfl (.hp (Rot.low rfl)) (renE_F rfl rfl renE_nil)))))))))))) ?_
    refine T.drawF (fun i => [([], false), ([], false), ([], false), ([], false), ([], false), ([], false), ([4], false), ([], false), ([], false), ([], false), ([], false), ([], false), ([], false), ([], false), ([], false), ([4], false), ([], false), ([], false), ([5], true), ([5], true), ([], false)].getD i ([], false)) (by kernel_rfl) (by kernel_rfl) ?_
    refine fN rfl (EvN.mv (eL (cL ZIn.c) p) rfl) ?_
    refine fN rfl (EvN.mv (I (schedule.getD s24.2.2.2.2.2.toNat default)) rfl) ?_
    obtain ⟨g36, h⟩ := gdD h
    refine fN rfl (EvN.ixL sl27 rfl rfl g36 (fun _ => rfl)) ?_
    refine fN rfl (EvN.loadfp (eL ZIn.c (p.getD (schedule.getD s24.2.2.2.2.2.toNat default).toNat default)) ty57 rfl rfl) ?_
    refine fN rfl (EvN.mv (I (schedule.getD s24.2.2.2.2.2.toNat default)) rfl) ?_
    obtain ⟨g37, h⟩ := gdD h
    refine fN rfl (EvN.ixahp Try.underlying127 ty3 rfl rfl g37) ?_
    refine fR [4] rfl (fun G hG => EvA.loadhp (I (X_3_int.get (⟨s24.2.2.1, s24.2.2.2.1, s24.2.2.2.2.1⟩ : X_3_int) (schedule.getD s24.2.2.2.2.2.toNat default))) ty3 rfl (hG.a0 rfl) rfl rfl rfl (sel3 (P := fun (z0 : Int) => partV false 1 [I s24.2.2.1, I s24.2.2.2.1, I s24.2.2.2.2.1] (0 + z0.toNat * 1) = some (I (X_3_int.get (⟨s24.2.2.1, s24.2.2.2.1, s24.2.2.2.2.1⟩ : X_3_int) z0))) g37 rfl rfl rfl)) ?_
    obtain ⟨g38, h⟩ := gdD h
    refine fN rfl (EvN.ixL sl57 rfl rfl g38 (fun _ => rfl)) ?_
    refine fN rfl (EvN.loadfp (.agg (ZIn.c ((p.getD (schedule.getD s24.2.2.2.2.2.toNat default).toNat default).getD (X_3_int.get (⟨s24.2.2.1, s24.2.2.2.1, s24.2.2.2.2.1⟩ : X_3_int) (schedule.getD s24.2.2.2.2.2.toNat default)).toNat default))) ty56 rfl rfl) ?_
    refine fN rfl (EvN.mv (eL (cL cI) v6) rfl) ?_
    refine fN rfl (EvN.mv (I (schedule.getD s24.2.2.2.2.2.toNat default)) rfl) ?_
    obtain ⟨g39, h⟩ := gdD h
    refine fN rfl (EvN.ixL sl37 rfl rfl g39 (fun _ => rfl)) ?_
    refine fN rfl (EvN.loadfp (eL cI (v6.getD (schedule.getD s24.2.2.2.2.2.toNat default).toNat default)) ty23 rfl rfl) ?_
    refine fN rfl (EvN.mv (I (schedule.getD s24.2.2.2.2.2.toNat default)) rfl) ?_
    refine fN rfl (EvN.ixahp Try.underlying127 ty3 rfl rfl g37) ?_
    refine fR [4] rfl (fun G hG => EvA.loadhp (I (X_3_int.get (⟨s24.2.2.1, s24.2.2.2.1, s24.2.2.2.2.1⟩ : X_3_int) (schedule.getD s24.2.2.2.2.2.toNat default))) ty3 rfl (hG.a0 rfl) rfl rfl rfl (sel3 (P := fun (z0 : Int) => partV false 1 [I s24.2.2.1, I s24.2.2.2.1, I s24.2.2.2.2.1] (0 + z0.toNat * 1) = some (I (X_3_int.get (⟨s24.2.2.1, s24.2.2.2.1, s24.2.2.2.2.1⟩ : X_3_int) z0))) g37 rfl rfl rfl)) ?_
    obtain ⟨g40, h⟩ := gdD h
    refine fN rfl (EvN.ixL sl23 rfl rfl g40 (fun _ => rfl)) ?_
    refine fN rfl (EvN.loadfp (I ((v6.getD (schedule.getD s24.2.2.2.2.2.toNat default).toNat default).getD (X_3_int.get (⟨s24.2.2.1, s24.2.2.2.1, s24.2.2.2.2.1⟩ : X_3_int) (schedule.getD s24.2.2.2.2.2.toNat default)).toNat default)) ty3 rfl rfl) ?_
    refine fW 5 [] rfl rfl (fun G hG => EvA.alR 5 zs56 rfl rfl (hG.a0 rfl)) ?_
    refine fV 5 [] rfl rfl (fun G hG => EvA.st (cs := [I (((p.getD (schedule.getD s24.2.2.2.2.2.toNat default).toNat default).getD (X_3_int.get (⟨s24.2.2.1, s24.2.2.2.1, s24.2.2.2.2.1⟩ : X_3_int) (schedule.getD s24.2.2.2.2.2.toNat default)).toNat default).Op), I (((p.getD (schedule.getD s24.2.2.2.2.2.toNat default).toNat default).getD (X_3_int.get (⟨s24.2.2.1, s24.2.2.2.1, s24.2.2.2.2.1⟩ : X_3_int) (schedule.getD s24.2.2.2.2.2.toNat default)).toNat default).Loc), I (((p.getD (schedule.getD s24.2.2.2.2.2.toNat default).toNat default).getD (X_3_int.get (⟨s24.2.2.1, s24.2.2.2.1, s24.2.2.2.2.1⟩ : X_3_int) (schedule.getD s24.2.2.2.2.2.toNat default)).toNat default).Reg), I (((p.getD (schedule.getD s24.2.2.2.2.2.toNat default).toNat default).getD (X_3_int.get (⟨s24.2.2.1, s24.2.2.2.1, s24.2.2.2.2.1⟩ : X_3_int) (schedule.getD s24.2.2.2.2.2.toNat default)).toNat default).Val)]) ⟨0, 4, 56, [[I (((p.getD (schedule.getD s24.2.2.2.2.2.toNat default).toNat default).getD (X_3_int.get (⟨s24.2.2.1, s24.2.2.2.1, s24.2.2.2.2.1⟩ : X_3_int) (schedule.getD s24.2.2.2.2.2.toNat default)).toNat default).Op), I (((p.getD (schedule.getD s24.2.2.2.2.2.toNat default).toNat default).getD (X_3_int.get (⟨s24.2.2.1, s24.2.2.2.1, s24.2.2.2.2.1⟩ : X_3_int) (schedule.getD s24.2.2.2.2.2.toNat default)).toNat default).Loc), I (((p.getD (schedule.getD s24.2.2.2.2.2.toNat default).toNat default).getD (X_3_int.get (⟨s24.2.2.1, s24.2.2.2.1, s24.2.2.2.2.1⟩ : X_3_int) (schedule.getD s24.2.2.2.2.2.toNat default)).toNat default).Reg), I (((p.getD (schedule.getD s24.2.2.2.2.2.toNat default).toNat default).getD (X_3_int.get (⟨s24.2.2.1, s24.2.2.2.1, s24.2.2.2.2.1⟩ : X_3_int) (schedule.getD s24.2.2.2.2.2.toNat default)).toNat default).Val)]]⟩ ty56 rfl rfl (hG.a0 rfl) rfl rfl rfl rfl rfl rfl) ?_
    refine fN rfl (EvN.asg (I ((v6.getD (schedule.getD s24.2.2.2.2.2.toNat default).toNat default).getD (X_3_int.get (⟨s24.2.2.1, s24.2.2.2.1, s24.2.2.2.2.1⟩ : X_3_int) (schedule.getD s24.2.2.2.2.2.toNat default)).toNat default)) rfl) ?_
    refine TF.nil ?_
    refine T.seq ?_
    refine T.clean (H0 := (some ⟨0, 2, 43, [[.nil, .nil]]⟩ :: bE b27 u26 1 3 (s24.1.map cI) :: bE false u29 1 23 (nrs 6 y30 1 s24.2.1) :: some ⟨0, 2, 43, [[hS b27 1 u26 1 s24.1.length, hS false 2 u29 1 s24.2.1.length]]⟩ :: some ⟨0, 3, 127, [[I s24.2.2.1, I s24.2.2.2.1, I s24.2.2.2.2.1]]⟩ :: some ⟨0, 4, 56, [[I (((p.getD (schedule.getD s24.2.2.2.2.2.toNat default).toNat default).getD (X_3_int.get (⟨s24.2.2.1, s24.2.2.2.1, s24.2.2.2.2.1⟩ : X_3_int) (schedule.getD s24.2.2.2.2.2.toNat default)).toNat default).Op), I (((p.getD (schedule.getD s24.2.2.2.2.2.toNat default).toNat default).getD (X_3_int.get (⟨s24.2.2.1, s24.2.2.2.1, s24.2.2.2.2.1⟩ : X_3_int) (schedule.getD s24.2.2.2.2.2.toNat default)).toNat default).Loc), I (((p.getD (schedule.getD s24.2.2.2.2.2.toNat default).toNat default).getD (X_3_int.get (⟨s24.2.2.1, s24.2.2.2.1, s24.2.2.2.2.1⟩ : X_3_int) (schedule.getD s24.2.2.2.2.2.toNat default)).toNat default).Reg), I (((p.getD (schedule.getD s24.2.2.2.2.2.toNat default).toNat default).getD (X_3_int.get (⟨s24.2.2.1, s24.2.2.2.1, s24.2.2.2.2.1⟩ : X_3_int) (schedule.getD s24.2.2.2.2.2.toNat default)).toNat default).Val)]]⟩ :: kk31)) (e0 := envOf [(11, I ((v6.getD (schedule.getD s24.2.2.2.2.2.toNat default).toNat default).getD (X_3_int.get (⟨s24.2.2.1, s24.2.2.2.1, s24.2.2.2.2.1⟩ : X_3_int) (schedule.getD s24.2.2.2.2.2.toNat default)).toNat default)), (10, .hp 5 0 4 0 0), (9, I (schedule.getD s24.2.2.2.2.2.toNat default)), (27, I s24.2.2.2.2.2), (26, I (schedule.length : Int)), (25, eL cI schedule), (7, .hp 4 0 3 0 0), (6, eL (cL cI) v6), (5, .hp 3 0 2 0 0), (4, .hp 0 0 2 0 0), (0, eL (cL ZIn.c) p)]) rfl (wkC rfl (wkC rfl (wkC rfl (wkC rfl (wkC rfl (wkC rfl (wkC rfl (wkC rfl (wkC rfl (wkC rfl (wkC rfl wkN))))))))))) ?_
    refine T.region ?_
    refine oN (EvN.mv (I (schedule.getD s24.2.2.2.2.2.toNat default)) rfl) ?_
    refine oN (EvN.ixahp Try.underlying127 ty3 rfl rfl g37) ?_
    refine oA (EvA.loadhp (I (X_3_int.get (⟨s24.2.2.1, s24.2.2.2.1, s24.2.2.2.2.1⟩ : X_3_int) (schedule.getD s24.2.2.2.2.2.toNat default))) ty3 rfl rfl rfl rfl rfl (sel3 (P := fun (z0 : Int) => partV false 1 [I s24.2.2.1, I s24.2.2.2.1, I s24.2.2.2.2.1] (0 + z0.toNat * 1) = some (I (X_3_int.get (⟨s24.2.2.1, s24.2.2.2.1, s24.2.2.2.2.1⟩ : X_3_int) z0))) g37 rfl rfl rfl)) ?_
    obtain ⟨g41, h⟩ := gdW h
    refine oN (EvN.add rfl rfl g41) ?_
    refine oN (EvN.ixahp Try.underlying127 ty3 rfl rfl g37) ?_
    refine oV (EvA.st (cs := [I ((X_3_int.get (⟨s24.2.2.1, s24.2.2.2.1, s24.2.2.2.2.1⟩ : X_3_int) (schedule.getD s24.2.2.2.2.2.toNat default)) + (1 : Int))]) ⟨0, 3, 127, [[I ((X_3_int.set (⟨s24.2.2.1, s24.2.2.2.1, s24.2.2.2.2.1⟩ : X_3_int) (schedule.getD s24.2.2.2.2.2.toNat default) ((X_3_int.get (⟨s24.2.2.1, s24.2.2.2.1, s24.2.2.2.2.1⟩ : X_3_int) (schedule.getD s24.2.2.2.2.2.toNat default)) + (1 : Int))).x0), I ((X_3_int.set (⟨s24.2.2.1, s24.2.2.2.1, s24.2.2.2.2.1⟩ : X_3_int) (schedule.getD s24.2.2.2.2.2.toNat default) ((X_3_int.get (⟨s24.2.2.1, s24.2.2.2.1, s24.2.2.2.2.1⟩ : X_3_int) (schedule.getD s24.2.2.2.2.2.toNat default)) + (1 : Int))).x1), I ((X_3_int.set (⟨s24.2.2.1, s24.2.2.2.1, s24.2.2.2.2.1⟩ : X_3_int) (schedule.getD s24.2.2.2.2.2.toNat default) ((X_3_int.get (⟨s24.2.2.1, s24.2.2.2.1, s24.2.2.2.2.1⟩ : X_3_int) (schedule.getD s24.2.2.2.2.2.toNat default)) + (1 : Int))).x2)]]⟩ ty3 rfl rfl rfl rfl rfl rfl rfl (sel3 (P := fun (z0 : Int) => Nat.ble ((0 + z0.toNat * 1) + 1) 3 = true) g37 rfl rfl rfl) (sel3 (P := fun (z0 : Int) => (ABlk.mk 0 3 127 [splice [I s24.2.2.1, I s24.2.2.2.1, I s24.2.2.2.2.1] (0 + z0.toNat * 1) [I ((X_3_int.get (⟨s24.2.2.1, s24.2.2.2.1, s24.2.2.2.2.1⟩ : X_3_int) (schedule.getD s24.2.2.2.2.2.toNat default)) + (1 : Int))]]) = ABlk.mk 0 3 127 [[I ((X_3_int.set (⟨s24.2.2.1, s24.2.2.2.1, s24.2.2.2.2.1⟩ : X_3_int) z0 ((X_3_int.get (⟨s24.2.2.1, s24.2.2.2.1, s24.2.2.2.2.1⟩ : X_3_int) (schedule.getD s24.2.2.2.2.2.toNat default)) + (1 : Int))).x0), I ((X_3_int.set (⟨s24.2.2.1, s24.2.2.2.1, s24.2.2.2.2.1⟩ : X_3_int) z0 ((X_3_int.get (⟨s24.2.2.1, s24.2.2.2.1, s24.2.2.2.2.1⟩ : X_3_int) (schedule.getD s24.2.2.2.2.2.toNat default)) + (1 : Int))).x1), I ((X_3_int.set (⟨s24.2.2.1, s24.2.2.2.1, s24.2.2.2.2.1⟩ : X_3_int) z0 ((X_3_int.get (⟨s24.2.2.1, s24.2.2.2.1, s24.2.2.2.2.1⟩ : X_3_int) (schedule.getD s24.2.2.2.2.2.toNat default)) + (1 : Int))).x2)]]) g37 rfl rfl rfl)) ?_
    refine TO.nil ?_
    refine T.seq ?_
    refine T.seq ?_
    refine T.clean (H0 := (some ⟨0, 2, 43, [[.nil, .nil]]⟩ :: bE b27 u26 1 3 (s24.1.map cI) :: bE false u29 1 23 (nrs 6 y30 1 s24.2.1) :: some ⟨0, 2, 43, [[hS b27 1 u26 1 s24.1.length, hS false 2 u29 1 s24.2.1.length]]⟩ :: some ⟨0, 3, 127, [[I ((X_3_int.set (⟨s24.2.2.1, s24.2.2.2.1, s24.2.2.2.2.1⟩ : X_3_int) (schedule.getD s24.2.2.2.2.2.toNat default) ((X_3_int.get (⟨s24.2.2.1, s24.2.2.2.1, s24.2.2.2.2.1⟩ : X_3_int) (schedule.getD s24.2.2.2.2.2.toNat default)) + (1 : Int))).x0), I ((X_3_int.set (⟨s24.2.2.1, s24.2.2.2.1, s24.2.2.2.2.1⟩ : X_3_int) (schedule.getD s24.2.2.2.2.2.toNat default) ((X_3_int.get (⟨s24.2.2.1, s24.2.2.2.1, s24.2.2.2.2.1⟩ : X_3_int) (schedule.getD s24.2.2.2.2.2.toNat default)) + (1 : Int))).x1), I ((X_3_int.set (⟨s24.2.2.1, s24.2.2.2.1, s24.2.2.2.2.1⟩ : X_3_int) (schedule.getD s24.2.2.2.2.2.toNat default) ((X_3_int.get (⟨s24.2.2.1, s24.2.2.2.1, s24.2.2.2.2.1⟩ : X_3_int) (schedule.getD s24.2.2.2.2.2.toNat default)) + (1 : Int))).x2)]]⟩ :: some ⟨0, 4, 56, [[I (((p.getD (schedule.getD s24.2.2.2.2.2.toNat default).toNat default).getD (X_3_int.get (⟨s24.2.2.1, s24.2.2.2.1, s24.2.2.2.2.1⟩ : X_3_int) (schedule.getD s24.2.2.2.2.2.toNat default)).toNat default).Op), I (((p.getD (schedule.getD s24.2.2.2.2.2.toNat default).toNat default).getD (X_3_int.get (⟨s24.2.2.1, s24.2.2.2.1, s24.2.2.2.2.1⟩ : X_3_int) (schedule.getD s24.2.2.2.2.2.toNat default)).toNat default).Loc), I (((p.getD (schedule.getD s24.2.2.2.2.2.toNat default).toNat default).getD (X_3_int.get (⟨s24.2.2.1, s24.2.2.2.1, s24.2.2.2.2.1⟩ : X_3_int) (schedule.getD s24.2.2.2.2.2.toNat default)).toNat default).Reg), I (((p.getD (schedule.getD s24.2.2.2.2.2.toNat default).toNat default).getD (X_3_int.get (⟨s24.2.2.1, s24.2.2.2.1, s24.2.2.2.2.1⟩ : X_3_int) (schedule.getD s24.2.2.2.2.2.toNat default)).toNat default).Val)]]⟩ :: kk31)) (e0 := envOf [(11, I ((v6.getD (schedule.getD s24.2.2.2.2.2.toNat default).toNat default).getD (X_3_int.get (⟨s24.2.2.1, s24.2.2.2.1, s24.2.2.2.2.1⟩ : X_3_int) (schedule.getD s24.2.2.2.2.2.toNat default)).toNat default)), (10, .hp 5 0 4 0 0), (27, I s24.2.2.2.2.2), (26, I (schedule.length : Int)), (25, eL cI schedule), (7, .hp 4 0 3 0 0), (6, eL (cL cI) v6), (5, .hp 3 0 2 0 0), (4, .hp 0 0 2 0 0), (0, eL (cL ZIn.c) p)]) rfl (wkC rfl (wkC rfl (wkC rfl (wkC rfl (wkC rfl (wkC rfl (wkC rfl (wkC rfl (wkC rfl (wkC rfl wkN)))))))))) ?_
    refine T.region ?_
    refine oN (EvN.fahp Try.underlying56 rfl (by kernel_rfl) rfl) ?_
    refine oA (EvA.loadhp (I (((p.getD (schedule.getD s24.2.2.2.2.2.toNat default).toNat default).getD (X_3_int.get (⟨s24.2.2.1, s24.2.2.2.1, s24.2.2.2.2.1⟩ : X_3_int) (schedule.getD s24.2.2.2.2.2.toNat default)).toNat default).Op)) ty3 rfl rfl rfl rfl rfl rfl) ?_
    refine oN (EvN.ieq rfl rfl) ?_
    refine TO.nil ?_
    refine T.cond rfl (fun q42 => ?_) (fun q42 => ?_)
    ·replace h := condT q42 h
     refine T.exit ?_
     obtain rfl := osi h
     exact ⟨((b27, u26), ((up 1 y30), (some ⟨0, 4, 56, [[I (((p.getD (schedule.getD s24.2.2.2.2.2.toNat default).toNat default).getD (X_3_int.get (⟨s24.2.2.1, s24.2.2.2.1, s24.2.2.2.2.1⟩ : X_3_int) (schedule.getD s24.2.2.2.2.2.toNat default)).toNat default).Op), I (((p.getD (schedule.getD s24.2.2.2.2.2.toNat default).toNat default).getD (X_3_int.get (⟨s24.2.2.1, s24.2.2.2.1, s24.2.2.2.2.1⟩ : X_3_int) (schedule.getD s24.2.2.2.2.2.toNat default)).toNat default).Loc), I (((p.getD (schedule.getD s24.2.2.2.2.2.toNat default).toNat default).getD (X_3_int.get (⟨s24.2.2.1, s24.2.2.2.1, s24.2.2.2.2.1⟩ : X_3_int) (schedule.getD s24.2.2.2.2.2.toNat default)).toNat default).Reg), I (((p.getD (schedule.getD s24.2.2.2.2.2.toNat default).toNat default).getD (X_3_int.get (⟨s24.2.2.1, s24.2.2.2.1, s24.2.2.2.2.1⟩ : X_3_int) (schedule.getD s24.2.2.2.2.2.toNat default)).toNat default).Val)]]⟩ :: kk31), u29)), ⟨n28, (hN32.push (fun _ hb => osi hb ▸ rowsF_row rfl))⟩, cutW rfl (wkC rfl (wkC rfl (wkC rfl (wkC rfl (wkC rfl (wkC rfl (wkC rfl (wkC rfl wkN))))))))⟩
    ·replace h := condF q42 h
     refine T.skip ?_
     refine T.seq ?_
     refine T.region ?_
     refine oN (EvN.fahp Try.underlying43 rfl (by kernel_rfl) rfl) ?_
     refine oA (EvA.loadhp (hS false 2 u29 1 s24.2.1.length) ty37 rfl rfl rfl rfl rfl rfl) ?_
     refine oN (EvN.fahp Try.underlying56 rfl (by kernel_rfl) rfl) ?_
     refine oA (EvA.loadhp (I (((p.getD (schedule.getD s24.2.2.2.2.2.toNat default).toNat default).getD (X_3_int.get (⟨s24.2.2.1, s24.2.2.2.1, s24.2.2.2.2.1⟩ : X_3_int) (schedule.getD s24.2.2.2.2.2.toNat default)).toNat default).Loc)) ty3 rfl rfl rfl rfl rfl rfl) ?_
     obtain ⟨g43, h⟩ := gdD h
     refine oN (EvN.ixO (g := false) sl37 rfl rfl nofun g43) ?_
     have n48 := hN32.nil_ (toNat_lt' rfl g43)
     have hX47 := hN32.opened (toNat_lt' rfl g43)
     refine TO.reid (e0 := envOf [(61, .hp 2 u29 1 ((((p.getD (schedule.getD s24.2.2.2.2.2.toNat default).toNat default).getD (X_3_int.get (⟨s24.2.2.1, s24.2.2.2.1, s24.2.2.2.2.1⟩ : X_3_int) (schedule.getD s24.2.2.2.2.2.toNat default)).toNat default).Loc).toNat) 0), (11, I ((v6.getD (schedule.getD s24.2.2.2.2.2.toNat default).toNat default).getD (X_3_int.get (⟨s24.2.2.1, s24.2.2.2.1, s24.2.2.2.2.1⟩ : X_3_int) (schedule.getD s24.2.2.2.2.2.toNat default)).toNat default)), (10, .hp 5 0 4 0 0), (27, I s24.2.2.2.2.2), (26, I (schedule.length : Int)), (25, eL cI schedule), (7, .hp 4 0 3 0 0), (6, eL (cL cI) v6), (5, .hp 3 0 2 0 0), (4, .hp 0 0 2 0 0), (0, eL (cL ZIn.c) p)]) (Reid.open (m := 6) (S := [some ⟨0, 2, 43, [[.nil, .nil]]⟩, bE b27 u26 1 3 (s24.1.map cI), bE false u29 1 23 (nrs 6 y30 1 s24.2.1), some ⟨0, 2, 43, [[hS b27 1 u26 1 s24.1.length, hS false 2 u29 1 s24.2.1.length]]⟩, some ⟨0, 3, 127, [[I ((X_3_int.set (⟨s24.2.2.1, s24.2.2.2.1, s24.2.2.2.2.1⟩ : X_3_int) (schedule.getD s24.2.2.2.2.2.toNat default) ((X_3_int.get (⟨s24.2.2.1, s24.2.2.2.1, s24.2.2.2.2.1⟩ : X_3_int) (schedule.getD s24.2.2.2.2.2.toNat default)) + (1 : Int))).x0), I ((X_3_int.set (⟨s24.2.2.1, s24.2.2.2.1, s24.2.2.2.2.1⟩ : X_3_int) (schedule.getD s24.2.2.2.2.2.toNat default) ((X_3_int.get (⟨s24.2.2.1, s24.2.2.2.1, s24.2.2.2.2.1⟩ : X_3_int) (schedule.getD s24.2.2.2.2.2.toNat default)) + (1 : Int))).x1), I ((X_3_int.set (⟨s24.2.2.1, s24.2.2.2.1, s24.2.2.2.2.1⟩ : X_3_int) (schedule.getD s24.2.2.2.2.2.toNat default) ((X_3_int.get (⟨s24.2.2.1, s24.2.2.2.1, s24.2.2.2.2.1⟩ : X_3_int) (schedule.getD s24.2.2.2.2.2.toNat default)) + (1 : Int))).x2)]]⟩, some ⟨0, 4, 56, [[I (((p.getD (schedule.getD s24.2.2.2.2.2.toNat default).toNat default).getD (X_3_int.get (⟨s24.2.2.1, s24.2.2.2.1, s24.2.2.2.2.1⟩ : X_3_int) (schedule.getD s24.2.2.2.2.2.toNat default)).toNat default).Op), I (((p.getD (schedule.getD s24.2.2.2.2.2.toNat default).toNat default).getD (X_3_int.get (⟨s24.2.2.1, s24.2.2.2.1, s24.2.2.2.2.1⟩ : X_3_int) (schedule.getD s24.2.2.2.2.2.toNat default)).toNat default).Loc), I (((p.getD (schedule.getD s24.2.2.2.2.2.toNat default).toNat default).getD (X_3_int.get (⟨s24.2.2.1, s24.2.2.2.1, s24.2.2.2.2.1⟩ : X_3_int) (schedule.getD s24.2.2.2.2.2.toNat default)).toNat default).Reg), I (((p.getD (schedule.getD s24.2.2.2.2.2.toNat default).toNat default).getD (X_3_int.get (⟨s24.2.2.1, s24.2.2.2.1, s24.2.2.2.2.1⟩ : X_3_int) (schedule.getD s24.2.2.2.2.2.toNat default)).toNat default).Val)]]⟩]) (S' := [some ⟨0, 2, 43, [[.nil, .nil]]⟩, bE b27 u26 1 3 (s24.1.map cI), bE false u29 1 23 (nxs 7 y30 1 s24.2.1 ((((p.getD (schedule.getD s24.2.2.2.2.2.toNat default).toNat default).getD (X_3_int.get (⟨s24.2.2.1, s24.2.2.2.1, s24.2.2.2.2.1⟩ : X_3_int) (schedule.getD s24.2.2.2.2.2.toNat default)).toNat default).Loc).toNat) (y30 ((((p.getD (schedule.getD s24.2.2.2.2.2.toNat default).toNat default).getD (X_3_int.get (⟨s24.2.2.1, s24.2.2.2.1, s24.2.2.2.2.1⟩ : X_3_int) (schedule.getD s24.2.2.2.2.2.toNat default)).toNat default).Loc).toNat)).1 6 ((y30 ((((p.getD (schedule.getD s24.2.2.2.2.2.toNat default).toNat default).getD (X_3_int.get (⟨s24.2.2.1, s24.2.2.2.1, s24.2.2.2.2.1⟩ : X_3_int) (schedule.getD s24.2.2.2.2.2.toNat default)).toNat default).Loc).toNat)).2.2) ((s24.2.1.getD ((((p.getD (schedule.getD s24.2.2.2.2.2.toNat default).toNat default).getD (X_3_int.get (⟨s24.2.2.1, s24.2.2.2.1, s24.2.2.2.2.1⟩ : X_3_int) (schedule.getD s24.2.2.2.2.2.toNat default)).toNat default).Loc).toNat) []).length)), some ⟨0, 2, 43, [[hS b27 1 u26 1 s24.1.length, hS false 2 u29 1 s24.2.1.length]]⟩, some ⟨0, 3, 127, [[I ((X_3_int.set (⟨s24.2.2.1, s24.2.2.2.1, s24.2.2.2.2.1⟩ : X_3_int) (schedule.getD s24.2.2.2.2.2.toNat default) ((X_3_int.get (⟨s24.2.2.1, s24.2.2.2.1, s24.2.2.2.2.1⟩ : X_3_int) (schedule.getD s24.2.2.2.2.2.toNat default)) + (1 : Int))).x0), I ((X_3_int.set (⟨s24.2.2.1, s24.2.2.2.1, s24.2.2.2.2.1⟩ : X_3_int) (schedule.getD s24.2.2.2.2.2.toNat default) ((X_3_int.get (⟨s24.2.2.1, s24.2.2.2.1, s24.2.2.2.2.1⟩ : X_3_int) (schedule.getD s24.2.2.2.2.2.toNat default)) + (1 : Int))).x1), I ((X_3_int.set (⟨s24.2.2.1, s24.2.2.2.1, s24.2.2.2.2.1⟩ : X_3_int) (schedule.getD s24.2.2.2.2.2.toNat default) ((X_3_int.get (⟨s24.2.2.1, s24.2.2.2.1, s24.2.2.2.2.1⟩ : X_3_int) (schedule.getD s24.2.2.2.2.2.toNat default)) + (1 : Int))).x2)]]⟩, some ⟨0, 4, 56, [[I (((p.getD (schedule.getD s24.2.2.2.2.2.toNat default).toNat default).getD (X_3_int.get (⟨s24.2.2.1, s24.2.2.2.1, s24.2.2.2.2.1⟩ : X_3_int) (schedule.getD s24.2.2.2.2.2.toNat default)).toNat default).Op), I (((p.getD (schedule.getD s24.2.2.2.2.2.toNat default).toNat default).getD (X_3_int.get (⟨s24.2.2.1, s24.2.2.2.1, s24.2.2.2.2.1⟩ : X_3_int) (schedule.getD s24.2.2.2.2.2.toNat default)).toNat default).Loc), I (((p.getD (schedule.getD s24.2.2.2.2.2.toNat default).toNat default).getD (X_3_int.get (⟨s24.2.2.1, s24.2.2.2.1, s24.2.2.2.2.1⟩ : X_3_int) (schedule.getD s24.2.2.2.2.2.toNat default)).toNat default).Reg), I (((p.getD (schedule.getD s24.2.2.2.2.2.toNat default).toNat default).getD (X_3_int.get (⟨s24.2.2.1, s24.2.2.2.1, s24.2.2.2.2.1⟩ : X_3_int) (schedule.getD s24.2.2.2.2.2.toNat default)).toNat default).Val)]]⟩]) (K := kk31) (x := bE (y30 ((((p.getD (schedule.getD s24.2.2.2.2.2.toNat default).toNat default).getD (X_3_int.get (⟨s24.2.2.1, s24.2.2.2.1, s24.2.2.2.2.1⟩ : X_3_int) (schedule.getD s24.2.2.2.2.2.toNat default)).toNat default).Loc).toNat)).1 (y30 ((((p.getD (schedule.getD s24.2.2.2.2.2.toNat default).toNat default).getD (X_3_int.get (⟨s24.2.2.1, s24.2.2.2.1, s24.2.2.2.2.1⟩ : X_3_int) (schedule.getD s24.2.2.2.2.2.toNat default)).toNat default).Loc).toNat)).2.2 1 3 ((s24.2.1.getD ((((p.getD (schedule.getD s24.2.2.2.2.2.toNat default).toNat default).getD (X_3_int.get (⟨s24.2.2.1, s24.2.2.2.1, s24.2.2.2.2.1⟩ : X_3_int) (schedule.getD s24.2.2.2.2.2.toNat default)).toNat default).Loc).toNat) []).map cI)) rfl (hN32.at_ (toNat_lt' rfl g43)) rfl (.some (.rowL (.cons .nil (.cons .nil .nil))) (.bE (fun _ => rfl) (.nest (hN32.renOpn (toNat_lt' rfl g43)) (.some (.rowL (.cons (ren_hSg (Opn.low rfl)) (.cons (ren_hSg (Opn.low rfl)) .nil))) (.some (.rowL (.cons (ren_isF 9 _ rfl) (.cons (ren_isF 9 _ rfl) (.cons (ren_isF 9 _ rfl) .nil)))) (.some (.rowL (.cons (ren_isF 9 _ rfl) (.cons (ren_isF 9 _ rfl) (.cons (ren_isF 9 _ rfl) (.cons (ren_isF 9 _ rfl) .nil))))) .nil)))))) hN32.kf) (renE_cons (a0 := .hp 2 u29 1 ((((p.getD (schedule.getD s24.2.2.2.2.2.toNat default).toNat default).getD (X_3_int.get (⟨s24.2.2.1, s24.2.2.2.1, s24.2.2.2.2.1⟩ : X_3_int) (schedule.getD s24.2.2.2.2.2.toNat default)).toNat default).Loc).toNat) 0) rfl (.hp (Opn.low rfl)) (renE_F rfl rfl (renE_cons (a0 := .hp 5 0 4 0 0) rfl (.hp (Opn.low rfl)) (renE_F rfl rfl (renE_F rfl rfl (renE_F rfl rfl (renE_cons (a0 := .hp 4 0 3 0 0) rfl (.hp (Opn.low rfl)) (renE_F rfl rfl (renE_cons (a0 := .hp 3 0 2 0 0) rfl (.hp (Opn.low rfl)) (renE_cons (a0 := .hp 0 0 2 0 0) rfl (.hp (Opn.low rfl)) (renE_F rfl rfl renE_nil))))))))))) ?_
     generalize (y30 ((((p.getD (schedule.getD s24.2.2.2.2.2.toNat default).toNat default).getD (X_3_int.get (⟨s24.2.2.1, s24.2.2.2.1, s24.2.2.2.2.1⟩ : X_3_int) (schedule.getD s24.2.2.2.2.2.toNat default)).toNat default).Loc).toNat)).1 = b44 at n48 ⊢
     generalize (y30 ((((p.getD (schedule.getD s24.2.2.2.2.2.toNat default).toNat default).getD (X_3_int.get (⟨s24.2.2.1, s24.2.2.2.1, s24.2.2.2.2.1⟩ : X_3_int) (schedule.getD s24.2.2.2.2.2.toNat default)).toNat default).Loc).toNat)).2.2 = u45
     generalize kk31.set (y30 ((((p.getD (schedule.getD s24.2.2.2.2.2.toNat default).toNat default).getD (X_3_int.get (⟨s24.2.2.1, s24.2.2.2.1, s24.2.2.2.2.1⟩ : X_3_int) (schedule.getD s24.2.2.2.2.2.toNat default)).toNat default).Loc).toNat)).2.1 none = kk46 at hX47 ⊢
     refine oA (EvA.loadhp (hS b44 6 u45 1 ((s24.2.1.getD ((((p.getD (schedule.getD s24.2.2.2.2.2.toNat default).toNat default).getD (X_3_int.get (⟨s24.2.2.1, s24.2.2.2.1, s24.2.2.2.2.1⟩ : X_3_int) (schedule.getD s24.2.2.2.2.2.toNat default)).toNat default).Loc).toNat) []).length)) ty23 rfl rfl rfl rfl (nxs_get (toNat_lt' rfl g43)) rfl) ?_
     refine oN (EvN.asg (hS b44 6 u45 1 ((s24.2.1.getD ((((p.getD (schedule.getD s24.2.2.2.2.2.toNat default).toNat default).getD (X_3_int.get (⟨s24.2.2.1, s24.2.2.2.1, s24.2.2.2.2.1⟩ : X_3_int) (schedule.getD s24.2.2.2.2.2.toNat default)).toNat default).Loc).toNat) []).length)) rfl) ?_
     refine TO.nil ?_
     obtain ⟨s49, h, ks49⟩ := bindL h
     refine T.joinF (G := (Bool × Nat) × (NG × AH × Nat) × (Bool × Nat)) (fun gh => (gh.1.1 = true → s49.1 = []) ∧ NX gh.2.1.2.1 gh.2.1.1 1 3 cI s24.2.1 ((((p.getD (schedule.getD s24.2.2.2.2.2.toNat default).toNat default).getD (X_3_int.get (⟨s24.2.2.1, s24.2.2.2.1, s24.2.2.2.2.1⟩ : X_3_int) (schedule.getD s24.2.2.2.2.2.toNat default)).toNat default).Loc).toNat) ∧ (gh.2.2.1 = true → s49.2 = [])) (fun gh => [(12, hS gh.2.2.1 6 gh.2.2.2 1 s49.2.length), (11, I ((v6.getD (schedule.getD s24.2.2.2.2.2.toNat default).toNat default).getD (X_3_int.get (⟨s24.2.2.1, s24.2.2.2.1, s24.2.2.2.2.1⟩ : X_3_int) (schedule.getD s24.2.2.2.2.2.toNat default)).toNat default)), (10, .hp 5 0 4 0 0), (27, I s24.2.2.2.2.2), (26, I (schedule.length : Int)), (25, eL cI schedule), (7, .hp 4 0 3 0 0), (6, eL (cL cI) v6), (5, .hp 3 0 2 0 0), (4, .hp 0 0 2 0 0), (0, eL (cL ZIn.c) p)]) (fun gh => (some ⟨0, 2, 43, [[.nil, .nil]]⟩ :: bE gh.1.1 gh.1.2 1 3 (s49.1.map cI) :: bE false gh.2.1.2.2 1 23 (nxs 7 gh.2.1.1 1 s24.2.1 ((((p.getD (schedule.getD s24.2.2.2.2.2.toNat default).toNat default).getD (X_3_int.get (⟨s24.2.2.1, s24.2.2.2.1, s24.2.2.2.2.1⟩ : X_3_int) (schedule.getD s24.2.2.2.2.2.toNat default)).toNat default).Loc).toNat) gh.2.2.1 6 gh.2.2.2 s49.2.length) :: some ⟨0, 2, 43, [[hS gh.1.1 1 gh.1.2 1 s49.1.length, hS false 2 gh.2.1.2.2 1 s24.2.1.length]]⟩ :: some ⟨0, 3, 127, [[I ((X_3_int.set (⟨s24.2.2.1, s24.2.2.2.1, s24.2.2.2.2.1⟩ : X_3_int) (schedule.getD s24.2.2.2.2.2.toNat default) ((X_3_int.get (⟨s24.2.2.1, s24.2.2.2.1, s24.2.2.2.2.1⟩ : X_3_int) (schedule.getD s24.2.2.2.2.2.toNat default)) + (1 : Int))).x0), I ((X_3_int.set (⟨s24.2.2.1, s24.2.2.2.1, s24.2.2.2.2.1⟩ : X_3_int) (schedule.getD s24.2.2.2.2.2.toNat default) ((X_3_int.get (⟨s24.2.2.1, s24.2.2.2.1, s24.2.2.2.2.1⟩ : X_3_int) (schedule.getD s24.2.2.2.2.2.toNat default)) + (1 : Int))).x1), I ((X_3_int.set (⟨s24.2.2.1, s24.2.2.2.1, s24.2.2.2.2.1⟩ : X_3_int) (schedule.getD s24.2.2.2.2.2.toNat default) ((X_3_int.get (⟨s24.2.2.1, s24.2.2.2.1, s24.2.2.2.2.1⟩ : X_3_int) (schedule.getD s24.2.2.2.2.2.toNat default)) + (1 : Int))).x2)]]⟩ :: some ⟨0, 4, 56, [[I (((p.getD (schedule.getD s24.2.2.2.2.2.toNat default).toNat default).getD (X_3_int.get (⟨s24.2.2.1, s24.2.2.2.1, s24.2.2.2.2.1⟩ : X_3_int) (schedule.getD s24.2.2.2.2.2.toNat default)).toNat default).Op), I (((p.getD (schedule.getD s24.2.2.2.2.2.toNat default).toNat default).getD (X_3_int.get (⟨s24.2.2.1, s24.2.2.2.1, s24.2.2.2.2.1⟩ : X_3_int) (schedule.getD s24.2.2.2.2.2.toNat default)).toNat default).Loc), I (((p.getD (schedule.getD s24.2.2.2.2.2.toNat default).toNat default).getD (X_3_int.get (⟨s24.2.2.1, s24.2.2.2.1, s24.2.2.2.2.1⟩ : X_3_int) (schedule.getD s24.2.2.2.2.2.toNat default)).toNat default).Reg), I (((p.getD (schedule.getD s24.2.2.2.2.2.toNat default).toNat default).getD (X_3_int.get (⟨s24.2.2.1, s24.2.2.2.1, s24.2.2.2.2.1⟩ : X_3_int) (schedule.getD s24.2.2.2.2.2.toNat default)).toNat default).Val)]]⟩ :: bE gh.2.2.1 gh.2.2.2 1 3 (s49.2.map cI) :: gh.2.1.2.1)) (fun gh hg => ?_) ?_
     ·clear h
      have h := ks49
      clear ks49
      obtain ⟨⟨b56, u55⟩, ⟨y59, kk60, u58⟩, ⟨b63, u62⟩⟩ := gh
      obtain ⟨n57, hN61, n64⟩ := hg
      refine T.seq ?_
      refine T.region ?_
      refine oA (EvA.loadhp (.agg [I (((p.getD (schedule.getD s24.2.2.2.2.2.toNat default).toNat default).getD (X_3_int.get (⟨s24.2.2.1, s24.2.2.2.1, s24.2.2.2.2.1⟩ : X_3_int) (schedule.getD s24.2.2.2.2.2.toNat default)).toNat default).Op), I (((p.getD (schedule.getD s24.2.2.2.2.2.toNat default).toNat default).getD (X_3_int.get (⟨s24.2.2.1, s24.2.2.2.1, s24.2.2.2.2.1⟩ : X_3_int) (schedule.getD s24.2.2.2.2.2.toNat default)).toNat default).Loc), I (((p.getD (schedule.getD s24.2.2.2.2.2.toNat default).toNat default).getD (X_3_int.get (⟨s24.2.2.1, s24.2.2.2.1, s24.2.2.2.2.1⟩ : X_3_int) (schedule.getD s24.2.2.2.2.2.toNat default)).toNat default).Reg), I (((p.getD (schedule.getD s24.2.2.2.2.2.toNat default).toNat default).getD (X_3_int.get (⟨s24.2.2.1, s24.2.2.2.1, s24.2.2.2.2.1⟩ : X_3_int) (schedule.getD s24.2.2.2.2.2.toNat default)).toNat default).Val)]) ty56 rfl rfl rfl rfl rfl rfl) ?_
      obtain ⟨v65, cv65, h⟩ := bindL h
      refine oN (EvN.call rfl rfl rfl (F_impl_Instr_writes_P (⟨((p.getD (schedule.getD s24.2.2.2.2.2.toNat default).toNat default).getD (X_3_int.get (⟨s24.2.2.1, s24.2.2.2.1, s24.2.2.2.2.1⟩ : X_3_int) (schedule.getD s24.2.2.2.2.2.toNat default)).toNat default).Op, ((p.getD (schedule.getD s24.2.2.2.2.2.toNat default).toNat default).getD (X_3_int.get (⟨s24.2.2.1, s24.2.2.2.1, s24.2.2.2.2.1⟩ : X_3_int) (schedule.getD s24.2.2.2.2.2.toNat default)).toNat default).Loc, ((p.getD (schedule.getD s24.2.2.2.2.2.toNat default).toNat default).getD (X_3_int.get (⟨s24.2.2.1, s24.2.2.2.1, s24.2.2.2.2.1⟩ : X_3_int) (schedule.getD s24.2.2.2.2.2.toNat default)).toNat default).Reg, ((p.getD (schedule.getD s24.2.2.2.2.2.toNat default).toNat default).getD (X_3_int.get (⟨s24.2.2.1, s24.2.2.2.1, s24.2.2.2.2.1⟩ : X_3_int) (schedule.getD s24.2.2.2.2.2.toNat default)).toNat default).Val⟩ : ZIn) cv65) rfl) ?_
      refine TO.nil ?_
      refine T.cond rfl (fun q66 => ?_) (fun q66 => ?_)
      ·replace h := condT q66 h
       refine T.drawF (fun i => [([], false), ([3], false), ([], false), ([5], false), ([], false), ([], false), ([], false), ([6], true), ([], false), ([2], true)].getD i ([], false)) (by kernel_rfl) (by kernel_rfl) ?_
       refine fN rfl (EvN.fahp Try.underlying43 rfl (by kernel_rfl) rfl) ?_
       refine fR [3] rfl (fun G hG => EvA.loadhp (hS false 2 u58 1 s24.2.1.length) ty37 rfl (hG.a0 rfl) rfl rfl rfl rfl) ?_
       refine fN rfl (EvN.fahp Try.underlying56 rfl (by kernel_rfl) rfl) ?_
       refine fR [5] rfl (fun G hG => EvA.loadhp (I (((p.getD (schedule.getD s24.2.2.2.2.2.toNat default).toNat default).getD (X_3_int.get (⟨s24.2.2.1, s24.2.2.2.1, s24.2.2.2.2.1⟩ : X_3_int) (schedule.getD s24.2.2.2.2.2.toNat default)).toNat default).Loc)) ty3 rfl (hG.a0 rfl) rfl rfl rfl rfl) ?_
       refine fN rfl (EvN.mv (hS b63 6 u62 1 s49.2.length) rfl) ?_
       refine fN rfl (EvN.mv (I ((v6.getD (schedule.getD s24.2.2.2.2.2.toNat default).toNat default).getD (X_3_int.get (⟨s24.2.2.1, s24.2.2.2.1, s24.2.2.2.2.1⟩ : X_3_int) (schedule.getD s24.2.2.2.2.2.toNat default)).toNat default)) rfl) ?_
       refine fN rfl (EvN.mkF (c := cI) ([((v6.getD (schedule.getD s24.2.2.2.2.2.toNat default).toNat default).getD (X_3_int.get (⟨s24.2.2.1, s24.2.2.2.1, s24.2.2.2.2.1⟩ : X_3_int) (schedule.getD s24.2.2.2.2.2.toNat default)).toNat default)] : List Int) [[I ((v6.getD (schedule.getD s24.2.2.2.2.2.toNat default).toNat default).getD (X_3_int.get (⟨s24.2.2.1, s24.2.2.2.1, s24.2.2.2.2.1⟩ : X_3_int) (schedule.getD s24.2.2.2.2.2.toNat default)).toNat default)]] sl23 rfl rfl rfl (fun _ => rfl) (fun _ => rfl) rfl) ?_
       obtain ⟨g67, h⟩ := gdL h
       refine fW 6 [] rfl rfl (fun G hG => EvA.app1 (g := b63) (l := s49.2) ((v6.getD (schedule.getD s24.2.2.2.2.2.toNat default).toNat default).getD (X_3_int.get (⟨s24.2.2.1, s24.2.2.2.1, s24.2.2.2.2.1⟩ : X_3_int) (schedule.getD s24.2.2.2.2.2.toNat default)).toNat default) sl23 (by kernel_rfl) rfl rfl (hG.a0 rfl) n64 (SrcOk.fz (l := ([((v6.getD (schedule.getD s24.2.2.2.2.2.toNat default).toNat default).getD (X_3_int.get (⟨s24.2.2.1, s24.2.2.2.1, s24.2.2.2.2.1⟩ : X_3_int) (schedule.getD s24.2.2.2.2.2.toNat default)).toNat default)] : List Int)) rfl (fun _ => rfl)) g67) ?_
       refine fN rfl (EvN.ixO (g := false) sl37 rfl rfl nofun g43) ?_
       refine fV 2 [] rfl rfl (fun G hG => EvA.st (cs := [hS false 6 (u62 + 1) 1 ((s49.2 ++ [((v6.getD (schedule.getD s24.2.2.2.2.2.toNat default).toNat default).getD (X_3_int.get (⟨s24.2.2.1, s24.2.2.2.1, s24.2.2.2.2.1⟩ : X_3_int) (schedule.getD s24.2.2.2.2.2.toNat default)).toNat default)]).length)]) ⟨u58, 1, 23, (nxs 7 y59 1 s24.2.1 ((((p.getD (schedule.getD s24.2.2.2.2.2.toNat default).toNat default).getD (X_3_int.get (⟨s24.2.2.1, s24.2.2.2.1, s24.2.2.2.2.1⟩ : X_3_int) (schedule.getD s24.2.2.2.2.2.toNat default)).toNat default).Loc).toNat) false 6 (u62 + 1) ((s49.2 ++ [((v6.getD (schedule.getD s24.2.2.2.2.2.toNat default).toNat default).getD (X_3_int.get (⟨s24.2.2.1, s24.2.2.2.1, s24.2.2.2.2.1⟩ : X_3_int) (schedule.getD s24.2.2.2.2.2.toNat default)).toNat default)]).length))⟩ ty23 rfl rfl (hG.a0 rfl) rfl rfl (nxs_get hN61.hi) rfl rfl (congrArg (ABlk.mk u58 1 23) nxs_set)) ?_
       refine TF.nil ?_
       obtain rfl := osi h
       exact ⟨((b56, u55), ((up 1 ((up 1 y59).put ((((p.getD (schedule.getD s24.2.2.2.2.2.toNat default).toNat default).getD (X_3_int.get (⟨s24.2.2.1, s24.2.2.2.1, s24.2.2.2.2.1⟩ : X_3_int) (schedule.getD s24.2.2.2.2.2.toNat default)).toNat default).Loc).toNat) (false, 0, u62 + 1))), (some ⟨0, 4, 56, [[I (((p.getD (schedule.getD s24.2.2.2.2.2.toNat default).toNat default).getD (X_3_int.get (⟨s24.2.2.1, s24.2.2.2.1, s24.2.2.2.2.1⟩ : X_3_int) (schedule.getD s24.2.2.2.2.2.toNat default)).toNat default).Op), I (((p.getD (schedule.getD s24.2.2.2.2.2.toNat default).toNat default).getD (X_3_int.get (⟨s24.2.2.1, s24.2.2.2.1, s24.2.2.2.2.1⟩ : X_3_int) (schedule.getD s24.2.2.2.2.2.toNat default)).toNat default).Loc), I (((p.getD (schedule.getD s24.2.2.2.2.2.toNat default).toNat default).getD (X_3_int.get (⟨s24.2.2.1, s24.2.2.2.1, s24.2.2.2.2.1⟩ : X_3_int) (schedule.getD s24.2.2.2.2.2.toNat default)).toNat default).Reg), I (((p.getD (schedule.getD s24.2.2.2.2.2.toNat default).toNat default).getD (X_3_int.get (⟨s24.2.2.1, s24.2.2.2.1, s24.2.2.2.2.1⟩ : X_3_int) (schedule.getD s24.2.2.2.2.2.toNat default)).toNat default).Val)]]⟩ :: (bE false (u62 + 1) 1 3 ((s49.2 ++ [((v6.getD (schedule.getD s24.2.2.2.2.2.toNat default).toNat default).getD (X_3_int.get (⟨s24.2.2.1, s24.2.2.2.1, s24.2.2.2.2.1⟩ : X_3_int) (schedule.getD s24.2.2.2.2.2.toNat default)).toNat default)]).map cI) :: kk60)), u58)), ⟨n57, ((hN61.close (g := false) (v := u62 + 1) (r := (s49.2 ++ [((v6.getD (schedule.getD s24.2.2.2.2.2.toNat default).toNat default).getD (X_3_int.get (⟨s24.2.2.1, s24.2.2.2.1, s24.2.2.2.2.1⟩ : X_3_int) (schedule.getD s24.2.2.2.2.2.toNat default)).toNat default)])) nofun (fun _ => rfl)).push (fun _ hb => osi hb ▸ rowsF_row rfl))⟩, cutW (Eq.trans (congrArg (fun n_ : Nat => (some ⟨0, 2, 43, [[.nil, .nil]]⟩ :: bE b56 u55 1 3 (s49.1.map cI) :: bE false u58 1 23 (nrs 5 (up 1 ((up 1 y59).put ((((p.getD (schedule.getD s24.2.2.2.2.2.toNat default).toNat default).getD (X_3_int.get (⟨s24.2.2.1, s24.2.2.2.1, s24.2.2.2.2.1⟩ : X_3_int) (schedule.getD s24.2.2.2.2.2.toNat default)).toNat default).Loc).toNat) (false, 0, u62 + 1))) 1 (s24.2.1.set ((((p.getD (schedule.getD s24.2.2.2.2.2.toNat default).toNat default).getD (X_3_int.get (⟨s24.2.2.1, s24.2.2.2.1, s24.2.2.2.2.1⟩ : X_3_int) (schedule.getD s24.2.2.2.2.2.toNat default)).toNat default).Loc).toNat) (s49.2 ++ [((v6.getD (schedule.getD s24.2.2.2.2.2.toNat default).toNat default).getD (X_3_int.get (⟨s24.2.2.1, s24.2.2.2.1, s24.2.2.2.2.1⟩ : X_3_int) (schedule.getD s24.2.2.2.2.2.toNat default)).toNat default)]))) :: some ⟨0, 2, 43, [[hS b56 1 u55 1 s49.1.length, hS false 2 u58 1 n_]]⟩ :: some ⟨0, 3, 127, [[I ((X_3_int.set (⟨s24.2.2.1, s24.2.2.2.1, s24.2.2.2.2.1⟩ : X_3_int) (schedule.getD s24.2.2.2.2.2.toNat default) ((X_3_int.get (⟨s24.2.2.1, s24.2.2.2.1, s24.2.2.2.2.1⟩ : X_3_int) (schedule.getD s24.2.2.2.2.2.toNat default)) + (1 : Int))).x0), I ((X_3_int.set (⟨s24.2.2.1, s24.2.2.2.1, s24.2.2.2.2.1⟩ : X_3_int) (schedule.getD s24.2.2.2.2.2.toNat default) ((X_3_int.get (⟨s24.2.2.1, s24.2.2.2.1, s24.2.2.2.2.1⟩ : X_3_int) (schedule.getD s24.2.2.2.2.2.toNat default)) + (1 : Int))).x1), I ((X_3_int.set (⟨s24.2.2.1, s24.2.2.2.1, s24.2.2.2.2.1⟩ : X_3_int) (schedule.getD s24.2.2.2.2.2.toNat default) ((X_3_int.get (⟨s24.2.2.1, s24.2.2.2.1, s24.2.2.2.2.1⟩ : X_3_int) (schedule.getD s24.2.2.2.2.2.toNat default)) + (1 : Int))).x2)]]⟩ :: some ⟨0, 4, 56, [[I (((p.getD (schedule.getD s24.2.2.2.2.2.toNat default).toNat default).getD (X_3_int.get (⟨s24.2.2.1, s24.2.2.2.1, s24.2.2.2.2.1⟩ : X_3_int) (schedule.getD s24.2.2.2.2.2.toNat default)).toNat default).Op), I (((p.getD (schedule.getD s24.2.2.2.2.2.toNat default).toNat default).getD (X_3_int.get (⟨s24.2.2.1, s24.2.2.2.1, s24.2.2.2.2.1⟩ : X_3_int) (schedule.getD s24.2.2.2.2.2.toNat default)).toNat default).Loc), I (((p.getD (schedule.getD s24.2.2.2.2.2.toNat default).toNat default).getD (X_3_int.get (⟨s24.2.2.1, s24.2.2.2.1, s24.2.2.2.2.1⟩ : X_3_int) (schedule.getD s24.2.2.2.2.2.toNat default)).toNat default).Reg), I (((p.getD (schedule.getD s24.2.2.2.2.2.toNat default).toNat default).getD (X_3_int.get (⟨s24.2.2.1, s24.2.2.2.1, s24.2.2.2.2.1⟩ : X_3_int) (schedule.getD s24.2.2.2.2.2.toNat default)).toNat default).Val)]]⟩ :: bE false (u62 + 1) 1 3 ((s49.2 ++ [((v6.getD (schedule.getD s24.2.2.2.2.2.toNat default).toNat default).getD (X_3_int.get (⟨s24.2.2.1, s24.2.2.2.1, s24.2.2.2.2.1⟩ : X_3_int) (schedule.getD s24.2.2.2.2.2.toNat default)).toNat default)]).map cI) :: kk60 : AH)) (by simp : (s24.2.1.set ((((p.getD (schedule.getD s24.2.2.2.2.2.toNat default).toNat default).getD (X_3_int.get (⟨s24.2.2.1, s24.2.2.2.1, s24.2.2.2.2.1⟩ : X_3_int) (schedule.getD s24.2.2.2.2.2.toNat default)).toNat default).Loc).toNat) (s49.2 ++ [((v6.getD (schedule.getD s24.2.2.2.2.2.toNat default).toNat default).getD (X_3_int.get (⟨s24.2.2.1, s24.2.2.2.1, s24.2.2.2.2.1⟩ : X_3_int) (schedule.getD s24.2.2.2.2.2.toNat default)).toNat default)])).length = s24.2.1.length)) (congrArg (fun r_ : List (List AV) => (some ⟨0, 2, 43, [[.nil, .nil]]⟩ :: bE b56 u55 1 3 (s49.1.map cI) :: bE false u58 1 23 r_ :: some ⟨0, 2, 43, [[hS b56 1 u55 1 s49.1.length, hS false 2 u58 1 s24.2.1.length]]⟩ :: some ⟨0, 3, 127, [[I ((X_3_int.set (⟨s24.2.2.1, s24.2.2.2.1, s24.2.2.2.2.1⟩ : X_3_int) (schedule.getD s24.2.2.2.2.2.toNat default) ((X_3_int.get (⟨s24.2.2.1, s24.2.2.2.1, s24.2.2.2.2.1⟩ : X_3_int) (schedule.getD s24.2.2.2.2.2.toNat default)) + (1 : Int))).x0), I ((X_3_int.set (⟨s24.2.2.1, s24.2.2.2.1, s24.2.2.2.2.1⟩ : X_3_int) (schedule.getD s24.2.2.2.2.2.toNat default) ((X_3_int.get (⟨s24.2.2.1, s24.2.2.2.1, s24.2.2.2.2.1⟩ : X_3_int) (schedule.getD s24.2.2.2.2.2.toNat default)) + (1 : Int))).x1), I ((X_3_int.set (⟨s24.2.2.1, s24.2.2.2.1, s24.2.2.2.2.1⟩ : X_3_int) (schedule.getD s24.2.2.2.2.2.toNat default) ((X_3_int.get (⟨s24.2.2.1, s24.2.2.2.1, s24.2.2.2.2.1⟩ : X_3_int) (schedule.getD s24.2.2.2.2.2.toNat default)) + (1 : Int))).x2)]]⟩ :: some ⟨0, 4, 56, [[I (((p.getD (schedule.getD s24.2.2.2.2.2.toNat default).toNat default).getD (X_3_int.get (⟨s24.2.2.1, s24.2.2.2.1, s24.2.2.2.2.1⟩ : X_3_int) (schedule.getD s24.2.2.2.2.2.toNat default)).toNat default).Op), I (((p.getD (schedule.getD s24.2.2.2.2.2.toNat default).toNat default).getD (X_3_int.get (⟨s24.2.2.1, s24.2.2.2.1, s24.2.2.2.2.1⟩ : X_3_int) (schedule.getD s24.2.2.2.2.2.toNat default)).toNat default).Loc), I (((p.getD (schedule.getD s24.2.2.2.2.2.toNat default).toNat default).getD (X_3_int.get (⟨s24.2.2.1, s24.2.2.2.1, s24.2.2.2.2.1⟩ : X_3_int) (schedule.getD s24.2.2.2.2.2.toNat default)).toNat default).Reg), I (((p.getD (schedule.getD s24.2.2.2.2.2.toNat default).toNat default).getD (X_3_int.get (⟨s24.2.2.1, s24.2.2.2.1, s24.2.2.2.2.1⟩ : X_3_int) (schedule.getD s24.2.2.2.2.2.toNat default)).toNat default).Val)]]⟩ :: bE false (u62 + 1) 1 3 ((s49.2 ++ [((v6.getD (schedule.getD s24.2.2.2.2.2.toNat default).toNat default).getD (X_3_int.get (⟨s24.2.2.1, s24.2.2.2.1, s24.2.2.2.2.1⟩ : X_3_int) (schedule.getD s24.2.2.2.2.2.toNat default)).toNat default)]).map cI) :: kk60 : AH)) (show (nxs 7 y59 1 s24.2.1 ((((p.getD (schedule.getD s24.2.2.2.2.2.toNat default).toNat default).getD (X_3_int.get (⟨s24.2.2.1, s24.2.2.2.1, s24.2.2.2.2.1⟩ : X_3_int) (schedule.getD s24.2.2.2.2.2.toNat default)).toNat default).Loc).toNat) false 6 (u62 + 1) ((s49.2 ++ [((v6.getD (schedule.getD s24.2.2.2.2.2.toNat default).toNat default).getD (X_3_int.get (⟨s24.2.2.1, s24.2.2.2.1, s24.2.2.2.2.1⟩ : X_3_int) (schedule.getD s24.2.2.2.2.2.toNat default)).toNat default)]).length)) = nrs 5 (up 1 ((up 1 y59).put ((((p.getD (schedule.getD s24.2.2.2.2.2.toNat default).toNat default).getD (X_3_int.get (⟨s24.2.2.1, s24.2.2.2.1, s24.2.2.2.2.1⟩ : X_3_int) (schedule.getD s24.2.2.2.2.2.toNat default)).toNat default).Loc).toNat) (false, 0, u62 + 1))) 1 (s24.2.1.set ((((p.getD (schedule.getD s24.2.2.2.2.2.toNat default).toNat default).getD (X_3_int.get (⟨s24.2.2.1, s24.2.2.2.1, s24.2.2.2.2.1⟩ : X_3_int) (schedule.getD s24.2.2.2.2.2.toNat default)).toNat default).Loc).toNat) (s49.2 ++ [((v6.getD (schedule.getD s24.2.2.2.2.2.toNat default).toNat default).getD (X_3_int.get (⟨s24.2.2.1, s24.2.2.2.1, s24.2.2.2.2.1⟩ : X_3_int) (schedule.getD s24.2.2.2.2.2.toNat default)).toNat default)])) from nxs_close (m := 6) (gh := y59) (r := (s49.2 ++ [((v6.getD (schedule.getD s24.2.2.2.2.2.toNat default).toNat default).getD (X_3_int.get (⟨s24.2.2.1, s24.2.2.2.1, s24.2.2.2.2.1⟩ : X_3_int) (schedule.getD s24.2.2.2.2.2.toNat default)).toNat default)])) hN61.hi).symm)) (wkC rfl (wkC rfl (wkC rfl (wkC rfl (wkC rfl (wkC rfl (wkC rfl (wkC rfl wkN))))))))⟩
      ·replace h := condF q66 h
       refine T.skip ?_
       obtain rfl := osi h
       exact ⟨((b56, u55), ((up 1 ((up 1 y59).put ((((p.getD (schedule.getD s24.2.2.2.2.2.toNat default).toNat default).getD (X_3_int.get (⟨s24.2.2.1, s24.2.2.2.1, s24.2.2.2.2.1⟩ : X_3_int) (schedule.getD s24.2.2.2.2.2.toNat default)).toNat default).Loc).toNat) (b63, 0, u62))), (some ⟨0, 4, 56, [[I (((p.getD (schedule.getD s24.2.2.2.2.2.toNat default).toNat default).getD (X_3_int.get (⟨s24.2.2.1, s24.2.2.2.1, s24.2.2.2.2.1⟩ : X_3_int) (schedule.getD s24.2.2.2.2.2.toNat default)).toNat default).Op), I (((p.getD (schedule.getD s24.2.2.2.2.2.toNat default).toNat default).getD (X_3_int.get (⟨s24.2.2.1, s24.2.2.2.1, s24.2.2.2.2.1⟩ : X_3_int) (schedule.getD s24.2.2.2.2.2.toNat default)).toNat default).Loc), I (((p.getD (schedule.getD s24.2.2.2.2.2.toNat default).toNat default).getD (X_3_int.get (⟨s24.2.2.1, s24.2.2.2.1, s24.2.2.2.2.1⟩ : X_3_int) (schedule.getD s24.2.2.2.2.2.toNat default)).toNat default).Reg), I (((p.getD (schedule.getD s24.2.2.2.2.2.toNat default).toNat default).getD (X_3_int.get (⟨s24.2.2.1, s24.2.2.2.1, s24.2.2.2.2.1⟩ : X_3_int) (schedule.getD s24.2.2.2.2.2.toNat default)).toNat default).Val)]]⟩ :: (bE b63 u62 1 3 (s49.2.map cI) :: kk60)), u58)), ⟨n57, ((hN61.close (g := b63) (v := u62) (r := s49.2) n64 (fun _ => rfl)).push (fun _ hb => osi hb ▸ rowsF_row rfl))⟩, cutW (Eq.trans (congrArg (fun n_ : Nat => (some ⟨0, 2, 43, [[.nil, .nil]]⟩ :: bE b56 u55 1 3 (s49.1.map cI) :: bE false u58 1 23 (nrs 5 (up 1 ((up 1 y59).put ((((p.getD (schedule.getD s24.2.2.2.2.2.toNat default).toNat default).getD (X_3_int.get (⟨s24.2.2.1, s24.2.2.2.1, s24.2.2.2.2.1⟩ : X_3_int) (schedule.getD s24.2.2.2.2.2.toNat default)).toNat default).Loc).toNat) (b63, 0, u62))) 1 (s24.2.1.set ((((p.getD (schedule.getD s24.2.2.2.2.2.toNat default).toNat default).getD (X_3_int.get (⟨s24.2.2.1, s24.2.2.2.1, s24.2.2.2.2.1⟩ : X_3_int) (schedule.getD s24.2.2.2.2.2.toNat default)).toNat default).Loc).toNat) s49.2)) :: some ⟨0, 2, 43, [[hS b56 1 u55 1 s49.1.length, hS false 2 u58 1 n_]]⟩ :: some ⟨0, 3, 127, [[I ((X_3_int.set (⟨s24.2.2.1, s24.2.2.2.1, s24.2.2.2.2.1⟩ : X_3_int) (schedule.getD s24.2.2.2.2.2.toNat default) ((X_3_int.get (⟨s24.2.2.1, s24.2.2.2.1, s24.2.2.2.2.1⟩ : X_3_int) (schedule.getD s24.2.2.2.2.2.toNat default)) + (1 : Int))).x0), I ((X_3_int.set (⟨s24.2.2.1, s24.2.2.2.1, s24.2.2.2.2.1⟩ : X_3_int) (schedule.getD s24.2.2.2.2.2.toNat default) ((X_3_int.get (⟨s24.2.2.1, s24.2.2.2.1, s24.2.2.2.2.1⟩ : X_3_int) (schedule.getD s24.2.2.2.2.2.toNat default)) + (1 : Int))).x1), I ((X_3_int.set (⟨s24.2.2.1, s24.2.2.2.1, s24.2.2.2.2.1⟩ : X_3_int) (schedule.getD s24.2.2.2.2.2.toNat default) ((X_3_int.get (⟨s24.2.2.1, s24.2.2.2.1, s24.2.2.2.2.1⟩ : X_3_int) (schedule.getD s24.2.2.2.2.2.toNat default)) + (1 : Int))).x2)]]⟩ :: some ⟨0, 4, 56, [[I (((p.getD (schedule.getD s24.2.2.2.2.2.toNat default).toNat default).getD (X_3_int.get (⟨s24.2.2.1, s24.2.2.2.1, s24.2.2.2.2.1⟩ : X_3_int) (schedule.getD s24.2.2.2.2.2.toNat default)).toNat default).Op), I (((p.getD (schedule.getD s24.2.2.2.2.2.toNat default).toNat default).getD (X_3_int.get (⟨s24.2.2.1, s24.2.2.2.1, s24.2.2.2.2.1⟩ : X_3_int) (schedule.getD s24.2.2.2.2.2.toNat default)).toNat default).Loc), I (((p.getD (schedule.getD s24.2.2.2.2.2.toNat default).toNat default).getD (X_3_int.get (⟨s24.2.2.1, s24.2.2.2.1, s24.2.2.2.2.1⟩ : X_3_int) (schedule.getD s24.2.2.2.2.2.toNat default)).toNat default).Reg), I (((p.getD (schedule.getD s24.2.2.2.2.2.toNat default).toNat default).getD (X_3_int.get (⟨s24.2.2.1, s24.2.2.2.1, s24.2.2.2.2.1⟩ : X_3_int) (schedule.getD s24.2.2.2.2.2.toNat default)).toNat default).Val)]]⟩ :: bE b63 u62 1 3 (s49.2.map cI) :: kk60 : AH)) (by simp : (s24.2.1.set ((((p.getD (schedule.getD s24.2.2.2.2.2.toNat default).toNat default).getD (X_3_int.get (⟨s24.2.2.1, s24.2.2.2.1, s24.2.2.2.2.1⟩ : X_3_int) (schedule.getD s24.2.2.2.2.2.toNat default)).toNat default).Loc).toNat) s49.2).length = s24.2.1.length)) (congrArg (fun r_ : List (List AV) => (some ⟨0, 2, 43, [[.nil, .nil]]⟩ :: bE b56 u55 1 3 (s49.1.map cI) :: bE false u58 1 23 r_ :: some ⟨0, 2, 43, [[hS b56 1 u55 1 s49.1.length, hS false 2 u58 1 s24.2.1.length]]⟩ :: some ⟨0, 3, 127, [[I ((X_3_int.set (⟨s24.2.2.1, s24.2.2.2.1, s24.2.2.2.2.1⟩ : X_3_int) (schedule.getD s24.2.2.2.2.2.toNat default) ((X_3_int.get (⟨s24.2.2.1, s24.2.2.2.1, s24.2.2.2.2.1⟩ : X_3_int) (schedule.getD s24.2.2.2.2.2.toNat default)) + (1 : Int))).x0), I ((X_3_int.set (⟨s24.2.2.1, s24.2.2.2.1, s24.2.2.2.2.1⟩ : X_3_int) (schedule.getD s24.2.2.2.2.2.toNat default) ((X_3_int.get (⟨s24.2.2.1, s24.2.2.2.1, s24.2.2.2.2.1⟩ : X_3_int) (schedule.getD s24.2.2.2.2.2.toNat default)) + (1 : Int))).x1), I ((X_3_int.set (⟨s24.2.2.1, s24.2.2.2.1, s24.2.2.2.2.1⟩ : X_3_int) (schedule.getD s24.2.2.2.2.2.toNat default) ((X_3_int.get (⟨s24.2.2.1, s24.2.2.2.1, s24.2.2.2.2.1⟩ : X_3_int) (schedule.getD s24.2.2.2.2.2.toNat default)) + (1 : Int))).x2)]]⟩ :: some ⟨0, 4, 56, [[I (((p.getD (schedule.getD s24.2.2.2.2.2.toNat default).toNat default).getD (X_3_int.get (⟨s24.2.2.1, s24.2.2.2.1, s24.2.2.2.2.1⟩ : X_3_int) (schedule.getD s24.2.2.2.2.2.toNat default)).toNat default).Op), I (((p.getD (schedule.getD s24.2.2.2.2.2.toNat default).toNat default).getD (X_3_int.get (⟨s24.2.2.1, s24.2.2.2.1, s24.2.2.2.2.1⟩ : X_3_int) (schedule.getD s24.2.2.2.2.2.toNat default)).toNat default).Loc), I (((p.getD (schedule.getD s24.2.2.2.2.2.toNat default).toNat default).getD (X_3_int.get (⟨s24.2.2.1, s24.2.2.2.1, s24.2.2.2.2.1⟩ : X_3_int) (schedule.getD s24.2.2.2.2.2.toNat default)).toNat default).Reg), I (((p.getD (schedule.getD s24.2.2.2.2.2.toNat default).toNat default).getD (X_3_int.get (⟨s24.2.2.1, s24.2.2.2.1, s24.2.2.2.2.1⟩ : X_3_int) (schedule.getD s24.2.2.2.2.2.toNat default)).toNat default).Val)]]⟩ :: bE b63 u62 1 3 (s49.2.map cI) :: kk60 : AH)) (show (nxs 7 y59 1 s24.2.1 ((((p.getD (schedule.getD s24.2.2.2.2.2.toNat default).toNat default).getD (X_3_int.get (⟨s24.2.2.1, s24.2.2.2.1, s24.2.2.2.2.1⟩ : X_3_int) (schedule.getD s24.2.2.2.2.2.toNat default)).toNat default).Loc).toNat) b63 6 u62 s49.2.length) = nrs 5 (up 1 ((up 1 y59).put ((((p.getD (schedule.getD s24.2.2.2.2.2.toNat default).toNat default).getD (X_3_int.get (⟨s24.2.2.1, s24.2.2.2.1, s24.2.2.2.2.1⟩ : X_3_int) (schedule.getD s24.2.2.2.2.2.toNat default)).toNat default).Loc).toNat) (b63, 0, u62))) 1 (s24.2.1.set ((((p.getD (schedule.getD s24.2.2.2.2.2.toNat default).toNat default).getD (X_3_int.get (⟨s24.2.2.1, s24.2.2.2.1, s24.2.2.2.2.1⟩ : X_3_int) (schedule.getD s24.2.2.2.2.2.toNat default)).toNat default).Loc).toNat) s49.2) from nxs_close (m := 6) (gh := y59) (r := s49.2) hN61.hi).symm)) (wkC rfl (wkC rfl (wkC rfl (wkC rfl (wkC rfl (wkC rfl (wkC rfl (wkC rfl wkN))))))))⟩
     ·clear ks49
      refine T.seq ?_
      refine T.region ?_
      refine oA (EvA.loadhp (.agg [I (((p.getD (schedule.getD s24.2.2.2.2.2.toNat default).toNat default).getD (X_3_int.get (⟨s24.2.2.1, s24.2.2.2.1, s24.2.2.2.2.1⟩ : X_3_int) (schedule.getD s24.2.2.2.2.2.toNat default)).toNat default).Op), I (((p.getD (schedule.getD s24.2.2.2.2.2.toNat default).toNat default).getD (X_3_int.get (⟨s24.2.2.1, s24.2.2.2.1, s24.2.2.2.2.1⟩ : X_3_int) (schedule.getD s24.2.2.2.2.2.toNat default)).toNat default).Loc), I (((p.getD (schedule.getD s24.2.2.2.2.2.toNat default).toNat default).getD (X_3_int.get (⟨s24.2.2.1, s24.2.2.2.1, s24.2.2.2.2.1⟩ : X_3_int) (schedule.getD s24.2.2.2.2.2.toNat default)).toNat default).Reg), I (((p.getD (schedule.getD s24.2.2.2.2.2.toNat default).toNat default).getD (X_3_int.get (⟨s24.2.2.1, s24.2.2.2.1, s24.2.2.2.2.1⟩ : X_3_int) (schedule.getD s24.2.2.2.2.2.toNat default)).toNat default).Val)]) ty56 rfl rfl rfl rfl rfl rfl) ?_
      obtain ⟨v50, cv50, h⟩ := bindL h
      refine oN (EvN.call rfl rfl rfl (F_impl_Instr_reads_P (⟨((p.getD (schedule.getD s24.2.2.2.2.2.toNat default).toNat default).getD (X_3_int.get (⟨s24.2.2.1, s24.2.2.2.1, s24.2.2.2.2.1⟩ : X_3_int) (schedule.getD s24.2.2.2.2.2.toNat default)).toNat default).Op, ((p.getD (schedule.getD s24.2.2.2.2.2.toNat default).toNat default).getD (X_3_int.get (⟨s24.2.2.1, s24.2.2.2.1, s24.2.2.2.2.1⟩ : X_3_int) (schedule.getD s24.2.2.2.2.2.toNat default)).toNat default).Loc, ((p.getD (schedule.getD s24.2.2.2.2.2.toNat default).toNat default).getD (X_3_int.get (⟨s24.2.2.1, s24.2.2.2.1, s24.2.2.2.2.1⟩ : X_3_int) (schedule.getD s24.2.2.2.2.2.toNat default)).toNat default).Reg, ((p.getD (schedule.getD s24.2.2.2.2.2.toNat default).toNat default).getD (X_3_int.get (⟨s24.2.2.1, s24.2.2.2.1, s24.2.2.2.2.1⟩ : X_3_int) (schedule.getD s24.2.2.2.2.2.toNat default)).toNat default).Val⟩ : ZIn) cv50) rfl) ?_
      refine TO.nil ?_
      refine T.cond rfl (fun q51 => ?_) (fun q51 => ?_)
      ·replace h := condT q51 h
       refine T.drawF (fun i => [([], false), ([3], false), ([], false), ([], false), ([], false), ([], false), ([], false), ([], false), ([6], false), ([], false), ([1], true)].getD i ([], false)) (by kernel_rfl) (by kernel_rfl) ?_
       refine fN rfl (EvN.fahp Try.underlying43 rfl (by kernel_rfl) rfl) ?_
       refine fR [3] rfl (fun G hG => EvA.loadhp (hS b27 1 u26 1 s24.1.length) ty23 rfl (hG.a0 rfl) rfl rfl rfl rfl) ?_
       refine fN rfl (EvN.mv (I ((v6.getD (schedule.getD s24.2.2.2.2.2.toNat default).toNat default).getD (X_3_int.get (⟨s24.2.2.1, s24.2.2.2.1, s24.2.2.2.2.1⟩ : X_3_int) (schedule.getD s24.2.2.2.2.2.toNat default)).toNat default)) rfl) ?_
       refine fN rfl (EvN.mv (hS b44 6 u45 1 ((s24.2.1.getD ((((p.getD (schedule.getD s24.2.2.2.2.2.toNat default).toNat default).getD (X_3_int.get (⟨s24.2.2.1, s24.2.2.2.1, s24.2.2.2.2.1⟩ : X_3_int) (schedule.getD s24.2.2.2.2.2.toNat default)).toNat default).Loc).toNat) []).length)) rfl) ?_
       refine fN rfl (EvN.mv (hS b44 6 u45 1 ((s24.2.1.getD ((((p.getD (schedule.getD s24.2.2.2.2.2.toNat default).toNat default).getD (X_3_int.get (⟨s24.2.2.1, s24.2.2.2.1, s24.2.2.2.2.1⟩ : X_3_int) (schedule.getD s24.2.2.2.2.2.toNat default)).toNat default).Loc).toNat) []).length)) rfl) ?_
       refine fN rfl (EvN.lenO (g := b44) sl23 rfl (nil_len n48 rfl)) ?_
       obtain ⟨g52, h⟩ := gdW h
       refine fN rfl (EvN.sub rfl rfl g52) ?_
       obtain ⟨g53, h⟩ := gdD h
       obtain rfl := gfalse n48 rfl g53
       refine fN rfl (EvN.ixO (g := false) sl23 rfl rfl nofun g53) ?_
       refine fR [6] rfl (fun G hG => EvA.ldO (g := false) (l := (s24.2.1.getD ((((p.getD (schedule.getD s24.2.2.2.2.2.toNat default).toNat default).getD (X_3_int.get (⟨s24.2.2.1, s24.2.2.2.1, s24.2.2.2.2.1⟩ : X_3_int) (schedule.getD s24.2.2.2.2.2.toNat default)).toNat default).Loc).toNat) [])) (I ((s24.2.1.getD ((((p.getD (schedule.getD s24.2.2.2.2.2.toNat default).toNat default).getD (X_3_int.get (⟨s24.2.2.1, s24.2.2.2.1, s24.2.2.2.2.1⟩ : X_3_int) (schedule.getD s24.2.2.2.2.2.toNat default)).toNat default).Loc).toNat) []).getD ((((s24.2.1.getD ((((p.getD (schedule.getD s24.2.2.2.2.2.toNat default).toNat default).getD (X_3_int.get (⟨s24.2.2.1, s24.2.2.2.1, s24.2.2.2.2.1⟩ : X_3_int) (schedule.getD s24.2.2.2.2.2.toNat default)).toNat default).Loc).toNat) []).length : Int) - (1 : Int)).toNat) default)) ty3 rfl (hG.a0 rfl) nofun (toNat_lt' rfl g53) rfl) ?_
       obtain ⟨g54, h⟩ := gdD h
       obtain rfl := gfalse n28 rfl g54
       refine fN rfl (EvN.ixO (g := false) sl23 rfl rfl nofun g54) ?_
       refine fV 1 [] rfl rfl (fun G hG => EvA.stO (g := false) (l := s24.1) (cs := [I ((s24.2.1.getD ((((p.getD (schedule.getD s24.2.2.2.2.2.toNat default).toNat default).getD (X_3_int.get (⟨s24.2.2.1, s24.2.2.2.1, s24.2.2.2.2.1⟩ : X_3_int) (schedule.getD s24.2.2.2.2.2.toNat default)).toNat default).Loc).toNat) []).getD ((((s24.2.1.getD ((((p.getD (schedule.getD s24.2.2.2.2.2.toNat default).toNat default).getD (X_3_int.get (⟨s24.2.2.1, s24.2.2.2.1, s24.2.2.2.2.1⟩ : X_3_int) (schedule.getD s24.2.2.2.2.2.toNat default)).toNat default).Loc).toNat) []).length : Int) - (1 : Int)).toNat) default)]) ((s24.2.1.getD ((((p.getD (schedule.getD s24.2.2.2.2.2.toNat default).toNat default).getD (X_3_int.get (⟨s24.2.2.1, s24.2.2.2.1, s24.2.2.2.2.1⟩ : X_3_int) (schedule.getD s24.2.2.2.2.2.toNat default)).toNat default).Loc).toNat) []).getD ((((s24.2.1.getD ((((p.getD (schedule.getD s24.2.2.2.2.2.toNat default).toNat default).getD (X_3_int.get (⟨s24.2.2.1, s24.2.2.2.1, s24.2.2.2.2.1⟩ : X_3_int) (schedule.getD s24.2.2.2.2.2.toNat default)).toNat default).Loc).toNat) []).length : Int) - (1 : Int)).toNat) default) ty3 rfl rfl (hG.a0 rfl) nofun (toNat_lt' rfl g54) rfl rfl rfl) ?_
       refine TF.nil ?_
       obtain rfl := osi h
       exact ⟨((false, u26), (y30, kk46, u29), (false, u45)), ⟨nofun, hX47, nofun⟩, cutW (congrArg (fun n_ : Nat => (some ⟨0, 2, 43, [[.nil, .nil]]⟩ :: bE false u26 1 3 ((s24.1.set (((v6.getD (schedule.getD s24.2.2.2.2.2.toNat default).toNat default).getD (X_3_int.get (⟨s24.2.2.1, s24.2.2.2.1, s24.2.2.2.2.1⟩ : X_3_int) (schedule.getD s24.2.2.2.2.2.toNat default)).toNat default).toNat) ((s24.2.1.getD ((((p.getD (schedule.getD s24.2.2.2.2.2.toNat default).toNat default).getD (X_3_int.get (⟨s24.2.2.1, s24.2.2.2.1, s24.2.2.2.2.1⟩ : X_3_int) (schedule.getD s24.2.2.2.2.2.toNat default)).toNat default).Loc).toNat) []).getD ((((s24.2.1.getD ((((p.getD (schedule.getD s24.2.2.2.2.2.toNat default).toNat default).getD (X_3_int.get (⟨s24.2.2.1, s24.2.2.2.1, s24.2.2.2.2.1⟩ : X_3_int) (schedule.getD s24.2.2.2.2.2.toNat default)).toNat default).Loc).toNat) []).length : Int) - (1 : Int)).toNat) default)).map cI) :: bE false u29 1 23 (nxs 7 y30 1 s24.2.1 ((((p.getD (schedule.getD s24.2.2.2.2.2.toNat default).toNat default).getD (X_3_int.get (⟨s24.2.2.1, s24.2.2.2.1, s24.2.2.2.2.1⟩ : X_3_int) (schedule.getD s24.2.2.2.2.2.toNat default)).toNat default).Loc).toNat) false 6 u45 ((s24.2.1.getD ((((p.getD (schedule.getD s24.2.2.2.2.2.toNat default).toNat default).getD (X_3_int.get (⟨s24.2.2.1, s24.2.2.2.1, s24.2.2.2.2.1⟩ : X_3_int) (schedule.getD s24.2.2.2.2.2.toNat default)).toNat default).Loc).toNat) []).length)) :: some ⟨0, 2, 43, [[hS false 1 u26 1 n_, hS false 2 u29 1 s24.2.1.length]]⟩ :: some ⟨0, 3, 127, [[I ((X_3_int.set (⟨s24.2.2.1, s24.2.2.2.1, s24.2.2.2.2.1⟩ : X_3_int) (schedule.getD s24.2.2.2.2.2.toNat default) ((X_3_int.get (⟨s24.2.2.1, s24.2.2.2.1, s24.2.2.2.2.1⟩ : X_3_int) (schedule.getD s24.2.2.2.2.2.toNat default)) + (1 : Int))).x0), I ((X_3_int.set (⟨s24.2.2.1, s24.2.2.2.1, s24.2.2.2.2.1⟩ : X_3_int) (schedule.getD s24.2.2.2.2.2.toNat default) ((X_3_int.get (⟨s24.2.2.1, s24.2.2.2.1, s24.2.2.2.2.1⟩ : X_3_int) (schedule.getD s24.2.2.2.2.2.toNat default)) + (1 : Int))).x1), I ((X_3_int.set (⟨s24.2.2.1, s24.2.2.2.1, s24.2.2.2.2.1⟩ : X_3_int) (schedule.getD s24.2.2.2.2.2.toNat default) ((X_3_int.get (⟨s24.2.2.1, s24.2.2.2.1, s24.2.2.2.2.1⟩ : X_3_int) (schedule.getD s24.2.2.2.2.2.toNat default)) + (1 : Int))).x2)]]⟩ :: some ⟨0, 4, 56, [[I (((p.getD (schedule.getD s24.2.2.2.2.2.toNat default).toNat default).getD (X_3_int.get (⟨s24.2.2.1, s24.2.2.2.1, s24.2.2.2.2.1⟩ : X_3_int) (schedule.getD s24.2.2.2.2.2.toNat default)).toNat default).Op), I (((p.getD (schedule.getD s24.2.2.2.2.2.toNat default).toNat default).getD (X_3_int.get (⟨s24.2.2.1, s24.2.2.2.1, s24.2.2.2.2.1⟩ : X_3_int) (schedule.getD s24.2.2.2.2.2.toNat default)).toNat default).Loc), I (((p.getD (schedule.getD s24.2.2.2.2.2.toNat default).toNat default).getD (X_3_int.get (⟨s24.2.2.1, s24.2.2.2.1, s24.2.2.2.2.1⟩ : X_3_int) (schedule.getD s24.2.2.2.2.2.toNat default)).toNat default).Reg), I (((p.getD (schedule.getD s24.2.2.2.2.2.toNat default).toNat default).getD (X_3_int.get (⟨s24.2.2.1, s24.2.2.2.1, s24.2.2.2.2.1⟩ : X_3_int) (schedule.getD s24.2.2.2.2.2.toNat default)).toNat default).Val)]]⟩ :: bE false u45 1 3 ((s24.2.1.getD ((((p.getD (schedule.getD s24.2.2.2.2.2.toNat default).toNat default).getD (X_3_int.get (⟨s24.2.2.1, s24.2.2.2.1, s24.2.2.2.2.1⟩ : X_3_int) (schedule.getD s24.2.2.2.2.2.toNat default)).toNat default).Loc).toNat) []).map cI) :: kk46 : AH)) (by simp : (s24.1.set (((v6.getD (schedule.getD s24.2.2.2.2.2.toNat default).toNat default).getD (X_3_int.get (⟨s24.2.2.1, s24.2.2.2.1, s24.2.2.2.2.1⟩ : X_3_int) (schedule.getD s24.2.2.2.2.2.toNat default)).toNat default).toNat) ((s24.2.1.getD ((((p.getD (schedule.getD s24.2.2.2.2.2.toNat default).toNat default).getD (X_3_int.get (⟨s24.2.2.1, s24.2.2.2.1, s24.2.2.2.2.1⟩ : X_3_int) (schedule.getD s24.2.2.2.2.2.toNat default)).toNat default).Loc).toNat) []).getD ((((s24.2.1.getD ((((p.getD (schedule.getD s24.2.2.2.2.2.toNat default).toNat default).getD (X_3_int.get (⟨s24.2.2.1, s24.2.2.2.1, s24.2.2.2.2.1⟩ : X_3_int) (schedule.getD s24.2.2.2.2.2.toNat default)).toNat default).Loc).toNat) []).length : Int) - (1 : Int)).toNat) default)).length = s24.1.length)) (wkC rfl (wkC rfl (wkC rfl (wkC rfl (wkC rfl (wkC rfl (wkC rfl (wkC rfl (wkC rfl (wkC rfl (wkC rfl wkN)))))))))))⟩
      ·replace h := condF q51 h
       refine T.skip ?_
       obtain rfl := osi h
       exact ⟨((b27, u26), (y30, kk46, u29), (b44, u45)), ⟨n28, hX47, n48⟩, cutW rfl (wkC rfl (wkC rfl (wkC rfl (wkC rfl (wkC rfl (wkC rfl (wkC rfl (wkC rfl (wkC rfl (wkC rfl (wkC rfl wkN)))))))))))⟩
  ·replace h := condF q33 h
   refine T.exit ?_
   refine ⟨_, (osi h).symm, fun h => ?_⟩
   replace h := congrArg some h
   obtain rfl := osi h
   exact ⟨((b27, u26), (y30, kk31, u29)), ⟨n28, hN32⟩, cutW rfl (wkC rfl (wkC rfl wkN))⟩
theorem F_laws_eqIntSS_P (a : List (List Int)) (b : List (List Int)) {q : Bool} (h : F_laws_eqIntSS a b = some q) : PCall Try.prog 65 [eL (cL cI) a, eL (cL cI) b] (Bo q) := by
 refine PCall.mkT Try.func65 rfl (by kernel_rfl) rfl (by kernel_rfl) (e0 := envOf [(0, eL (cL cI) a), (1, eL (cL cI) b)]) (wkC rfl (wkC rfl wkN)) ?_
 refine T.seq ?_
 refine T.region ?_
 refine oN (EvN.asg (Bo false) rfl) ?_
 refine TO.nil ?_
 refine T.seq ?_
 refine T.seq ?_
 refine T.region ?_
 refine oN (EvN.mv (eL (cL cI) a) rfl) ?_
 refine oN (EvN.lenL sl37 rfl) ?_
 refine oN (EvN.mv (eL (cL cI) b) rfl) ?_
 refine oN (EvN.lenL sl37 rfl) ?_
 refine oN (EvN.ine rfl rfl) ?_
 refine TO.nil ?_
 refine T.cond rfl (fun q1 => ?_) (fun q1 => ?_)
 ·replace h := condT q1 h
  refine T.seq ?_
  refine T.clean (H0 := []) (e0 := envOf []) rfl wkN ?_
  refine T.region ?_
  refine oN (EvN.asg (Bo false) rfl) ?_
  refine TO.nil ?_
  refine T.ret ?_
  obtain rfl := osi h
  repeat (first|refine retS ?_|refine retB ?_)
  exact Fin.ret (vs := [Bo false]) (.cons (.tmp rfl) .nil) (.of_isF 9 _ rfl)
 ·replace h := condF q1 h
  refine T.skip ?_
  obtain ⟨Ks2, es2, ws2, h, ks2⟩ := sumL h
  refine T.join (S := Unit) (G := Unit) (fun s2 => Ks2 s2 = some q) (fun s2 gh => True) (fun s2 gh => []) (fun s2 gh => []) (fun s2 gh h hg => ?_) ?_
  ·clear ks2
   subst es2
   refine T.seq ?_
   refine T.region ?_
   refine oN (EvN.asg (Bo true) rfl) ?_
   refine TO.nil ?_
   refine T.ret ?_
   obtain rfl := osi h
   repeat (first|refine retS ?_|refine retB ?_)
   exact Fin.ret (vs := [Bo true]) (.cons (.tmp rfl) .nil) (.of_isF 9 _ rfl)
  ·refine T.seq ?_
   refine T.clean (H0 := []) (e0 := envOf [(0, eL (cL cI) a), (1, eL (cL cI) b)]) rfl (wkC rfl (wkC rfl wkN)) ?_
   refine T.region ?_
   refine oN (EvN.asg (I (0 : Int)) rfl) ?_
   refine TO.nil ?_
   refine T.block ?_
   refine T.loop (S := Int) (G := Unit) (F_laws_eqIntSS_L6 a b) (fun s5 gh => True) (fun s5 gh => [(5, I s5), (0, eL (cL cI) a), (1, eL (cL cI) b)]) (fun s5 gh => []) (s0 := (0 : Int)) () h trivial (cutW rfl (wkC rfl (wkC rfl (wkC rfl wkN)))) (fun s5 gh ws5 h hg => ?_)
   refine T.seq ?_
   refine T.seq ?_
   refine T.region ?_
   refine oN (EvN.mv (I s5) rfl) ?_
   refine oN (EvN.mv (eL (cL cI) a) rfl) ?_
   refine oN (EvN.lenL sl37 rfl) ?_
   refine oN (EvN.ilt rfl rfl) ?_
   refine TO.nil ?_
   refine T.cond rfl (fun q7 => ?_) (fun q7 => ?_)
   ·replace h := condT q7 h
    refine T.skip ?_
    refine T.seq ?_
    refine T.block ?_
    refine T.seq ?_
    refine T.drawF (fun _ => ([], false)) (by kernel_rfl) (by kernel_rfl) ?_
    refine fN rfl (EvN.mv (eL (cL cI) a) rfl) ?_
    refine fN rfl (EvN.mv (I s5) rfl) ?_
    obtain ⟨g8, h⟩ := gdD h
    refine fN rfl (EvN.ixL sl37 rfl rfl g8 (fun _ => rfl)) ?_
    refine fN rfl (EvN.loadfp (eL cI (a.getD s5.toNat default)) ty23 rfl rfl) ?_
    refine fN rfl (EvN.mv (eL (cL cI) b) rfl) ?_
    refine fN rfl (EvN.mv (I s5) rfl) ?_
    obtain ⟨g9, h⟩ := gdD h
    refine fN rfl (EvN.ixL sl37 rfl rfl g9 (fun _ => rfl)) ?_
    refine fN rfl (EvN.loadfp (eL cI (b.getD s5.toNat default)) ty23 rfl rfl) ?_
    obtain ⟨v10, cv10, h⟩ := bindL h
    refine fN rfl (EvN.call rfl rfl rfl (F_laws_eqIntS_P (a.getD s5.toNat default) (b.getD s5.toNat default) cv10) rfl) ?_
    refine fN rfl (EvN.not rfl) ?_
    refine TF.nil ?_
    refine T.cond rfl (fun q11 => ?_) (fun q11 => ?_)
    ·replace h := condT q11 h
     refine T.seq ?_
     refine T.clean (H0 := []) (e0 := envOf []) rfl wkN ?_
     refine T.region ?_
     refine oN (EvN.asg (Bo false) rfl) ?_
     refine TO.nil ?_
     refine T.ret ?_
     refine ⟨_, (osi h).symm, fun h => ?_⟩
     replace h := congrArg some h
     obtain rfl := osi h
     replace h := congrArg some (show _ = _ from ks2)
     obtain rfl := osi h
     repeat (first|refine retS ?_|refine retB ?_)
     exact Fin.ret (vs := [Bo false]) (.cons (.tmp rfl) .nil) (.of_isF 9 _ rfl)
    ·replace h := condF q11 h
     refine T.skip ?_
     refine T.clean (H0 := []) (e0 := envOf [(5, I s5), (0, eL (cL cI) a), (1, eL (cL cI) b)]) rfl (wkC rfl (wkC rfl (wkC rfl wkN))) ?_
     refine T.region ?_
     refine oN (EvN.mv (I s5) rfl) ?_
     obtain ⟨g12, h⟩ := gdW h
     refine oN (EvN.add rfl rfl g12) ?_
     refine oN (EvN.asg (I (s5 + (1 : Int))) rfl) ?_
     refine TO.nil ?_
     obtain rfl := osi h
     exact ⟨(s5 + (1 : Int)), (), rfl, trivial, cutW rfl (wkC rfl (wkC rfl (wkC rfl wkN)))⟩
   ·replace h := condF q7 h
    refine T.exit ?_
    refine ⟨_, (osi h).symm, fun h => ?_⟩
    replace h := congrArg some h
    obtain rfl := osi h
    exact ⟨(), (), ks2, trivial, cutW rfl wkN⟩
theorem F_laws_eqExec_P (a : Ximpl_Exec) (b : Ximpl_Exec) {q : Bool} (h : F_laws_eqExec a b = some q) : PCall Try.prog 27 [.agg (Ximpl_Exec.c a), .agg (Ximpl_Exec.c b)] (Bo q) := by
 refine PCall.mkT Try.func27 rfl (by kernel_rfl) rfl (by kernel_rfl) (e0 := envOf [(0, .agg (Ximpl_Exec.c a)), (1, .agg (Ximpl_Exec.c b))]) (wkC rfl (wkC rfl wkN)) ?_
 refine T.seq ?_
 refine T.region ?_
 refine oN (EvN.bxF [eL cI a.From, eL (cL cI) a.Order] rfl rfl rfl) ?_
 refine oN (EvN.bxF [eL cI b.From, eL (cL cI) b.Order] rfl rfl rfl) ?_
 refine oN (EvN.asg (Bo false) rfl) ?_
 refine TO.nil ?_
 refine T.seq ?_
 refine T.seq ?_
 refine T.region ?_
 refine oN (EvN.fafp Try.underlying43 rfl (by kernel_rfl) rfl) ?_
 refine oN (EvN.loadfp (eL cI a.From) ty23 rfl rfl) ?_
 refine oN (EvN.fafp Try.underlying43 rfl (by kernel_rfl) rfl) ?_
 refine oN (EvN.loadfp (eL cI b.From) ty23 rfl rfl) ?_
 obtain ⟨v1, cv1, h⟩ := bindL h
 refine oN (EvN.call rfl rfl rfl (F_laws_eqIntS_P a.From b.From cv1) rfl) ?_
 refine oN (EvN.not rfl) ?_
 refine TO.nil ?_
 refine T.cond rfl (fun q2 => ?_) (fun q2 => ?_)
 ·replace h := condT q2 h
  refine T.seq ?_
  refine T.clean (H0 := []) (e0 := envOf []) rfl wkN ?_
  refine T.region ?_
  refine oN (EvN.asg (Bo false) rfl) ?_
  refine TO.nil ?_
  refine T.ret ?_
  obtain rfl := osi h
  repeat (first|refine retS ?_|refine retB ?_)
  exact Fin.ret (vs := [Bo false]) (.cons (.tmp rfl) .nil) (.of_isF 9 _ rfl)
 ·replace h := condF q2 h
  refine T.skip ?_
  refine T.seq ?_
  refine T.seq ?_
  refine T.clean (H0 := []) (e0 := envOf [(3, .fp (Ximpl_Exec.c b) 0), (2, .fp (Ximpl_Exec.c a) 0)]) rfl (wkC rfl (wkC rfl wkN)) ?_
  refine T.region ?_
  refine oN (EvN.fafp Try.underlying43 rfl (by kernel_rfl) rfl) ?_
  refine oN (EvN.loadfp (eL (cL cI) a.Order) ty37 rfl rfl) ?_
  refine oN (EvN.fafp Try.underlying43 rfl (by kernel_rfl) rfl) ?_
  refine oN (EvN.loadfp (eL (cL cI) b.Order) ty37 rfl rfl) ?_
  obtain ⟨v3, cv3, h⟩ := bindL h
  refine oN (EvN.call rfl rfl rfl (F_laws_eqIntSS_P a.Order b.Order cv3) rfl) ?_
  refine oN (EvN.not rfl) ?_
  refine TO.nil ?_
  refine T.cond rfl (fun q4 => ?_) (fun q4 => ?_)
  ·replace h := condT q4 h
   refine T.seq ?_
   refine T.clean (H0 := []) (e0 := envOf []) rfl wkN ?_
   refine T.region ?_
   refine oN (EvN.asg (Bo false) rfl) ?_
   refine TO.nil ?_
   refine T.ret ?_
   obtain rfl := osi h
   repeat (first|refine retS ?_|refine retB ?_)
   exact Fin.ret (vs := [Bo false]) (.cons (.tmp rfl) .nil) (.of_isF 9 _ rfl)
  ·replace h := condF q4 h
   refine T.skip ?_
   refine T.seq ?_
   refine T.clean (H0 := []) (e0 := envOf []) rfl wkN ?_
   refine T.region ?_
   refine oN (EvN.asg (Bo true) rfl) ?_
   refine TO.nil ?_
   refine T.ret ?_
   obtain rfl := osi h
   repeat (first|refine retS ?_|refine retB ?_)
   exact Fin.ret (vs := [Bo true]) (.cons (.tmp rfl) .nil) (.of_isF 9 _ rfl)
theorem F_laws_heldIntS_P (a : List Int) (k_ : Int) {q : Int} (h : F_laws_heldIntS a k_ = some q) : PCall Try.prog 29 [eL cI a, I k_] (I q) := by
 refine PCall.mkT Try.func29 rfl (by kernel_rfl) rfl (by kernel_rfl) (e0 := envOf [(0, eL cI a), (1, I k_)]) (wkC rfl (wkC rfl wkN)) ?_
 refine T.seq ?_
 refine T.region ?_
 refine oN (EvN.asg (I (0 : Int)) rfl) ?_
 refine TO.nil ?_
 obtain ⟨Ks1, es1, ws1, h, ks1⟩ := sumL h
 refine T.join (S := Int) (G := Unit) (fun s1 => Ks1 s1 = some q) (fun s1 gh => True) (fun s1 gh => [(1, I s1)]) (fun s1 gh => []) (fun s1 gh h hg => ?_) ?_
 ·clear ks1
  subst es1
  refine T.seq ?_
  refine T.region ?_
  refine oN (EvN.mv (I s1) rfl) ?_
  refine oN (EvN.asg (I s1) rfl) ?_
  refine TO.nil ?_
  refine T.ret ?_
  obtain rfl := osi h
  repeat (first|refine retS ?_|refine retB ?_)
  exact Fin.ret (vs := [I s1]) (.cons (.tmp rfl) .nil) (.of_isF 9 _ rfl)
 ·refine T.seq ?_
  refine T.region ?_
  refine oN (EvN.asg (I (0 : Int)) rfl) ?_
  refine TO.nil ?_
  refine T.block ?_
  refine T.loop (S := Int × Int) (G := Unit) (F_laws_heldIntS_L5 a) (fun s4 gh => True) (fun s4 gh => [(5, I s4.1), (0, eL cI a), (1, I s4.2)]) (fun s4 gh => []) (s0 := ((0 : Int), k_)) () h trivial (cutW rfl (wkC rfl (wkC rfl (wkC rfl wkN)))) (fun s4 gh ws4 h hg => ?_)
  refine T.seq ?_
  refine T.seq ?_
  refine T.region ?_
  refine oN (EvN.mv (I s4.1) rfl) ?_
  refine oN (EvN.mv (eL cI a) rfl) ?_
  refine oN (EvN.lenL sl23 rfl) ?_
  refine oN (EvN.ilt rfl rfl) ?_
  refine TO.nil ?_
  refine T.cond rfl (fun q6 => ?_) (fun q6 => ?_)
  ·replace h := condT q6 h
   refine T.skip ?_
   refine T.seq ?_
   refine T.block ?_
   refine T.seq ?_
   refine T.seq ?_
   refine T.region ?_
   refine oN (EvN.mv (eL cI a) rfl) ?_
   refine oN (EvN.mv (I s4.1) rfl) ?_
   obtain ⟨g7, h⟩ := gdD h
   refine oN (EvN.ixL sl23 rfl rfl g7 (fun _ => rfl)) ?_
   refine oN (EvN.loadfp (I (a.getD s4.1.toNat default)) ty3 rfl rfl) ?_
   refine oN (EvN.mv (I s4.2) rfl) ?_
   refine oN (EvN.ine rfl rfl) ?_
   refine TO.nil ?_
   refine T.cond rfl (fun q8 => ?_) (fun q8 => ?_)
   ·replace h := condT q8 h
    refine T.seq ?_
    refine T.clean (H0 := []) (e0 := envOf []) rfl wkN ?_
    refine T.region ?_
    refine oN (EvN.asg (I (-1 : Int)) rfl) ?_
    refine TO.nil ?_
    refine T.ret ?_
    refine ⟨_, (osi h).symm, fun h => ?_⟩
    replace h := congrArg some h
    obtain rfl := osi h
    replace h := congrArg some (show _ = _ from ks1)
    obtain rfl := osi h
    repeat (first|refine retS ?_|refine retB ?_)
    exact Fin.ret (vs := [I (-1 : Int)]) (.cons (.tmp rfl) .nil) (.of_isF 9 _ rfl)
   ·replace h := condF q8 h
    refine T.skip ?_
    refine T.clean (H0 := []) (e0 := envOf [(5, I s4.1), (0, eL cI a), (1, I s4.2)]) rfl (wkC rfl (wkC rfl (wkC rfl wkN))) ?_
    refine T.region ?_
    refine oN (EvN.mv (I s4.2) rfl) ?_
    obtain ⟨g9, h⟩ := gdW h
    refine oN (EvN.add rfl rfl g9) ?_
    refine oN (EvN.asg (I (s4.2 + (1 : Int))) rfl) ?_
    refine TO.nil ?_
    refine T.region ?_
    refine oN (EvN.mv (I s4.1) rfl) ?_
    obtain ⟨g10, h⟩ := gdW h
    refine oN (EvN.add rfl rfl g10) ?_
    refine oN (EvN.asg (I (s4.1 + (1 : Int))) rfl) ?_
    refine TO.nil ?_
    obtain rfl := osi h
    exact ⟨((s4.1 + (1 : Int)), (s4.2 + (1 : Int))), (), rfl, trivial, cutW rfl (wkC rfl (wkC rfl (wkC rfl wkN)))⟩
  ·replace h := condF q6 h
   refine T.exit ?_
   refine ⟨_, (osi h).symm, fun h => ?_⟩
   replace h := congrArg some h
   obtain rfl := osi h
   exact ⟨s4.2, (), ks1, trivial, cutW rfl (wkC rfl wkN)⟩
theorem F_laws_heldIntSS_P (a : List (List Int)) (k_ : Int) {q : Int} (h : F_laws_heldIntSS a k_ = some q) : PCall Try.prog 56 [eL (cL cI) a, I k_] (I q) := by
 refine PCall.mkT Try.func56 rfl (by kernel_rfl) rfl (by kernel_rfl) (e0 := envOf [(0, eL (cL cI) a), (1, I k_)]) (wkC rfl (wkC rfl wkN)) ?_
 refine T.seq ?_
 refine T.region ?_
 refine oN (EvN.asg (I (0 : Int)) rfl) ?_
 refine TO.nil ?_
 obtain ⟨Ks1, es1, ws1, h, ks1⟩ := sumL h
 refine T.join (S := Int) (G := Unit) (fun s1 => Ks1 s1 = some q) (fun s1 gh => True) (fun s1 gh => [(1, I s1)]) (fun s1 gh => []) (fun s1 gh h hg => ?_) ?_
 ·clear ks1
  subst es1
  refine T.seq ?_
  refine T.region ?_
  refine oN (EvN.mv (I s1) rfl) ?_
  refine oN (EvN.asg (I s1) rfl) ?_
  refine TO.nil ?_
  refine T.ret ?_
  obtain rfl := osi h
  repeat (first|refine retS ?_|refine retB ?_)
  exact Fin.ret (vs := [I s1]) (.cons (.tmp rfl) .nil) (.of_isF 9 _ rfl)
 ·refine T.seq ?_
  refine T.region ?_
  refine oN (EvN.asg (I (0 : Int)) rfl) ?_
  refine TO.nil ?_
  refine T.block ?_
  refine T.loop (S := Int × Int) (G := Unit) (F_laws_heldIntSS_L5 a) (fun s4 gh => True) (fun s4 gh => [(5, I s4.1), (0, eL (cL cI) a), (1, I s4.2)]) (fun s4 gh => []) (s0 := ((0 : Int), k_)) () h trivial (cutW rfl (wkC rfl (wkC rfl (wkC rfl wkN)))) (fun s4 gh ws4 h hg => ?_)
  refine T.seq ?_
  refine T.seq ?_
  refine T.region ?_
  refine oN (EvN.mv (I s4.1) rfl) ?_
  refine oN (EvN.mv (eL (cL cI) a) rfl) ?_
  refine oN (EvN.lenL sl37 rfl) ?_
  refine oN (EvN.ilt rfl rfl) ?_
  refine TO.nil ?_
  refine T.cond rfl (fun q6 => ?_) (fun q6 => ?_)
  ·replace h := condT q6 h
   refine T.skip ?_
   refine T.seq ?_
   refine T.block ?_
   refine T.seq ?_
   refine T.region ?_
   refine oN (EvN.mv (eL (cL cI) a) rfl) ?_
   refine oN (EvN.mv (I s4.1) rfl) ?_
   obtain ⟨g7, h⟩ := gdD h
   refine oN (EvN.ixL sl37 rfl rfl g7 (fun _ => rfl)) ?_
   refine oN (EvN.loadfp (eL cI (a.getD s4.1.toNat default)) ty23 rfl rfl) ?_
   refine oN (EvN.mv (I s4.2) rfl) ?_
   obtain ⟨v8, cv8, h⟩ := bindL h
   refine oN (EvN.call rfl rfl rfl (F_laws_heldIntS_P (a.getD s4.1.toNat default) s4.2 cv8) rfl) ?_
   refine oN (EvN.asg (I v8) rfl) ?_
   refine TO.nil ?_
   refine T.seq ?_
   refine T.clean (H0 := []) (e0 := envOf [(1, I v8), (5, I s4.1), (0, eL (cL cI) a)]) rfl (wkC rfl (wkC rfl (wkC rfl wkN))) ?_
   refine T.region ?_
   refine oN (EvN.mv (I v8) rfl) ?_
   refine oN (EvN.ilt rfl rfl) ?_
   refine TO.nil ?_
   refine T.cond rfl (fun q9 => ?_) (fun q9 => ?_)
   ·replace h := condT q9 h
    refine T.seq ?_
    refine T.region ?_
    refine oN (EvN.asg (I (-1 : Int)) rfl) ?_
    refine TO.nil ?_
    refine T.ret ?_
    refine ⟨_, (osi h).symm, fun h => ?_⟩
    replace h := congrArg some h
    obtain rfl := osi h
    replace h := congrArg some (show _ = _ from ks1)
    obtain rfl := osi h
    repeat (first|refine retS ?_|refine retB ?_)
    exact Fin.ret (vs := [I (-1 : Int)]) (.cons (.tmp rfl) .nil) (.of_isF 9 _ rfl)
   ·replace h := condF q9 h
    refine T.skip ?_
    refine T.region ?_
    refine oN (EvN.mv (I s4.1) rfl) ?_
    obtain ⟨g10, h⟩ := gdW h
    refine oN (EvN.add rfl rfl g10) ?_
    refine oN (EvN.asg (I (s4.1 + (1 : Int))) rfl) ?_
    refine TO.nil ?_
    obtain rfl := osi h
    exact ⟨((s4.1 + (1 : Int)), v8), (), rfl, trivial, cutW rfl (wkC rfl (wkC rfl (wkC rfl wkN)))⟩
  ·replace h := condF q6 h
   refine T.exit ?_
   refine ⟨_, (osi h).symm, fun h => ?_⟩
   replace h := congrArg some h
   obtain rfl := osi h
   exact ⟨s4.2, (), ks1, trivial, cutW rfl (wkC rfl wkN)⟩
theorem F_laws_heldExec_P (a : Ximpl_Exec) (k_ : Int) {q : Int} (h : F_laws_heldExec a k_ = some q) : PCall Try.prog 34 [.agg (Ximpl_Exec.c a), I k_] (I q) := by
 refine PCall.mkT Try.func34 rfl (by kernel_rfl) rfl (by kernel_rfl) (e0 := envOf [(0, .agg (Ximpl_Exec.c a)), (1, I k_)]) (wkC rfl (wkC rfl wkN)) ?_
 refine T.seq ?_
 refine T.region ?_
 refine oN (EvN.bxF [eL cI a.From, eL (cL cI) a.Order] rfl rfl rfl) ?_
 refine oN (EvN.asg (I (0 : Int)) rfl) ?_
 refine TO.nil ?_
 refine T.seq ?_
 refine T.region ?_
 refine oN (EvN.fafp Try.underlying43 rfl (by kernel_rfl) rfl) ?_
 refine oN (EvN.loadfp (eL cI a.From) ty23 rfl rfl) ?_
 refine oN (EvN.mv (I k_) rfl) ?_
 obtain ⟨v1, cv1, h⟩ := bindL h
 refine oN (EvN.call rfl rfl rfl (F_laws_heldIntS_P a.From k_ cv1) rfl) ?_
 refine oN (EvN.asg (I v1) rfl) ?_
 refine TO.nil ?_
 refine T.seq ?_
 refine T.seq ?_
 refine T.clean (H0 := []) (e0 := envOf [(1, I v1), (2, .fp (Ximpl_Exec.c a) 0)]) rfl (wkC rfl (wkC rfl wkN)) ?_
 refine T.region ?_
 refine oN (EvN.mv (I v1) rfl) ?_
 refine oN (EvN.ilt rfl rfl) ?_
 refine TO.nil ?_
 refine T.cond rfl (fun q2 => ?_) (fun q2 => ?_)
 ·replace h := condT q2 h
  refine T.seq ?_
  refine T.region ?_
  refine oN (EvN.asg (I (-1 : Int)) rfl) ?_
  refine TO.nil ?_
  refine T.ret ?_
  obtain rfl := osi h
  repeat (first|refine retS ?_|refine retB ?_)
  exact Fin.ret (vs := [I (-1 : Int)]) (.cons (.tmp rfl) .nil) (.of_isF 9 _ rfl)
 ·replace h := condF q2 h
  refine T.skip ?_
  refine T.seq ?_
  refine T.region ?_
  refine oN (EvN.fafp Try.underlying43 rfl (by kernel_rfl) rfl) ?_
  refine oN (EvN.loadfp (eL (cL cI) a.Order) ty37 rfl rfl) ?_
  refine oN (EvN.mv (I v1) rfl) ?_
  obtain ⟨v3, cv3, h⟩ := bindL h
  refine oN (EvN.call rfl rfl rfl (F_laws_heldIntSS_P a.Order v1 cv3) rfl) ?_
  refine oN (EvN.asg (I v3) rfl) ?_
  refine TO.nil ?_
  refine T.seq ?_
  refine T.seq ?_
  refine T.clean (H0 := []) (e0 := envOf [(1, I v3)]) rfl (wkC rfl wkN) ?_
  refine T.region ?_
  refine oN (EvN.mv (I v3) rfl) ?_
  refine oN (EvN.ilt rfl rfl) ?_
  refine TO.nil ?_
  refine T.cond rfl (fun q4 => ?_) (fun q4 => ?_)
  ·replace h := condT q4 h
   refine T.seq ?_
   refine T.region ?_
   refine oN (EvN.asg (I (-1 : Int)) rfl) ?_
   refine TO.nil ?_
   refine T.ret ?_
   obtain rfl := osi h
   repeat (first|refine retS ?_|refine retB ?_)
   exact Fin.ret (vs := [I (-1 : Int)]) (.cons (.tmp rfl) .nil) (.of_isF 9 _ rfl)
  ·replace h := condF q4 h
   refine T.skip ?_
   refine T.seq ?_
   refine T.region ?_
   refine oN (EvN.mv (I v3) rfl) ?_
   refine oN (EvN.asg (I v3) rfl) ?_
   refine TO.nil ?_
   refine T.ret ?_
   obtain rfl := osi h
   repeat (first|refine retS ?_|refine retB ?_)
   exact Fin.ret (vs := [I v3]) (.cons (.tmp rfl) .nil) (.of_isF 9 _ rfl)
end Go.Proofs.Ytlmjnhnpahicmaa
