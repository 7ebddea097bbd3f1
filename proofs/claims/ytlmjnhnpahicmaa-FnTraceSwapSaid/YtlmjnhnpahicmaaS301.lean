/-
 The program's code computes the functions over plain values; printed by lift.py. No conditions.
-/
import Derived.Test.YtlmjnhnpahicmaaS30d
import Derived.Test.YtlmjnhnpahicmaaSf
import Derived.Test.YtlmjnhnpahicmaaMu2
import Derived.Test.YtlmjnhnpahicmaaS263
import Derived.Test.YtlmjnhnpahicmaaSQ1
import Derived.Test.YtlmjnhnpahicmaaSR1
namespace Go.Proofs.Ytlmjnhnpahicmaa
open Go.RowKit
set_option maxRecDepth 100000
theorem F_spec_l3Schedule_P (r_ : Xspec_l17Rd) (p : List (List ZIn)) (ver0 : Nat) {q : Xspec_l17Rd × (List Int)} (h : F_spec_l3Schedule r_ p = some q) : ACall Try.prog 75 [.hp 0 ver0 2 0 0, eL (cL ZIn.c) p] [some ⟨ver0, 2, 139, [[eL cY r_.b, I r_.p]]⟩] (eL cI q.2) [some ⟨ver0, 2, 139, [[eL cY q.1.b, I q.1.p]]⟩] := by
 refine ACall.mkT Try.func75 rfl (by kernel_rfl) rfl (by kernel_rfl) (e0 := envOf [(0, .hp 0 ver0 2 0 0), (1, eL (cL ZIn.c) p)]) (wkC rfl (wkC rfl wkN)) ?_
 refine T.seq ?_
 refine T.region ?_
 refine oN (EvN.asg (.nil) rfl) ?_
 refine TO.nil ?_
 refine T.seq ?_
 refine T.region ?_
 refine oA (EvA.mkO (c := cI) ([] : List Int) [] sl23 rfl rfl rfl (fun _ => rfl) rfl rfl) ?_
 refine oN (EvN.asg (hS false 1 0 1 (([] : List Int).length)) rfl) ?_
 refine TO.nil ?_
 refine T.seq ?_
 refine T.region ?_
 refine oN (EvN.asg (I (0 : Int)) rfl) ?_
 refine TO.nil ?_
 obtain ⟨s1, h, ks1⟩ := bindL h
 refine T.joinF (G := Nat) (fun gh => True) (fun gh => [(6, I s1.2), (5, hS false 1 gh 1 s1.1.length), (0, .hp 0 ver0 2 0 0), (1, eL (cL ZIn.c) p)]) (fun gh => [some ⟨ver0, 2, 139, [[eL cY r_.b, I r_.p]]⟩, bE false gh 1 3 (s1.1.map cI)]) (fun u13 hg => ?_) ?_
 ·clear h
  have h := ks1
  clear ks1
  refine T.seq ?_
  refine T.region ?_
  refine oA (EvA.mkO (c := cI) ([] : List Int) [] sl23 rfl rfl rfl (fun _ => rfl) rfl rfl) ?_
  refine oN (EvN.asg (hS false 2 0 1 (([] : List Int).length)) rfl) ?_
  refine TO.nil ?_
  obtain ⟨s14, h, ks14⟩ := bindL h
  refine T.joinF (G := Nat × Nat) (fun gh => True) (fun gh => [(8, hS false 2 gh.2 1 s14.2.2.2.length), (0, .hp 0 ver0 2 0 0)]) (fun gh => [some ⟨ver0, 2, 139, [[eL cY s14.1, I s14.2.1]]⟩, bE false gh.1 1 3 (s14.2.2.1.map cI), bE false gh.2 1 3 (s14.2.2.2.map cI)]) (fun gh hg => ?_) ?_
  ·clear h
   have h := ks14
   clear ks14
   obtain ⟨u37, u38⟩ := gh
   obtain ⟨s39, h, ks39⟩ := bindL h
   refine T.joinF (G := Unit) (fun gh => True) (fun gh => [(8, eL cI s39.2.2)]) (fun gh => [some ⟨ver0, 2, 139, [[eL cY s39.1, I s39.2.1]]⟩, bE false u37 1 3 (s14.2.2.1.map cI)]) (fun gh hg => ?_) ?_
   ·clear h
    have h := ks39
    clear ks39
    refine T.seq ?_
    refine T.region ?_
    refine oN (EvN.mv (eL cI s39.2.2) rfl) ?_
    refine oN (EvN.asg (eL cI s39.2.2) rfl) ?_
    refine TO.nil ?_
    refine T.ret ?_
    obtain rfl := osi h
    repeat (first|refine retS ?_|refine retB ?_)
    exact ⟨envOf [(4, eL cI s39.2.2)], [some ⟨ver0, 2, 139, [[eL cY ((⟨s39.1, s39.2.1⟩ : Xspec_l17Rd).b), I ((⟨s39.1, s39.2.1⟩ : Xspec_l17Rd).p)]]⟩], cutS rfl (.cons (.row (.cons (.fz (.of_isF 9 _ rfl)) (.cons (.fz (.of_isF 9 _ rfl)) .nil))) .nil) (stl_cons (.fz (.of_isF 9 _ rfl)) stl_nil), Fin.ret (vs := [eL cI s39.2.2]) (.cons (.tmp rfl) .nil) ⟨rfl, rfl⟩⟩
   ·clear ks39
    refine T.seq ?_
    refine T.region ?_
    refine oN (EvN.mv (.hp 0 ver0 2 0 0) rfl) ?_
    obtain ⟨v40, cv40, h⟩ := bindL h
    refine oA (EvA.call rfl rfl rfl ((F_spec_l17Rd_pick_P (⟨s14.1, s14.2.1⟩ : Xspec_l17Rd) (16 : Int) ver0 cv40).one 0 rfl (.cons (.hp rfl) (.cons (.pF rfl) .nil)) (rowsF_row rfl) (rowsF_row rfl) rfl)) ?_
    refine TO.nil ?_
    refine T.block ?_
    refine T.seq ?_
    refine T.region ?_
    refine oN (EvN.ieq rfl rfl) ?_
    refine oN (EvN.asg (Bo (v40.2 == (0 : Int))) rfl) ?_
    refine TO.nil ?_
    refine T.cond rfl (fun q41 => ?_) (fun q41 => ?_)
    ·replace h := condT q41 h
     refine T.region ?_
     refine oN (EvN.mv (hS false 2 u38 1 s14.2.2.2.length) rfl) ?_
     refine oN (EvN.mv (.hp 0 ver0 2 0 0) rfl) ?_
     refine oN (EvN.mkF (c := cI) ([(0 : Int), (3 : Int), (-1 : Int)] : List Int) [[I (0 : Int)], [I (3 : Int)], [I (-1 : Int)]] sl23 rfl rfl rfl (fun _ => rfl) (fun _ => rfl) rfl) ?_
     obtain ⟨v42, cv42, h⟩ := bindL h
     refine oA (EvA.call rfl rfl rfl ((F_spec_l17Rd_num_P (⟨v40.1.b, v40.1.p⟩ : Xspec_l17Rd) ([(0 : Int), (3 : Int), (-1 : Int)] : List Int) ver0 cv42).one 0 rfl (.cons (.hp rfl) (.cons (.pF rfl) .nil)) (rowsF_row rfl) (rowsF_row rfl) rfl)) ?_
     refine oN (EvN.mkF (c := cI) ([v42.2] : List Int) [[I v42.2]] sl23 rfl rfl rfl (fun _ => rfl) (fun _ => rfl) rfl) ?_
     obtain ⟨g43, h⟩ := gdL h
     refine oA (EvA.app1 (g := false) (l := s14.2.2.2) v42.2 sl23 (by kernel_rfl) rfl rfl rfl nofun (SrcOk.fz (l := ([v42.2] : List Int)) rfl (fun _ => rfl)) g43) ?_
     refine oN (EvN.asg (hS false 2 (u38 + 1) 1 ((s14.2.2.2 ++ [v42.2]).length)) rfl) ?_
     refine TO.nil ?_
     obtain rfl := osi h
     exact ⟨(), trivial, cutS rfl (.cons (.row (.cons (.fz (.of_isF 9 _ rfl)) (.cons (.fz (.of_isF 9 _ rfl)) .nil))) (.cons (.list (g := false) (ver := u37) (l := s14.2.2.1) (fun _ => rfl)) .nil)) (stl_cons (.fz (Fz.own (g := false) (ver := u38 + 1) (l := (s14.2.2.2 ++ [v42.2])) rfl rfl rfl nofun (fun _ => rfl))) stl_nil)⟩
    ·replace h := condF q41 h
     refine T.seq ?_
     refine T.region ?_
     refine oN (EvN.ieq rfl rfl) ?_
     refine oN (EvN.asg (Bo (v40.2 == (1 : Int))) rfl) ?_
     refine TO.nil ?_
     refine T.cond rfl (fun q44 => ?_) (fun q44 => ?_)
     ·replace h := condT q44 h
      refine T.seq ?_
      refine T.clean (H0 := [some ⟨ver0, 2, 139, [[eL cY v40.1.b, I v40.1.p]]⟩, bE false u37 1 3 (s14.2.2.1.map cI), bE false u38 1 3 (s14.2.2.2.map cI)]) (e0 := envOf [(8, hS false 2 u38 1 s14.2.2.2.length)]) rfl (wkC rfl wkN) ?_
      refine T.region ?_
      refine oN (EvN.mv (hS false 2 u38 1 s14.2.2.2.length) rfl) ?_
      refine oN (EvN.lenO (g := false) sl23 rfl nofun) ?_
      refine oN (EvN.igt rfl rfl) ?_
      refine TO.nil ?_
      refine T.cond rfl (fun q45 => ?_) (fun q45 => ?_)
      ·replace h := condT q45 h
       refine T.region ?_
       refine oN (EvN.mv (hS false 2 u38 1 s14.2.2.2.length) rfl) ?_
       refine TO.cut (e0 := envOf [(78, eL cI s14.2.2.2)]) (H0 := [some ⟨ver0, 2, 139, [[eL cY v40.1.b, I v40.1.p]]⟩, bE false u37 1 3 (s14.2.2.1.map cI)]) (cutS rfl (.cons (.row (.cons (.fz (.of_isF 9 _ rfl)) (.cons (.fz (.of_isF 9 _ rfl)) .nil))) (.cons (.list (g := false) (ver := u37) (l := s14.2.2.1) (fun _ => rfl)) .nil)) (stl_cons (.fz (Fz.own (g := false) (ver := u38) (l := s14.2.2.2) rfl rfl rfl nofun (fun _ => rfl))) stl_nil)) ?_
       obtain ⟨g46, h⟩ := gdD h
       refine oN (EvN.slL sl23 rfl (.yes rfl) .no g46 (fun _ => rfl)) ?_
       refine oN (EvN.asg (eL cI ((s14.2.2.2.drop (1 : Int).toNat).take ((s14.2.2.2.length : Int).toNat - (1 : Int).toNat))) rfl) ?_
       refine TO.nil ?_
       obtain rfl := osi h
       exact ⟨(), trivial, cutW rfl (wkC rfl wkN)⟩
      ·replace h := condF q45 h
       refine T.skip ?_
       obtain rfl := osi h
       exact ⟨(), trivial, cutS rfl (.cons (.row (.cons (.fz (.of_isF 9 _ rfl)) (.cons (.fz (.of_isF 9 _ rfl)) .nil))) (.cons (.list (g := false) (ver := u37) (l := s14.2.2.1) (fun _ => rfl)) .nil)) (stl_cons (.fz (Fz.own (g := false) (ver := u38) (l := s14.2.2.2) rfl rfl rfl nofun (fun _ => rfl))) stl_nil)⟩
     ·replace h := condF q44 h
      refine T.skip ?_
      obtain rfl := osi h
      exact ⟨(), trivial, cutS rfl (.cons (.row (.cons (.fz (.of_isF 9 _ rfl)) (.cons (.fz (.of_isF 9 _ rfl)) .nil))) (.cons (.list (g := false) (ver := u37) (l := s14.2.2.1) (fun _ => rfl)) .nil)) (stl_cons (.fz (Fz.own (g := false) (ver := u38) (l := s14.2.2.2) rfl rfl rfl nofun (fun _ => rfl))) stl_nil)⟩
  ·clear ks14
   refine T.block ?_
   refine T.loop (S := (List Int) × Int × (List Int) × (List Int)) (G := Nat × Nat) (F_spec_l3Schedule_L20 p s1) (fun s19 gh => True) (fun s19 gh => [(8, hS false 2 gh.2 1 s19.2.2.2.length), (6, I s1.2), (5, hS false 1 gh.1 1 s19.2.2.1.length), (0, .hp 0 ver0 2 0 0), (1, eL (cL ZIn.c) p)]) (fun s19 gh => [some ⟨ver0, 2, 139, [[eL cY s19.1, I s19.2.1]]⟩, bE false gh.1 1 3 (s19.2.2.1.map cI), bE false gh.2 1 3 (s19.2.2.2.map cI)]) (s0 := (r_.b, r_.p, s1.1, ([] : List Int))) (u13, 0) h trivial (cutW rfl (wkC rfl (wkC rfl (wkC rfl (wkC rfl (wkC rfl wkN)))))) (fun s19 gh ws19 h hg => ?_)
   obtain ⟨u21, u22⟩ := gh
   refine T.seq ?_
   refine T.seq ?_
   refine T.region ?_
   refine oN (EvN.mv (hS false 2 u22 1 s19.2.2.2.length) rfl) ?_
   refine oN (EvN.lenO (g := false) sl23 rfl nofun) ?_
   refine oN (EvN.mv (I s1.2) rfl) ?_
   refine oN (EvN.ilt rfl rfl) ?_
   refine TO.nil ?_
   refine T.cond rfl (fun q23 => ?_) (fun q23 => ?_)
   ·replace h := condT q23 h
    refine T.skip ?_
    refine T.block ?_
    refine T.seq ?_
    refine T.region ?_
    refine oN (EvN.mv (.hp 0 ver0 2 0 0) rfl) ?_
    refine oN (EvN.mv (eL (cL ZIn.c) p) rfl) ?_
    refine oN (EvN.lenL sl27 rfl) ?_
    obtain ⟨v24, cv24, h⟩ := bindL h
    refine oA (EvA.call rfl rfl rfl ((F_spec_l17Rd_pick_P (⟨s19.1, s19.2.1⟩ : Xspec_l17Rd) (p.length : Int) ver0 cv24).one 0 rfl (.cons (.hp rfl) (.cons (.pF rfl) .nil)) (rowsF_row rfl) (rowsF_row rfl) rfl)) ?_
    refine oN (EvN.asg (I v24.2) rfl) ?_
    refine TO.nil ?_
    obtain ⟨s25, h, ks25⟩ := bindL h
    refine T.joinF (G := Unit) (fun gh => True) (fun gh => [(9, I s25), (8, hS false 2 u22 1 s19.2.2.2.length), (6, I s1.2), (5, hS false 1 u21 1 s19.2.2.1.length), (0, .hp 0 ver0 2 0 0), (1, eL (cL ZIn.c) p)]) (fun gh => [some ⟨ver0, 2, 139, [[eL cY v24.1.b, I v24.1.p]]⟩, bE false u21 1 3 (s19.2.2.1.map cI), bE false u22 1 3 (s19.2.2.2.map cI)]) (fun gh hg => ?_) ?_
    ·clear h
     have h := ks25
     clear ks25
     refine T.seq ?_
     refine T.region ?_
     refine oN (EvN.mv (hS false 1 u21 1 s19.2.2.1.length) rfl) ?_
     refine oN (EvN.mv (I s25) rfl) ?_
     refine oN (EvN.mv (hS false 1 u21 1 s19.2.2.1.length) rfl) ?_
     refine oN (EvN.mv (I s25) rfl) ?_
     obtain ⟨g34, h⟩ := gdD h
     refine oN (EvN.ixO (g := false) sl23 rfl rfl nofun g34) ?_
     refine oA (EvA.ldO (g := false) (l := s19.2.2.1) (I (s19.2.2.1.getD s25.toNat default)) ty3 rfl rfl nofun (toNat_lt' rfl g34) rfl) ?_
     obtain ⟨g35, h⟩ := gdW h
     refine oN (EvN.sub rfl rfl g35) ?_
     refine oN (EvN.ixO (g := false) sl23 rfl rfl nofun g34) ?_
     refine oV (EvA.stO (g := false) (l := s19.2.2.1) (cs := [I ((s19.2.2.1.getD s25.toNat default) - (1 : Int))]) ((s19.2.2.1.getD s25.toNat default) - (1 : Int)) ty3 rfl rfl rfl nofun (toNat_lt' rfl g34) rfl rfl rfl) ?_
     refine TO.nil ?_
     refine T.clean (H0 := [some ⟨ver0, 2, 139, [[eL cY v24.1.b, I v24.1.p]]⟩, bE false u21 1 3 ((s19.2.2.1.set s25.toNat ((s19.2.2.1.getD s25.toNat default) - (1 : Int))).map cI), bE false u22 1 3 (s19.2.2.2.map cI)]) (e0 := envOf [(9, I s25), (8, hS false 2 u22 1 s19.2.2.2.length), (6, I s1.2), (5, hS false 1 u21 1 s19.2.2.1.length), (0, .hp 0 ver0 2 0 0), (1, eL (cL ZIn.c) p)]) rfl (wkC rfl (wkC rfl (wkC rfl (wkC rfl (wkC rfl (wkC rfl wkN)))))) ?_
     refine T.region ?_
     refine oN (EvN.mv (hS false 2 u22 1 s19.2.2.2.length) rfl) ?_
     refine oN (EvN.mv (I s25) rfl) ?_
     refine oN (EvN.mkF (c := cI) ([s25] : List Int) [[I s25]] sl23 rfl rfl rfl (fun _ => rfl) (fun _ => rfl) rfl) ?_
     obtain ⟨g36, h⟩ := gdL h
     refine oA (EvA.app1 (g := false) (l := s19.2.2.2) s25 sl23 (by kernel_rfl) rfl rfl rfl nofun (SrcOk.fz (l := ([s25] : List Int)) rfl (fun _ => rfl)) g36) ?_
     refine oN (EvN.asg (hS false 2 (u22 + 1) 1 ((s19.2.2.2 ++ [s25]).length)) rfl) ?_
     refine TO.nil ?_
     obtain rfl := osi h
     exact ⟨(v24.1.b, v24.1.p, (s19.2.2.1.set s25.toNat ((s19.2.2.1.getD s25.toNat default) - (1 : Int))), (s19.2.2.2 ++ [s25])), (u21, u22 + 1), rfl, trivial, cutW rfl (wkC rfl (wkC rfl (wkC (congrArg (hS false 1 u21 1) (by simp : s19.2.2.1.length = (s19.2.2.1.set s25.toNat ((s19.2.2.1.getD s25.toNat default) - (1 : Int))).length)) (wkC rfl (wkC rfl wkN)))))⟩
    ·clear ks25
     refine T.block ?_
     refine T.loop (S := Int) (G := Unit) (F_spec_l3Schedule_L29 p s19) (fun s28 gh => True) (fun s28 gh => [(9, I s28), (8, hS false 2 u22 1 s19.2.2.2.length), (6, I s1.2), (5, hS false 1 u21 1 s19.2.2.1.length), (0, .hp 0 ver0 2 0 0), (1, eL (cL ZIn.c) p)]) (fun s28 gh => [some ⟨ver0, 2, 139, [[eL cY v24.1.b, I v24.1.p]]⟩, bE false u21 1 3 (s19.2.2.1.map cI), bE false u22 1 3 (s19.2.2.2.map cI)]) (s0 := v24.2) () h trivial (cutW rfl (wkC rfl (wkC rfl (wkC rfl (wkC rfl (wkC rfl (wkC rfl wkN))))))) (fun s28 gh ws28 h hg => ?_)
     refine T.seq ?_
     refine T.seq ?_
     refine T.region ?_
     refine oN (EvN.mv (hS false 1 u21 1 s19.2.2.1.length) rfl) ?_
     refine oN (EvN.mv (I s28) rfl) ?_
     obtain ⟨g30, h⟩ := gdD h
     refine oN (EvN.ixO (g := false) sl23 rfl rfl nofun g30) ?_
     refine oA (EvA.ldO (g := false) (l := s19.2.2.1) (I (s19.2.2.1.getD s28.toNat default)) ty3 rfl rfl nofun (toNat_lt' rfl g30) rfl) ?_
     refine oN (EvN.ieq rfl rfl) ?_
     refine TO.nil ?_
     refine T.cond rfl (fun q31 => ?_) (fun q31 => ?_)
     ·replace h := condT q31 h
      refine T.skip ?_
      refine T.block ?_
      refine T.region ?_
      refine oN (EvN.mv (I s28) rfl) ?_
      obtain ⟨g32, h⟩ := gdW h
      refine oN (EvN.add rfl rfl g32) ?_
      refine oN (EvN.mv (eL (cL ZIn.c) p) rfl) ?_
      refine oN (EvN.lenL sl27 rfl) ?_
      obtain ⟨g33, h⟩ := gdD h
      refine oN (EvN.rem rfl rfl g33) ?_
      refine oN (EvN.asg (I ((s28 + (1 : Int)).tmod (p.length : Int))) rfl) ?_
      refine TO.nil ?_
      obtain rfl := osi h
      exact ⟨((s28 + (1 : Int)).tmod (p.length : Int)), (), rfl, trivial, cutW rfl (wkC rfl (wkC rfl (wkC rfl (wkC rfl (wkC rfl (wkC rfl wkN))))))⟩
     ·replace h := condF q31 h
      refine T.exit ?_
      refine ⟨_, (osi h).symm, fun h => ?_⟩
      replace h := congrArg some h
      obtain rfl := osi h
      exact ⟨(), trivial, cutW rfl (wkC rfl (wkC rfl (wkC rfl (wkC rfl (wkC rfl (wkC rfl wkN))))))⟩
   ·replace h := condF q23 h
    refine T.exit ?_
    refine ⟨_, (osi h).symm, fun h => ?_⟩
    replace h := congrArg some h
    obtain rfl := osi h
    exact ⟨(u21, u22), trivial, cutW rfl (wkC rfl (wkC rfl wkN))⟩
 ·clear ks1
  refine T.seq ?_
  refine T.region ?_
  refine oN (EvN.asg (I (0 : Int)) rfl) ?_
  refine TO.nil ?_
  refine T.block ?_
  refine T.loop (S := (List Int) × Int × Int) (G := Nat) (F_spec_l3Schedule_L6 p) (fun s5 gh => True) (fun s5 gh => [(7, I s5.2.1), (6, I s5.2.2), (5, hS false 1 gh 1 s5.1.length), (0, .hp 0 ver0 2 0 0), (1, eL (cL ZIn.c) p)]) (fun s5 gh => [some ⟨ver0, 2, 139, [[eL cY r_.b, I r_.p]]⟩, bE false gh 1 3 (s5.1.map cI)]) (s0 := (([] : List Int), (0 : Int), (0 : Int))) 0 h trivial (cutW rfl (wkC rfl (wkC rfl (wkC rfl (wkC rfl (wkC rfl wkN)))))) (fun s5 u7 ws5 h hg => ?_)
  refine T.seq ?_
  refine T.seq ?_
  refine T.region ?_
  refine oN (EvN.mv (I s5.2.1) rfl) ?_
  refine oN (EvN.mv (eL (cL ZIn.c) p) rfl) ?_
  refine oN (EvN.lenL sl27 rfl) ?_
  refine oN (EvN.ilt rfl rfl) ?_
  refine TO.nil ?_
  refine T.cond rfl (fun q8 => ?_) (fun q8 => ?_)
  ·replace h := condT q8 h
   refine T.skip ?_
   refine T.seq ?_
   refine T.block ?_
   refine T.seq ?_
   refine T.region ?_
   refine oN (EvN.mv (hS false 1 u7 1 s5.1.length) rfl) ?_
   refine oN (EvN.mv (eL (cL ZIn.c) p) rfl) ?_
   refine oN (EvN.mv (I s5.2.1) rfl) ?_
   obtain ⟨g9, h⟩ := gdD h
   refine oN (EvN.ixL sl27 rfl rfl g9 (fun _ => rfl)) ?_
   refine oN (EvN.loadfp (eL ZIn.c (p.getD s5.2.1.toNat default)) ty57 rfl rfl) ?_
   refine oN (EvN.lenL sl57 rfl) ?_
   refine oN (EvN.mkF (c := cI) ([((p.getD s5.2.1.toNat default).length : Int)] : List Int) [[I ((p.getD s5.2.1.toNat default).length : Int)]] sl23 rfl rfl rfl (fun _ => rfl) (fun _ => rfl) rfl) ?_
   obtain ⟨g10, h⟩ := gdL h
   refine oA (EvA.app1 (g := false) (l := s5.1) ((p.getD s5.2.1.toNat default).length : Int) sl23 (by kernel_rfl) rfl rfl rfl nofun (SrcOk.fz (l := ([((p.getD s5.2.1.toNat default).length : Int)] : List Int)) rfl (fun _ => rfl)) g10) ?_
   refine oN (EvN.asg (hS false 1 (u7 + 1) 1 ((s5.1 ++ [((p.getD s5.2.1.toNat default).length : Int)]).length)) rfl) ?_
   refine TO.nil ?_
   refine T.clean (H0 := [some ⟨ver0, 2, 139, [[eL cY r_.b, I r_.p]]⟩, bE false (u7 + 1) 1 3 ((s5.1 ++ [((p.getD s5.2.1.toNat default).length : Int)]).map cI)]) (e0 := envOf [(5, hS false 1 (u7 + 1) 1 ((s5.1 ++ [((p.getD s5.2.1.toNat default).length : Int)]).length)), (7, I s5.2.1), (6, I s5.2.2), (0, .hp 0 ver0 2 0 0), (1, eL (cL ZIn.c) p)]) rfl (wkC rfl (wkC rfl (wkC rfl (wkC rfl (wkC rfl wkN))))) ?_
   refine T.region ?_
   refine oN (EvN.mv (I s5.2.2) rfl) ?_
   refine oN (EvN.mv (eL (cL ZIn.c) p) rfl) ?_
   refine oN (EvN.mv (I s5.2.1) rfl) ?_
   refine oN (EvN.ixL sl27 rfl rfl g9 (fun _ => rfl)) ?_
   refine oN (EvN.loadfp (eL ZIn.c (p.getD s5.2.1.toNat default)) ty57 rfl rfl) ?_
   refine oN (EvN.lenL sl57 rfl) ?_
   obtain ⟨g11, h⟩ := gdW h
   refine oN (EvN.add rfl rfl g11) ?_
   refine oN (EvN.asg (I (s5.2.2 + ((p.getD s5.2.1.toNat default).length : Int))) rfl) ?_
   refine TO.nil ?_
   refine T.clean (H0 := [some ⟨ver0, 2, 139, [[eL cY r_.b, I r_.p]]⟩, bE false (u7 + 1) 1 3 ((s5.1 ++ [((p.getD s5.2.1.toNat default).length : Int)]).map cI)]) (e0 := envOf [(6, I (s5.2.2 + ((p.getD s5.2.1.toNat default).length : Int))), (5, hS false 1 (u7 + 1) 1 ((s5.1 ++ [((p.getD s5.2.1.toNat default).length : Int)]).length)), (7, I s5.2.1), (0, .hp 0 ver0 2 0 0), (1, eL (cL ZIn.c) p)]) rfl (wkC rfl (wkC rfl (wkC rfl (wkC rfl (wkC rfl wkN))))) ?_
   refine T.region ?_
   refine oN (EvN.mv (I s5.2.1) rfl) ?_
   obtain ⟨g12, h⟩ := gdW h
   refine oN (EvN.add rfl rfl g12) ?_
   refine oN (EvN.asg (I (s5.2.1 + (1 : Int))) rfl) ?_
   refine TO.nil ?_
   obtain rfl := osi h
   exact ⟨((s5.1 ++ [((p.getD s5.2.1.toNat default).length : Int)]), (s5.2.1 + (1 : Int)), (s5.2.2 + ((p.getD s5.2.1.toNat default).length : Int))), u7 + 1, rfl, trivial, cutW rfl (wkC rfl (wkC rfl (wkC rfl (wkC rfl (wkC rfl wkN)))))⟩
  ·replace h := condF q8 h
   refine T.exit ?_
   refine ⟨_, (osi h).symm, fun h => ?_⟩
   replace h := congrArg some h
   obtain rfl := osi h
   exact ⟨u7, trivial, cutW rfl (wkC rfl (wkC rfl (wkC rfl (wkC rfl wkN))))⟩
theorem F_spec_DrawRunSchedule_P (code : List Int) {q : (List (List ZIn)) × (List Int)} (h : F_spec_DrawRunSchedule code = some q) : PCall Try.prog 70 [eL cY code] (.tup [eL (cL ZIn.c) q.1, eL cI q.2]) := by
 refine PCall.mkT Try.func70 rfl (by kernel_rfl) rfl (by kernel_rfl) (e0 := envOf [(0, eL cY code)]) (wkC rfl wkN) ?_
 refine T.seq ?_
 refine T.region ?_
 refine oN (EvN.asg (.nil) rfl) ?_
 refine oN (EvN.asg (.nil) rfl) ?_
 refine TO.nil ?_
 refine T.seq ?_
 refine T.region ?_
 refine oN (EvN.mv (eL cY code) rfl) ?_
 obtain ⟨v1, cv1, h⟩ := bindL h
 refine oA (EvA.call rfl rfl rfl ((F_spec_l17Open_P code cv1).fresh rfl (rowsF_row rfl) 0 rfl)) ?_
 refine oN (EvN.asg (.hp 0 0 2 0 0) rfl) ?_
 refine TO.nil ?_
 refine T.seq ?_
 refine T.region ?_
 refine oN (EvN.mv (.hp 0 0 2 0 0) rfl) ?_
 obtain ⟨v2, cv2, h⟩ := bindL h
 refine oA (EvA.call rfl rfl rfl ((F_spec_l1Draw_P (⟨v1.b, v1.p⟩ : Xspec_l17Rd) 0 cv2).one 0 rfl (.cons (.hp rfl) .nil) (rowsF_row rfl) (rowsF_row rfl) rfl)) ?_
 refine oN (EvN.asg (eL (cL ZIn.c) v2.2) rfl) ?_
 refine TO.nil ?_
 refine T.seq ?_
 refine T.clean (H0 := [some ⟨0, 2, 139, [[eL cY v2.1.b, I v2.1.p]]⟩]) (e0 := envOf [(5, eL (cL ZIn.c) v2.2), (4, .hp 0 0 2 0 0)]) rfl (wkC rfl (wkC rfl wkN)) ?_
 refine T.region ?_
 refine oN (EvN.mv (.hp 0 0 2 0 0) rfl) ?_
 refine oN (EvN.mv (eL (cL ZIn.c) v2.2) rfl) ?_
 obtain ⟨v3, cv3, h⟩ := bindL h
 refine oA (EvA.call rfl rfl rfl ((F_spec_l1Mutate_P (⟨v2.1.b, v2.1.p⟩ : Xspec_l17Rd) v2.2 0 cv3).one 0 rfl (.cons (.hp rfl) (.cons (.pF rfl) .nil)) (rowsF_row rfl) (rowsF_row rfl) rfl)) ?_
 refine oN (EvN.mv (.hp 0 0 2 0 0) rfl) ?_
 refine oN (EvN.mv (eL (cL ZIn.c) v2.2) rfl) ?_
 obtain ⟨v4, cv4, h⟩ := bindL h
 refine oA (EvA.call rfl rfl rfl ((F_spec_l3Schedule_P (⟨v3.1.b, v3.1.p⟩ : Xspec_l17Rd) v2.2 0 cv4).one 0 rfl (.cons (.hp rfl) (.cons (.pF rfl) .nil)) (rowsF_row rfl) (rowsF_row rfl) rfl)) ?_
 refine oN (EvN.asg (eL (cL ZIn.c) v3.2) rfl) ?_
 refine oN (EvN.asg (eL cI v4.2) rfl) ?_
 refine TO.nil ?_
 refine T.ret ?_
 obtain rfl := osi h
 repeat (first|refine retS ?_|refine retB ?_)
 exact Fin.ret (vs := [eL (cL ZIn.c) v3.2, eL cI v4.2]) (.cons (.tmp rfl) (.cons (.tmp rfl) .nil)) (.tupL (.cons (.of_isF 9 _ rfl) (.cons (.of_isF 9 _ rfl) .nil)))
theorem F_spec_DrawExecOf_P (code : List Int) {q : (List (List ZIn)) × (List Int)} (h : F_spec_DrawExecOf code = some q) : PCall Try.prog 35 [eL cY code] (.tup [eL (cL ZIn.c) q.1, eL cI q.2]) := by
 refine PCall.mkT Try.func35 rfl (by kernel_rfl) rfl (by kernel_rfl) (e0 := envOf [(0, eL cY code)]) (wkC rfl wkN) ?_
 refine T.seq ?_
 refine T.region ?_
 refine oN (EvN.asg (.nil) rfl) ?_
 refine oN (EvN.asg (.nil) rfl) ?_
 refine TO.nil ?_
 refine T.seq ?_
 refine T.region ?_
 refine oN (EvN.mv (eL cY code) rfl) ?_
 obtain ⟨v1, cv1, h⟩ := bindL h
 refine oN (EvN.call rfl rfl rfl (F_spec_DrawRunSchedule_P code cv1) rfl) ?_
 refine oN (EvN.ext (eL (cL ZIn.c) v1.1) rfl rfl) ?_
 refine oN (EvN.ext (eL cI v1.2) rfl rfl) ?_
 refine oN (EvN.asg (eL (cL ZIn.c) v1.1) rfl) ?_
 refine oN (EvN.asg (eL cI v1.2) rfl) ?_
 refine TO.nil ?_
 refine T.ret ?_
 obtain rfl := osi h
 repeat (first|refine retS ?_|refine retB ?_)
 exact Fin.ret (vs := [eL (cL ZIn.c) v1.1, eL cI v1.2]) (.cons (.tmp rfl) (.cons (.tmp rfl) .nil)) (.tupL (.cons (.of_isF 9 _ rfl) (.cons (.of_isF 9 _ rfl) .nil)))
theorem F_laws_FnTraceSwap_P (code : List Int) (more : List Int) {q : Bool} (h : F_laws_FnTraceSwap code more = some q) : PCall Try.prog 7 [eL cY code, eL cY more] (Bo q) := by
 refine PCall.mkT Try.func7 rfl (by kernel_rfl) rfl (by kernel_rfl) (e0 := envOf [(0, eL cY code), (1, eL cY more)]) (wkC rfl (wkC rfl wkN)) ?_
 refine T.seq ?_
 refine T.region ?_
 refine oN (EvN.asg (Bo false) rfl) ?_
 refine TO.nil ?_
 refine T.seq ?_
 refine T.seq ?_
 refine T.region ?_
 refine oN (EvN.mv (eL cY code) rfl) ?_
 refine oN (EvN.lenL sl52 rfl) ?_
 refine oN (EvN.igt rfl rfl) ?_
 refine oN (EvN.mv (Bo (decide ((1048576 : Int) < (code.length : Int)))) rfl) ?_
 obtain ⟨s1, h, ks1⟩ := bindL h
 refine TO.joinF (G := Unit) 4 (fun _ => True) (fun _ => [(25, Bo s1), (0, eL cY code), (1, eL cY more)]) (fun _ => []) ?_ (fun js1 => ?_)
 rotate_left
 ·clear ks1
  rcases bifL h with ⟨q2, h⟩ | ⟨q2, h⟩
  ·refine gS rfl q2 ?_
   refine gS rfl q2 ?_
   refine gS rfl q2 ?_
   refine oN (EvN.pickT rfl q2 (Bo true) rfl) ?_
   obtain rfl := osi h
   exact js1 _ _ ⟨(), trivial, cutW rfl (wkC rfl (wkC rfl (wkC rfl wkN)))⟩
  ·refine gN rfl q2 (EvN.mv (eL cY more) rfl) ?_
   refine gN rfl q2 (EvN.lenL sl52 rfl) ?_
   refine gN rfl q2 (EvN.igt rfl rfl) ?_
   refine oN (EvN.pickF rfl q2 (Bo (decide ((1048576 : Int) < (more.length : Int)))) rfl) ?_
   obtain rfl := osi h
   exact js1 _ _ ⟨(), trivial, cutW rfl (wkC rfl (wkC rfl (wkC rfl wkN)))⟩
 ·intro _ _
  replace h := ks1
  clear ks1
  refine TO.nil ?_
  refine T.cond rfl (fun q3 => ?_) (fun q3 => ?_)
  ·replace h := condT q3 h
   refine T.seq ?_
   refine T.region ?_
   refine oN (EvN.asg (Bo true) rfl) ?_
   refine TO.nil ?_
   refine T.ret ?_
   obtain rfl := osi h
   repeat (first|refine retS ?_|refine retB ?_)
   exact Fin.ret (vs := [Bo true]) (.cons (.tmp rfl) .nil) (.of_isF 9 _ rfl)
  ·replace h := condF q3 h
   refine T.skip ?_
   refine T.seq ?_
   refine T.region ?_
   refine oN (EvN.mv (eL cY code) rfl) ?_
   obtain ⟨v4, cv4, h⟩ := bindL h
   refine oN (EvN.call rfl rfl rfl (F_spec_DrawExecOf_P code cv4) rfl) ?_
   refine oN (EvN.mv (.tup [eL (cL ZIn.c) v4.1, eL cI v4.2]) rfl) ?_
   refine oN (EvN.ext (eL (cL ZIn.c) v4.1) rfl rfl) ?_
   refine oN (EvN.ext (eL cI v4.2) rfl rfl) ?_
   refine oN (EvN.asg (eL (cL ZIn.c) v4.1) rfl) ?_
   refine oN (EvN.asg (eL cI v4.2) rfl) ?_
   refine TO.nil ?_
   refine T.seq ?_
   refine T.clean (H0 := []) (e0 := envOf [(6, eL cI v4.2), (5, eL (cL ZIn.c) v4.1), (1, eL cY more)]) rfl (wkC rfl (wkC rfl (wkC rfl wkN))) ?_
   refine T.region ?_
   refine oN (EvN.mv (eL (cL ZIn.c) v4.1) rfl) ?_
   refine oN (EvN.mv (eL cI v4.2) rfl) ?_
   obtain ⟨v5, cv5, h⟩ := bindL h
   refine oN (EvN.call rfl rfl rfl (F_impl_ExecOf_P v4.1 v4.2 cv5) rfl) ?_
   refine oN (EvN.mv (.tup [.agg (Ximpl_Exec.c v5.1), Bo v5.2]) rfl) ?_
   refine oN (EvN.ext (.agg (Ximpl_Exec.c v5.1)) rfl rfl) ?_
   refine oN (EvN.ext (Bo v5.2) rfl rfl) ?_
   refine oA (EvA.al zs43 rfl rfl) ?_
   refine oV (EvA.st (cs := [eL cI v5.1.From, eL (cL cI) v5.1.Order]) ⟨0, 2, 43, [[eL cI v5.1.From, eL (cL cI) v5.1.Order]]⟩ ty43 rfl rfl rfl rfl rfl rfl rfl rfl rfl) ?_
   refine oN (EvN.asg (Bo v5.2) rfl) ?_
   refine TO.nil ?_
   refine T.seq ?_
   refine T.clean (H0 := [some ⟨0, 2, 43, [[eL cI v5.1.From, eL (cL cI) v5.1.Order]]⟩]) (e0 := envOf [(8, Bo v5.2), (7, .hp 0 0 2 0 0), (6, eL cI v4.2), (5, eL (cL ZIn.c) v4.1), (1, eL cY more)]) rfl (wkC rfl (wkC rfl (wkC rfl (wkC rfl (wkC rfl wkN))))) ?_
   refine T.region ?_
   refine oN (EvN.mv (eL (cL ZIn.c) v4.1) rfl) ?_
   refine oN (EvN.mv (eL cI v4.2) rfl) ?_
   obtain ⟨v6, cv6, h⟩ := bindL h
   refine oN (EvN.call rfl rfl rfl (F_spec_ExecOf_P v4.1 v4.2 cv6) rfl) ?_
   refine oN (EvN.mv (.tup [.agg (Ximpl_Exec.c v6.1), Bo v6.2]) rfl) ?_
   refine oN (EvN.ext (.agg (Ximpl_Exec.c v6.1)) rfl rfl) ?_
   refine oN (EvN.ext (Bo v6.2) rfl rfl) ?_
   refine oA (EvA.al zs43 rfl rfl) ?_
   refine oV (EvA.st (cs := [eL cI v6.1.From, eL (cL cI) v6.1.Order]) ⟨0, 2, 43, [[eL cI v6.1.From, eL (cL cI) v6.1.Order]]⟩ ty43 rfl rfl rfl rfl rfl rfl rfl rfl rfl) ?_
   refine oN (EvN.asg (Bo v6.2) rfl) ?_
   refine TO.nil ?_
   refine T.seq ?_
   refine T.seq ?_
   refine T.clean (H0 := [some ⟨0, 2, 43, [[eL cI v5.1.From, eL (cL cI) v5.1.Order]]⟩, some ⟨0, 2, 43, [[eL cI v6.1.From, eL (cL cI) v6.1.Order]]⟩]) (e0 := envOf [(10, Bo v6.2), (9, .hp 1 0 2 0 0), (8, Bo v5.2), (7, .hp 0 0 2 0 0), (6, eL cI v4.2), (5, eL (cL ZIn.c) v4.1), (1, eL cY more)]) rfl (wkC rfl (wkC rfl (wkC rfl (wkC rfl (wkC rfl (wkC rfl (wkC rfl wkN))))))) ?_
   refine T.region ?_
   refine oN (EvN.mv (Bo v5.2) rfl) ?_
   refine oN (EvN.mv (Bo v6.2) rfl) ?_
   refine oN (EvN.bne bt4 rfl rfl) ?_
   refine oN (EvN.mv (Bo (!(v5.2 == v6.2))) rfl) ?_
   obtain ⟨s7, h, ks7⟩ := bindL h
   refine TO.joinF (G := Unit) 5 (fun _ => True) (fun _ => [(51, Bo s7), (10, Bo v6.2), (9, .hp 1 0 2 0 0), (8, Bo v5.2), (7, .hp 0 0 2 0 0), (6, eL cI v4.2), (5, eL (cL ZIn.c) v4.1), (1, eL cY more)]) (fun _ => [some ⟨0, 2, 43, [[eL cI v5.1.From, eL (cL cI) v5.1.Order]]⟩, some ⟨0, 2, 43, [[eL cI v6.1.From, eL (cL cI) v6.1.Order]]⟩]) ?_ (fun js7 => ?_)
   rotate_left
   ·clear ks7
    rcases bifL h with ⟨q8, h⟩ | ⟨q8, h⟩
    ·refine gS rfl q8 ?_
     refine gS rfl q8 ?_
     refine gS rfl q8 ?_
     refine gS rfl q8 ?_
     refine oN (EvN.pickT rfl q8 (Bo true) rfl) ?_
     obtain rfl := osi h
     exact js7 _ _ ⟨(), trivial, cutW rfl (wkC rfl (wkC rfl (wkC rfl (wkC rfl (wkC rfl (wkC rfl (wkC rfl (wkC rfl wkN))))))))⟩
    ·refine gA rfl q8 (EvA.loadhp (.agg [eL cI v5.1.From, eL (cL cI) v5.1.Order]) ty43 rfl rfl rfl rfl rfl rfl) ?_
     refine gA rfl q8 (EvA.loadhp (.agg [eL cI v6.1.From, eL (cL cI) v6.1.Order]) ty43 rfl rfl rfl rfl rfl rfl) ?_
     obtain ⟨v9, cv9, h⟩ := bindL h
     refine gN rfl q8 (EvN.call rfl rfl rfl (F_impl_ExecSame_P (⟨v5.1.From, v5.1.Order⟩ : Ximpl_Exec) (⟨v6.1.From, v6.1.Order⟩ : Ximpl_Exec) cv9) rfl) ?_
     refine gN rfl q8 (EvN.not rfl) ?_
     refine oN (EvN.pickF rfl q8 (Bo (!v9)) rfl) ?_
     obtain rfl := osi h
     exact js7 _ _ ⟨(), trivial, cutW rfl (wkC rfl (wkC rfl (wkC rfl (wkC rfl (wkC rfl (wkC rfl (wkC rfl (wkC rfl wkN))))))))⟩
   ·intro _ _
    replace h := ks7
    clear ks7
    refine oN (EvN.mv (Bo s7) rfl) ?_
    obtain ⟨s10, h, ks10⟩ := bindL h
    refine TO.joinF (G := Unit) 3 (fun _ => True) (fun _ => [(55, Bo s10), (10, Bo v6.2), (9, .hp 1 0 2 0 0), (8, Bo v5.2), (7, .hp 0 0 2 0 0), (6, eL cI v4.2), (5, eL (cL ZIn.c) v4.1), (1, eL cY more)]) (fun _ => [some ⟨0, 2, 43, [[eL cI v5.1.From, eL (cL cI) v5.1.Order]]⟩, some ⟨0, 2, 43, [[eL cI v6.1.From, eL (cL cI) v6.1.Order]]⟩]) ?_ (fun js10 => ?_)
    rotate_left
    ·clear ks10
     rcases bifL h with ⟨q11, h⟩ | ⟨q11, h⟩
     ·refine gS rfl q11 ?_
      refine gS rfl q11 ?_
      refine oN (EvN.pickT rfl q11 (Bo true) rfl) ?_
      obtain rfl := osi h
      exact js10 _ _ ⟨(), trivial, cutW rfl (wkC rfl (wkC rfl (wkC rfl (wkC rfl (wkC rfl (wkC rfl (wkC rfl (wkC rfl wkN))))))))⟩
     ·refine gN rfl q11 (EvN.mv (Bo v5.2) rfl) ?_
      refine gN rfl q11 (EvN.not rfl) ?_
      refine oN (EvN.pickF rfl q11 (Bo (!v5.2)) rfl) ?_
      obtain rfl := osi h
      exact js10 _ _ ⟨(), trivial, cutW rfl (wkC rfl (wkC rfl (wkC rfl (wkC rfl (wkC rfl (wkC rfl (wkC rfl (wkC rfl wkN))))))))⟩
    ·intro _ _
     replace h := ks10
     clear ks10
     refine oN (EvN.mv (Bo s10) rfl) ?_
     obtain ⟨s12, h, ks12⟩ := bindL h
     refine TO.joinF (G := Unit) 4 (fun _ => True) (fun _ => [(60, Bo s12), (10, Bo v6.2), (9, .hp 1 0 2 0 0), (8, Bo v5.2), (7, .hp 0 0 2 0 0), (6, eL cI v4.2), (5, eL (cL ZIn.c) v4.1), (1, eL cY more)]) (fun _ => [some ⟨0, 2, 43, [[eL cI v5.1.From, eL (cL cI) v5.1.Order]]⟩, some ⟨0, 2, 43, [[eL cI v6.1.From, eL (cL cI) v6.1.Order]]⟩]) ?_ (fun js12 => ?_)
     rotate_left
     ·clear ks12
      rcases bifL h with ⟨q13, h⟩ | ⟨q13, h⟩
      ·refine gS rfl q13 ?_
       refine gS rfl q13 ?_
       refine gS rfl q13 ?_
       refine oN (EvN.pickT rfl q13 (Bo true) rfl) ?_
       obtain rfl := osi h
       exact js12 _ _ ⟨(), trivial, cutW rfl (wkC rfl (wkC rfl (wkC rfl (wkC rfl (wkC rfl (wkC rfl (wkC rfl (wkC rfl wkN))))))))⟩
      ·refine gN rfl q13 (EvN.mv (eL cI v4.2) rfl) ?_
       refine gN rfl q13 (EvN.lenL sl23 rfl) ?_
       refine gN rfl q13 (EvN.ilt rfl rfl) ?_
       refine oN (EvN.pickF rfl q13 (Bo (decide ((v4.2.length : Int) < (2 : Int)))) rfl) ?_
       obtain rfl := osi h
       exact js12 _ _ ⟨(), trivial, cutW rfl (wkC rfl (wkC rfl (wkC rfl (wkC rfl (wkC rfl (wkC rfl (wkC rfl (wkC rfl wkN))))))))⟩
     ·intro _ _
      replace h := ks12
      clear ks12
      refine TO.nil ?_
      refine T.cond rfl (fun q14 => ?_) (fun q14 => ?_)
      ·replace h := condT q14 h
       refine T.seq ?_
       refine T.region ?_
       refine oN (EvN.mv (Bo v5.2) rfl) ?_
       refine oN (EvN.mv (Bo v6.2) rfl) ?_
       refine oN (EvN.beq bt4 rfl rfl) ?_
       refine oN (EvN.mv (Bo (v5.2 == v6.2)) rfl) ?_
       obtain ⟨s15, h, ks15⟩ := bindL h
       refine TO.joinF (G := Unit) 4 (fun _ => True) (fun _ => [(68, Bo s15)]) (fun _ => [some ⟨0, 2, 43, [[eL cI v5.1.From, eL (cL cI) v5.1.Order]]⟩, some ⟨0, 2, 43, [[eL cI v6.1.From, eL (cL cI) v6.1.Order]]⟩]) ?_ (fun js15 => ?_)
       rotate_left
       ·clear ks15
        rcases bifL h with ⟨q16, h⟩ | ⟨q16, h⟩
        ·refine gA rfl q16 (EvA.loadhp (.agg [eL cI v5.1.From, eL (cL cI) v5.1.Order]) ty43 rfl rfl rfl rfl rfl rfl) ?_
         refine gA rfl q16 (EvA.loadhp (.agg [eL cI v6.1.From, eL (cL cI) v6.1.Order]) ty43 rfl rfl rfl rfl rfl rfl) ?_
         obtain ⟨v17, cv17, h⟩ := bindL h
         refine gN rfl q16 (EvN.call rfl rfl rfl (F_impl_ExecSame_P (⟨v5.1.From, v5.1.Order⟩ : Ximpl_Exec) (⟨v6.1.From, v6.1.Order⟩ : Ximpl_Exec) cv17) rfl) ?_
         refine oN (EvN.pickT rfl q16 (Bo v17) rfl) ?_
         obtain rfl := osi h
         exact js15 _ _ ⟨(), trivial, cutW rfl (wkC rfl wkN)⟩
        ·refine gS rfl q16 ?_
         refine gS rfl q16 ?_
         refine gS rfl q16 ?_
         refine oN (EvN.pickF rfl q16 (Bo false) rfl) ?_
         obtain rfl := osi h
         exact js15 _ _ ⟨(), trivial, cutW rfl (wkC rfl wkN)⟩
       ·intro _ _
        replace h := ks15
        clear ks15
        refine oN (EvN.asg (Bo s15) rfl) ?_
        refine TO.nil ?_
        refine T.ret ?_
        obtain rfl := osi h
        repeat (first|refine retS ?_|refine retB ?_)
        exact Fin.ret (vs := [Bo s15]) (.cons (.tmp rfl) .nil) (.of_isF 9 _ rfl)
      ·replace h := condF q14 h
       refine T.skip ?_
       refine T.seq ?_
       refine T.region ?_
       refine oN (EvN.mv (eL cY more) rfl) ?_
       refine oN (EvN.lenL sl52 rfl) ?_
       refine oN (EvN.mv (eL cI v4.2) rfl) ?_
       refine oN (EvN.lenL sl23 rfl) ?_
       obtain ⟨g18, h⟩ := gdW h
       refine oN (EvN.sub rfl rfl g18) ?_
       obtain ⟨g19, h⟩ := gdD h
       refine oN (EvN.rem rfl rfl g19) ?_
       refine oN (EvN.asg (I ((more.length : Int).tmod ((v4.2.length : Int) - (1 : Int)))) rfl) ?_
       refine TO.nil ?_
       refine T.seq ?_
       refine T.clean (H0 := [some ⟨0, 2, 43, [[eL cI v5.1.From, eL (cL cI) v5.1.Order]]⟩, some ⟨0, 2, 43, [[eL cI v6.1.From, eL (cL cI) v6.1.Order]]⟩]) (e0 := envOf [(11, I ((more.length : Int).tmod ((v4.2.length : Int) - (1 : Int)))), (6, eL cI v4.2), (5, eL (cL ZIn.c) v4.1)]) rfl (wkC rfl (wkC rfl (wkC rfl wkN))) ?_
       refine T.region ?_
       refine oN (EvN.mv (eL (cL ZIn.c) v4.1) rfl) ?_
       refine oN (EvN.lenL sl27 rfl) ?_
       obtain ⟨g20, h⟩ := gdD h
       refine oA (EvA.mkN (c := cI) (default : Int) sl23 rfl rfl g20 rfl rfl rfl) ?_
       refine oN (EvN.asg (hS false 2 0 1 ((List.replicate (v4.1.length : Int).toNat (default : Int)).length)) rfl) ?_
       refine TO.nil ?_
       obtain ⟨s21, h, ks21⟩ := bindL h
       refine T.joinF (G := Nat) (fun gh => True) (fun gh => [(12, hS false 2 gh 1 s21.length), (11, I ((more.length : Int).tmod ((v4.2.length : Int) - (1 : Int)))), (6, eL cI v4.2), (5, eL (cL ZIn.c) v4.1)]) (fun gh => [some ⟨0, 2, 43, [[eL cI v5.1.From, eL (cL cI) v5.1.Order]]⟩, some ⟨0, 2, 43, [[eL cI v6.1.From, eL (cL cI) v6.1.Order]]⟩, bE false gh 1 3 (s21.map cI)]) (fun u33 hg => ?_) ?_
       ·clear h
        have h := ks21
        clear ks21
        refine T.seq ?_
        refine T.seq ?_
        refine T.drawF (fun _ => ([], false)) (by kernel_rfl) (by kernel_rfl) ?_
        refine fN rfl (EvN.mv (eL cI v4.2) rfl) ?_
        refine fN rfl (EvN.mv (I ((more.length : Int).tmod ((v4.2.length : Int) - (1 : Int)))) rfl) ?_
        obtain ⟨g34, h⟩ := gdD h
        refine fN rfl (EvN.ixL sl23 rfl rfl g34 (fun _ => rfl)) ?_
        refine fN rfl (EvN.loadfp (I (v4.2.getD ((more.length : Int).tmod ((v4.2.length : Int) - (1 : Int))).toNat default)) ty3 rfl rfl) ?_
        refine fN rfl (EvN.mv (eL cI v4.2) rfl) ?_
        refine fN rfl (EvN.mv (I ((more.length : Int).tmod ((v4.2.length : Int) - (1 : Int)))) rfl) ?_
        obtain ⟨g35, h⟩ := gdW h
        refine fN rfl (EvN.add rfl rfl g35) ?_
        obtain ⟨g36, h⟩ := gdD h
        refine fN rfl (EvN.ixL sl23 rfl rfl g36 (fun _ => rfl)) ?_
        refine fN rfl (EvN.loadfp (I (v4.2.getD (((more.length : Int).tmod ((v4.2.length : Int) - (1 : Int))) + (1 : Int)).toNat default)) ty3 rfl rfl) ?_
        refine fN rfl (EvN.ieq rfl rfl) ?_
        refine TF.nil ?_
        refine T.cond rfl (fun q37 => ?_) (fun q37 => ?_)
        ·replace h := condT q37 h
         refine T.seq ?_
         refine T.clean (H0 := [some ⟨0, 2, 43, [[eL cI v5.1.From, eL (cL cI) v5.1.Order]]⟩, some ⟨0, 2, 43, [[eL cI v6.1.From, eL (cL cI) v6.1.Order]]⟩, bE false u33 1 3 (s21.map cI)]) (e0 := envOf []) rfl wkN ?_
         refine T.region ?_
         refine oN (EvN.asg (Bo true) rfl) ?_
         refine TO.nil ?_
         refine T.ret ?_
         obtain rfl := osi h
         repeat (first|refine retS ?_|refine retB ?_)
         exact Fin.ret (vs := [Bo true]) (.cons (.tmp rfl) .nil) (.of_isF 9 _ rfl)
        ·replace h := condF q37 h
         refine T.skip ?_
         refine T.seq ?_
         refine T.clean (H0 := [some ⟨0, 2, 43, [[eL cI v5.1.From, eL (cL cI) v5.1.Order]]⟩, some ⟨0, 2, 43, [[eL cI v6.1.From, eL (cL cI) v6.1.Order]]⟩, bE false u33 1 3 (s21.map cI)]) (e0 := envOf [(12, hS false 2 u33 1 s21.length), (11, I ((more.length : Int).tmod ((v4.2.length : Int) - (1 : Int)))), (6, eL cI v4.2), (5, eL (cL ZIn.c) v4.1)]) rfl (wkC rfl (wkC rfl (wkC rfl (wkC rfl wkN)))) ?_
         refine T.reserve ?_
         refine T.drawF (fun i => [([], false), ([], false), ([], false), ([], false), ([], false), ([], false), ([], false), ([], false), ([], false), ([], false), ([], false), ([], false), ([], false), ([2], false), ([], false), ([], false), ([3], true), ([3], true)].getD i ([], false)) (by kernel_rfl) (by kernel_rfl) ?_
         refine fN rfl (EvN.mv (eL (cL ZIn.c) v4.1) rfl) ?_
         refine fN rfl (EvN.mv (eL cI v4.2) rfl) ?_
         refine fN rfl (EvN.mv (I ((more.length : Int).tmod ((v4.2.length : Int) - (1 : Int)))) rfl) ?_
         refine fN rfl (EvN.ixL sl23 rfl rfl g34 (fun _ => rfl)) ?_
         refine fN rfl (EvN.loadfp (I (v4.2.getD ((more.length : Int).tmod ((v4.2.length : Int) - (1 : Int))).toNat default)) ty3 rfl rfl) ?_
         obtain ⟨g38, h⟩ := gdD h
         refine fN rfl (EvN.ixL sl27 rfl rfl g38 (fun _ => rfl)) ?_
         refine fN rfl (EvN.loadfp (eL ZIn.c (v4.1.getD (v4.2.getD ((more.length : Int).tmod ((v4.2.length : Int) - (1 : Int))).toNat default).toNat default)) ty57 rfl rfl) ?_
         refine fN rfl (EvN.mv (hS false 2 u33 1 s21.length) rfl) ?_
         refine fN rfl (EvN.mv (eL cI v4.2) rfl) ?_
         refine fN rfl (EvN.mv (I ((more.length : Int).tmod ((v4.2.length : Int) - (1 : Int)))) rfl) ?_
         refine fN rfl (EvN.ixL sl23 rfl rfl g34 (fun _ => rfl)) ?_
         refine fN rfl (EvN.loadfp (I (v4.2.getD ((more.length : Int).tmod ((v4.2.length : Int) - (1 : Int))).toNat default)) ty3 rfl rfl) ?_
         obtain ⟨g39, h⟩ := gdD h
         refine fN rfl (EvN.ixO (g := false) sl23 rfl rfl nofun g39) ?_
         refine fR [2] rfl (fun G hG => EvA.ldO (g := false) (l := s21) (I (s21.getD ((v4.2.getD ((more.length : Int).tmod ((v4.2.length : Int) - (1 : Int))).toNat default).toNat) default)) ty3 rfl (hG.a0 rfl) nofun (toNat_lt' rfl g39) rfl) ?_
         obtain ⟨g40, h⟩ := gdD h
         refine fN rfl (EvN.ixL sl57 rfl rfl g40 (fun _ => rfl)) ?_
         refine fN rfl (EvN.loadfp (.agg (ZIn.c ((v4.1.getD (v4.2.getD ((more.length : Int).tmod ((v4.2.length : Int) - (1 : Int))).toNat default).toNat default).getD (s21.getD ((v4.2.getD ((more.length : Int).tmod ((v4.2.length : Int) - (1 : Int))).toNat default).toNat) default).toNat default))) ty56 rfl rfl) ?_
         refine fW 3 [] rfl rfl (fun G hG => EvA.alR 3 zs56 rfl rfl (hG.a0 rfl)) ?_
         refine fV 3 [] rfl rfl (fun G hG => EvA.st (cs := [I (((v4.1.getD (v4.2.getD ((more.length : Int).tmod ((v4.2.length : Int) - (1 : Int))).toNat default).toNat default).getD (s21.getD ((v4.2.getD ((more.length : Int).tmod ((v4.2.length : Int) - (1 : Int))).toNat default).toNat) default).toNat default).Op), I (((v4.1.getD (v4.2.getD ((more.length : Int).tmod ((v4.2.length : Int) - (1 : Int))).toNat default).toNat default).getD (s21.getD ((v4.2.getD ((more.length : Int).tmod ((v4.2.length : Int) - (1 : Int))).toNat default).toNat) default).toNat default).Loc), I (((v4.1.getD (v4.2.getD ((more.length : Int).tmod ((v4.2.length : Int) - (1 : Int))).toNat default).toNat default).getD (s21.getD ((v4.2.getD ((more.length : Int).tmod ((v4.2.length : Int) - (1 : Int))).toNat default).toNat) default).toNat default).Reg), I (((v4.1.getD (v4.2.getD ((more.length : Int).tmod ((v4.2.length : Int) - (1 : Int))).toNat default).toNat default).getD (s21.getD ((v4.2.getD ((more.length : Int).tmod ((v4.2.length : Int) - (1 : Int))).toNat default).toNat) default).toNat default).Val)]) ⟨0, 4, 56, [[I (((v4.1.getD (v4.2.getD ((more.length : Int).tmod ((v4.2.length : Int) - (1 : Int))).toNat default).toNat default).getD (s21.getD ((v4.2.getD ((more.length : Int).tmod ((v4.2.length : Int) - (1 : Int))).toNat default).toNat) default).toNat default).Op), I (((v4.1.getD (v4.2.getD ((more.length : Int).tmod ((v4.2.length : Int) - (1 : Int))).toNat default).toNat default).getD (s21.getD ((v4.2.getD ((more.length : Int).tmod ((v4.2.length : Int) - (1 : Int))).toNat default).toNat) default).toNat default).Loc), I (((v4.1.getD (v4.2.getD ((more.length : Int).tmod ((v4.2.length : Int) - (1 : Int))).toNat default).toNat default).getD (s21.getD ((v4.2.getD ((more.length : Int).tmod ((v4.2.length : Int) - (1 : Int))).toNat default).toNat) default).toNat default).Reg), I (((v4.1.getD (v4.2.getD ((more.length : Int).tmod ((v4.2.length : Int) - (1 : Int))).toNat default).toNat default).getD (s21.getD ((v4.2.getD ((more.length : Int).tmod ((v4.2.length : Int) - (1 : Int))).toNat default).toNat) default).toNat default).Val)]]⟩ ty56 rfl rfl (hG.a0 rfl) rfl rfl rfl rfl rfl rfl) ?_
         refine TF.nil ?_
         refine T.seq ?_
         refine T.clean (H0 := [some ⟨0, 2, 43, [[eL cI v5.1.From, eL (cL cI) v5.1.Order]]⟩, some ⟨0, 2, 43, [[eL cI v6.1.From, eL (cL cI) v6.1.Order]]⟩, bE false u33 1 3 (s21.map cI), some ⟨0, 4, 56, [[I (((v4.1.getD (v4.2.getD ((more.length : Int).tmod ((v4.2.length : Int) - (1 : Int))).toNat default).toNat default).getD (s21.getD ((v4.2.getD ((more.length : Int).tmod ((v4.2.length : Int) - (1 : Int))).toNat default).toNat) default).toNat default).Op), I (((v4.1.getD (v4.2.getD ((more.length : Int).tmod ((v4.2.length : Int) - (1 : Int))).toNat default).toNat default).getD (s21.getD ((v4.2.getD ((more.length : Int).tmod ((v4.2.length : Int) - (1 : Int))).toNat default).toNat) default).toNat default).Loc), I (((v4.1.getD (v4.2.getD ((more.length : Int).tmod ((v4.2.length : Int) - (1 : Int))).toNat default).toNat default).getD (s21.getD ((v4.2.getD ((more.length : Int).tmod ((v4.2.length : Int) - (1 : Int))).toNat default).toNat) default).toNat default).Reg), I (((v4.1.getD (v4.2.getD ((more.length : Int).tmod ((v4.2.length : Int) - (1 : Int))).toNat default).toNat default).getD (s21.getD ((v4.2.getD ((more.length : Int).tmod ((v4.2.length : Int) - (1 : Int))).toNat default).toNat) default).toNat default).Val)]]⟩]) (e0 := envOf [(14, .hp 3 0 4 0 0), (12, hS false 2 u33 1 s21.length), (11, I ((more.length : Int).tmod ((v4.2.length : Int) - (1 : Int)))), (6, eL cI v4.2), (5, eL (cL ZIn.c) v4.1)]) rfl (wkC rfl (wkC rfl (wkC rfl (wkC rfl (wkC rfl wkN))))) ?_
         refine T.reserve ?_
         refine T.drawF (fun i => [([], false), ([], false), ([], false), ([], false), ([], false), ([], false), ([], false), ([], false), ([], false), ([], false), ([], false), ([], false), ([], false), ([], false), ([], false), ([2], false), ([], false), ([], false), ([4], true), ([4], true)].getD i ([], false)) (by kernel_rfl) (by kernel_rfl) ?_
         refine fN rfl (EvN.mv (eL (cL ZIn.c) v4.1) rfl) ?_
         refine fN rfl (EvN.mv (eL cI v4.2) rfl) ?_
         refine fN rfl (EvN.mv (I ((more.length : Int).tmod ((v4.2.length : Int) - (1 : Int)))) rfl) ?_
         refine fN rfl (EvN.add rfl rfl g35) ?_
         refine fN rfl (EvN.ixL sl23 rfl rfl g36 (fun _ => rfl)) ?_
         refine fN rfl (EvN.loadfp (I (v4.2.getD (((more.length : Int).tmod ((v4.2.length : Int) - (1 : Int))) + (1 : Int)).toNat default)) ty3 rfl rfl) ?_
         obtain ⟨g41, h⟩ := gdD h
         refine fN rfl (EvN.ixL sl27 rfl rfl g41 (fun _ => rfl)) ?_
         refine fN rfl (EvN.loadfp (eL ZIn.c (v4.1.getD (v4.2.getD (((more.length : Int).tmod ((v4.2.length : Int) - (1 : Int))) + (1 : Int)).toNat default).toNat default)) ty57 rfl rfl) ?_
         refine fN rfl (EvN.mv (hS false 2 u33 1 s21.length) rfl) ?_
         refine fN rfl (EvN.mv (eL cI v4.2) rfl) ?_
         refine fN rfl (EvN.mv (I ((more.length : Int).tmod ((v4.2.length : Int) - (1 : Int)))) rfl) ?_
         refine fN rfl (EvN.add rfl rfl g35) ?_
         refine fN rfl (EvN.ixL sl23 rfl rfl g36 (fun _ => rfl)) ?_
         refine fN rfl (EvN.loadfp (I (v4.2.getD (((more.length : Int).tmod ((v4.2.length : Int) - (1 : Int))) + (1 : Int)).toNat default)) ty3 rfl rfl) ?_
         obtain ⟨g42, h⟩ := gdD h
         refine fN rfl (EvN.ixO (g := false) sl23 rfl rfl nofun g42) ?_
         refine fR [2] rfl (fun G hG => EvA.ldO (g := false) (l := s21) (I (s21.getD ((v4.2.getD (((more.length : Int).tmod ((v4.2.length : Int) - (1 : Int))) + (1 : Int)).toNat default).toNat) default)) ty3 rfl (hG.a0 rfl) nofun (toNat_lt' rfl g42) rfl) ?_
         obtain ⟨g43, h⟩ := gdD h
         refine fN rfl (EvN.ixL sl57 rfl rfl g43 (fun _ => rfl)) ?_
         refine fN rfl (EvN.loadfp (.agg (ZIn.c ((v4.1.getD (v4.2.getD (((more.length : Int).tmod ((v4.2.length : Int) - (1 : Int))) + (1 : Int)).toNat default).toNat default).getD (s21.getD ((v4.2.getD (((more.length : Int).tmod ((v4.2.length : Int) - (1 : Int))) + (1 : Int)).toNat default).toNat) default).toNat default))) ty56 rfl rfl) ?_
         refine fW 4 [] rfl rfl (fun G hG => EvA.alR 4 zs56 rfl rfl (hG.a0 rfl)) ?_
         refine fV 4 [] rfl rfl (fun G hG => EvA.st (cs := [I (((v4.1.getD (v4.2.getD (((more.length : Int).tmod ((v4.2.length : Int) - (1 : Int))) + (1 : Int)).toNat default).toNat default).getD (s21.getD ((v4.2.getD (((more.length : Int).tmod ((v4.2.length : Int) - (1 : Int))) + (1 : Int)).toNat default).toNat) default).toNat default).Op), I (((v4.1.getD (v4.2.getD (((more.length : Int).tmod ((v4.2.length : Int) - (1 : Int))) + (1 : Int)).toNat default).toNat default).getD (s21.getD ((v4.2.getD (((more.length : Int).tmod ((v4.2.length : Int) - (1 : Int))) + (1 : Int)).toNat default).toNat) default).toNat default).Loc), I (((v4.1.getD (v4.2.getD (((more.length : Int).tmod ((v4.2.length : Int) - (1 : Int))) + (1 : Int)).toNat default).toNat default).getD (s21.getD ((v4.2.getD (((more.length : Int).tmod ((v4.2.length : Int) - (1 : Int))) + (1 : Int)).toNat default).toNat) default).toNat default).Reg), I (((v4.1.getD (v4.2.getD (((more.length : Int).tmod ((v4.2.length : Int) - (1 : Int))) + (1 : Int)).toNat default).toNat default).getD (s21.getD ((v4.2.getD (((more.length : Int).tmod ((v4.2.length : Int) - (1 : Int))) + (1 : Int)).toNat default).toNat) default).toNat default).Val)]) ⟨0, 4, 56, [[I (((v4.1.getD (v4.2.getD (((more.length : Int).tmod ((v4.2.length : Int) - (1 : Int))) + (1 : Int)).toNat default).toNat default).getD (s21.getD ((v4.2.getD (((more.length : Int).tmod ((v4.2.length : Int) - (1 : Int))) + (1 : Int)).toNat default).toNat) default).toNat default).Op), I (((v4.1.getD (v4.2.getD (((more.length : Int).tmod ((v4.2.length : Int) - (1 : Int))) + (1 : Int)).toNat default).toNat default).getD (s21.getD ((v4.2.getD (((more.length : Int).tmod ((v4.2.length : Int) - (1 : Int))) + (1 : Int)).toNat default).toNat) default).toNat default).Loc), I (((v4.1.getD (v4.2.getD (((more.length : Int).tmod ((v4.2.length : Int) - (1 : Int))) + (1 : Int)).toNat default).toNat default).getD (s21.getD ((v4.2.getD (((more.length : Int).tmod ((v4.2.length : Int) - (1 : Int))) + (1 : Int)).toNat default).toNat) default).toNat default).Reg), I (((v4.1.getD (v4.2.getD (((more.length : Int).tmod ((v4.2.length : Int) - (1 : Int))) + (1 : Int)).toNat default).toNat default).getD (s21.getD ((v4.2.getD (((more.length : Int).tmod ((v4.2.length : Int) - (1 : Int))) + (1 : Int)).toNat default).toNat) default).toNat default).Val)]]⟩ ty56 rfl rfl (hG.a0 rfl) rfl rfl rfl rfl rfl rfl) ?_
         refine TF.nil ?_
         refine T.seq ?_
         refine T.clean (H0 := [some ⟨0, 2, 43, [[eL cI v5.1.From, eL (cL cI) v5.1.Order]]⟩, some ⟨0, 2, 43, [[eL cI v6.1.From, eL (cL cI) v6.1.Order]]⟩, bE false u33 1 3 (s21.map cI), some ⟨0, 4, 56, [[I (((v4.1.getD (v4.2.getD ((more.length : Int).tmod ((v4.2.length : Int) - (1 : Int))).toNat default).toNat default).getD (s21.getD ((v4.2.getD ((more.length : Int).tmod ((v4.2.length : Int) - (1 : Int))).toNat default).toNat) default).toNat default).Op), I (((v4.1.getD (v4.2.getD ((more.length : Int).tmod ((v4.2.length : Int) - (1 : Int))).toNat default).toNat default).getD (s21.getD ((v4.2.getD ((more.length : Int).tmod ((v4.2.length : Int) - (1 : Int))).toNat default).toNat) default).toNat default).Loc), I (((v4.1.getD (v4.2.getD ((more.length : Int).tmod ((v4.2.length : Int) - (1 : Int))).toNat default).toNat default).getD (s21.getD ((v4.2.getD ((more.length : Int).tmod ((v4.2.length : Int) - (1 : Int))).toNat default).toNat) default).toNat default).Reg), I (((v4.1.getD (v4.2.getD ((more.length : Int).tmod ((v4.2.length : Int) - (1 : Int))).toNat default).toNat default).getD (s21.getD ((v4.2.getD ((more.length : Int).tmod ((v4.2.length : Int) - (1 : Int))).toNat default).toNat) default).toNat default).Val)]]⟩, some ⟨0, 4, 56, [[I (((v4.1.getD (v4.2.getD (((more.length : Int).tmod ((v4.2.length : Int) - (1 : Int))) + (1 : Int)).toNat default).toNat default).getD (s21.getD ((v4.2.getD (((more.length : Int).tmod ((v4.2.length : Int) - (1 : Int))) + (1 : Int)).toNat default).toNat) default).toNat default).Op), I (((v4.1.getD (v4.2.getD (((more.length : Int).tmod ((v4.2.length : Int) - (1 : Int))) + (1 : Int)).toNat default).toNat default).getD (s21.getD ((v4.2.getD (((more.length : Int).tmod ((v4.2.length : Int) - (1 : Int))) + (1 : Int)).toNat default).toNat) default).toNat default).Loc), I (((v4.1.getD (v4.2.getD (((more.length : Int).tmod ((v4.2.length : Int) - (1 : Int))) + (1 : Int)).toNat default).toNat default).getD (s21.getD ((v4.2.getD (((more.length : Int).tmod ((v4.2.length : Int) - (1 : Int))) + (1 : Int)).toNat default).toNat) default).toNat default).Reg), I (((v4.1.getD (v4.2.getD (((more.length : Int).tmod ((v4.2.length : Int) - (1 : Int))) + (1 : Int)).toNat default).toNat default).getD (s21.getD ((v4.2.getD (((more.length : Int).tmod ((v4.2.length : Int) - (1 : Int))) + (1 : Int)).toNat default).toNat) default).toNat default).Val)]]⟩]) (e0 := envOf [(15, .hp 4 0 4 0 0), (14, .hp 3 0 4 0 0), (11, I ((more.length : Int).tmod ((v4.2.length : Int) - (1 : Int)))), (6, eL cI v4.2), (5, eL (cL ZIn.c) v4.1)]) rfl (wkC rfl (wkC rfl (wkC rfl (wkC rfl (wkC rfl wkN))))) ?_
         refine T.region ?_
         refine oN (EvN.fahp Try.underlying56 rfl (by kernel_rfl) rfl) ?_
         refine oA (EvA.loadhp (I (((v4.1.getD (v4.2.getD ((more.length : Int).tmod ((v4.2.length : Int) - (1 : Int))).toNat default).toNat default).getD (s21.getD ((v4.2.getD ((more.length : Int).tmod ((v4.2.length : Int) - (1 : Int))).toNat default).toNat) default).toNat default).Op)) ty3 rfl rfl rfl rfl rfl rfl) ?_
         refine oN (EvN.ine rfl rfl) ?_
         refine oN (EvN.mv (Bo ((((v4.1.getD (v4.2.getD ((more.length : Int).tmod ((v4.2.length : Int) - (1 : Int))).toNat default).toNat default).getD (s21.getD ((v4.2.getD ((more.length : Int).tmod ((v4.2.length : Int) - (1 : Int))).toNat default).toNat) default).toNat default).Op) != (1 : Int))) rfl) ?_
         obtain ⟨s44, h, ks44⟩ := bindL h
         refine TO.joinF (G := Unit) 4 (fun _ => True) (fun _ => [(148, Bo s44), (15, .hp 4 0 4 0 0), (14, .hp 3 0 4 0 0), (11, I ((more.length : Int).tmod ((v4.2.length : Int) - (1 : Int)))), (6, eL cI v4.2), (5, eL (cL ZIn.c) v4.1)]) (fun _ => [some ⟨0, 2, 43, [[eL cI v5.1.From, eL (cL cI) v5.1.Order]]⟩, some ⟨0, 2, 43, [[eL cI v6.1.From, eL (cL cI) v6.1.Order]]⟩, bE false u33 1 3 (s21.map cI), some ⟨0, 4, 56, [[I (((v4.1.getD (v4.2.getD ((more.length : Int).tmod ((v4.2.length : Int) - (1 : Int))).toNat default).toNat default).getD (s21.getD ((v4.2.getD ((more.length : Int).tmod ((v4.2.length : Int) - (1 : Int))).toNat default).toNat) default).toNat default).Op), I (((v4.1.getD (v4.2.getD ((more.length : Int).tmod ((v4.2.length : Int) - (1 : Int))).toNat default).toNat default).getD (s21.getD ((v4.2.getD ((more.length : Int).tmod ((v4.2.length : Int) - (1 : Int))).toNat default).toNat) default).toNat default).Loc), I (((v4.1.getD (v4.2.getD ((more.length : Int).tmod ((v4.2.length : Int) - (1 : Int))).toNat default).toNat default).getD (s21.getD ((v4.2.getD ((more.length : Int).tmod ((v4.2.length : Int) - (1 : Int))).toNat default).toNat) default).toNat default).Reg), I (((v4.1.getD (v4.2.getD ((more.length : Int).tmod ((v4.2.length : Int) - (1 : Int))).toNat default).toNat default).getD (s21.getD ((v4.2.getD ((more.length : Int).tmod ((v4.2.length : Int) - (1 : Int))).toNat default).toNat) default).toNat default).Val)]]⟩, some ⟨0, 4, 56, [[I (((v4.1.getD (v4.2.getD (((more.length : Int).tmod ((v4.2.length : Int) - (1 : Int))) + (1 : Int)).toNat default).toNat default).getD (s21.getD ((v4.2.getD (((more.length : Int).tmod ((v4.2.length : Int) - (1 : Int))) + (1 : Int)).toNat default).toNat) default).toNat default).Op), I (((v4.1.getD (v4.2.getD (((more.length : Int).tmod ((v4.2.length : Int) - (1 : Int))) + (1 : Int)).toNat default).toNat default).getD (s21.getD ((v4.2.getD (((more.length : Int).tmod ((v4.2.length : Int) - (1 : Int))) + (1 : Int)).toNat default).toNat) default).toNat default).Loc), I (((v4.1.getD (v4.2.getD (((more.length : Int).tmod ((v4.2.length : Int) - (1 : Int))) + (1 : Int)).toNat default).toNat default).getD (s21.getD ((v4.2.getD (((more.length : Int).tmod ((v4.2.length : Int) - (1 : Int))) + (1 : Int)).toNat default).toNat) default).toNat default).Reg), I (((v4.1.getD (v4.2.getD (((more.length : Int).tmod ((v4.2.length : Int) - (1 : Int))) + (1 : Int)).toNat default).toNat default).getD (s21.getD ((v4.2.getD (((more.length : Int).tmod ((v4.2.length : Int) - (1 : Int))) + (1 : Int)).toNat default).toNat) default).toNat default).Val)]]⟩]) ?_ (fun js44 => ?_)
         rotate_left
         ·clear ks44
          rcases bifL h with ⟨q45, h⟩ | ⟨q45, h⟩
          ·refine gS rfl q45 ?_
           refine gS rfl q45 ?_
           refine gS rfl q45 ?_
           refine oN (EvN.pickT rfl q45 (Bo true) rfl) ?_
           obtain rfl := osi h
           exact js44 _ _ ⟨(), trivial, cutW rfl (wkC rfl (wkC rfl (wkC rfl (wkC rfl (wkC rfl (wkC rfl wkN))))))⟩
          ·refine gN rfl q45 (EvN.fahp Try.underlying56 rfl (by kernel_rfl) rfl) ?_
           refine gA rfl q45 (EvA.loadhp (I (((v4.1.getD (v4.2.getD (((more.length : Int).tmod ((v4.2.length : Int) - (1 : Int))) + (1 : Int)).toNat default).toNat default).getD (s21.getD ((v4.2.getD (((more.length : Int).tmod ((v4.2.length : Int) - (1 : Int))) + (1 : Int)).toNat default).toNat) default).toNat default).Op)) ty3 rfl rfl rfl rfl rfl rfl) ?_
           refine gN rfl q45 (EvN.ine rfl rfl) ?_
           refine oN (EvN.pickF rfl q45 (Bo ((((v4.1.getD (v4.2.getD (((more.length : Int).tmod ((v4.2.length : Int) - (1 : Int))) + (1 : Int)).toNat default).toNat default).getD (s21.getD ((v4.2.getD (((more.length : Int).tmod ((v4.2.length : Int) - (1 : Int))) + (1 : Int)).toNat default).toNat) default).toNat default).Op) != (1 : Int))) rfl) ?_
           obtain rfl := osi h
           exact js44 _ _ ⟨(), trivial, cutW rfl (wkC rfl (wkC rfl (wkC rfl (wkC rfl (wkC rfl (wkC rfl wkN))))))⟩
         ·intro _ _
          replace h := ks44
          clear ks44
          refine oN (EvN.asg (Bo s44) rfl) ?_
          refine TO.nil ?_
          refine T.seq ?_
          refine T.seq ?_
          refine T.region ?_
          refine oN (EvN.fahp Try.underlying56 rfl (by kernel_rfl) rfl) ?_
          refine oA (EvA.loadhp (I (((v4.1.getD (v4.2.getD ((more.length : Int).tmod ((v4.2.length : Int) - (1 : Int))).toNat default).toNat default).getD (s21.getD ((v4.2.getD ((more.length : Int).tmod ((v4.2.length : Int) - (1 : Int))).toNat default).toNat) default).toNat default).Op)) ty3 rfl rfl rfl rfl rfl rfl) ?_
          refine oN (EvN.ine rfl rfl) ?_
          refine oN (EvN.mv (Bo ((((v4.1.getD (v4.2.getD ((more.length : Int).tmod ((v4.2.length : Int) - (1 : Int))).toNat default).toNat default).getD (s21.getD ((v4.2.getD ((more.length : Int).tmod ((v4.2.length : Int) - (1 : Int))).toNat default).toNat) default).toNat default).Op) != (4 : Int))) rfl) ?_
          obtain ⟨s46, h, ks46⟩ := bindL h
          refine TO.joinF (G := Unit) 4 (fun _ => True) (fun _ => [(156, Bo s46), (16, Bo s44), (15, .hp 4 0 4 0 0), (14, .hp 3 0 4 0 0), (11, I ((more.length : Int).tmod ((v4.2.length : Int) - (1 : Int)))), (6, eL cI v4.2), (5, eL (cL ZIn.c) v4.1)]) (fun _ => [some ⟨0, 2, 43, [[eL cI v5.1.From, eL (cL cI) v5.1.Order]]⟩, some ⟨0, 2, 43, [[eL cI v6.1.From, eL (cL cI) v6.1.Order]]⟩, bE false u33 1 3 (s21.map cI), some ⟨0, 4, 56, [[I (((v4.1.getD (v4.2.getD ((more.length : Int).tmod ((v4.2.length : Int) - (1 : Int))).toNat default).toNat default).getD (s21.getD ((v4.2.getD ((more.length : Int).tmod ((v4.2.length : Int) - (1 : Int))).toNat default).toNat) default).toNat default).Op), I (((v4.1.getD (v4.2.getD ((more.length : Int).tmod ((v4.2.length : Int) - (1 : Int))).toNat default).toNat default).getD (s21.getD ((v4.2.getD ((more.length : Int).tmod ((v4.2.length : Int) - (1 : Int))).toNat default).toNat) default).toNat default).Loc), I (((v4.1.getD (v4.2.getD ((more.length : Int).tmod ((v4.2.length : Int) - (1 : Int))).toNat default).toNat default).getD (s21.getD ((v4.2.getD ((more.length : Int).tmod ((v4.2.length : Int) - (1 : Int))).toNat default).toNat) default).toNat default).Reg), I (((v4.1.getD (v4.2.getD ((more.length : Int).tmod ((v4.2.length : Int) - (1 : Int))).toNat default).toNat default).getD (s21.getD ((v4.2.getD ((more.length : Int).tmod ((v4.2.length : Int) - (1 : Int))).toNat default).toNat) default).toNat default).Val)]]⟩, some ⟨0, 4, 56, [[I (((v4.1.getD (v4.2.getD (((more.length : Int).tmod ((v4.2.length : Int) - (1 : Int))) + (1 : Int)).toNat default).toNat default).getD (s21.getD ((v4.2.getD (((more.length : Int).tmod ((v4.2.length : Int) - (1 : Int))) + (1 : Int)).toNat default).toNat) default).toNat default).Op), I (((v4.1.getD (v4.2.getD (((more.length : Int).tmod ((v4.2.length : Int) - (1 : Int))) + (1 : Int)).toNat default).toNat default).getD (s21.getD ((v4.2.getD (((more.length : Int).tmod ((v4.2.length : Int) - (1 : Int))) + (1 : Int)).toNat default).toNat) default).toNat default).Loc), I (((v4.1.getD (v4.2.getD (((more.length : Int).tmod ((v4.2.length : Int) - (1 : Int))) + (1 : Int)).toNat default).toNat default).getD (s21.getD ((v4.2.getD (((more.length : Int).tmod ((v4.2.length : Int) - (1 : Int))) + (1 : Int)).toNat default).toNat) default).toNat default).Reg), I (((v4.1.getD (v4.2.getD (((more.length : Int).tmod ((v4.2.length : Int) - (1 : Int))) + (1 : Int)).toNat default).toNat default).getD (s21.getD ((v4.2.getD (((more.length : Int).tmod ((v4.2.length : Int) - (1 : Int))) + (1 : Int)).toNat default).toNat) default).toNat default).Val)]]⟩]) ?_ (fun js46 => ?_)
          rotate_left
          ·clear ks46
           rcases bifL h with ⟨q47, h⟩ | ⟨q47, h⟩
           ·refine gN rfl q47 (EvN.fahp Try.underlying56 rfl (by kernel_rfl) rfl) ?_
            refine gA rfl q47 (EvA.loadhp (I (((v4.1.getD (v4.2.getD (((more.length : Int).tmod ((v4.2.length : Int) - (1 : Int))) + (1 : Int)).toNat default).toNat default).getD (s21.getD ((v4.2.getD (((more.length : Int).tmod ((v4.2.length : Int) - (1 : Int))) + (1 : Int)).toNat default).toNat) default).toNat default).Op)) ty3 rfl rfl rfl rfl rfl rfl) ?_
            refine gN rfl q47 (EvN.ine rfl rfl) ?_
            refine oN (EvN.pickT rfl q47 (Bo ((((v4.1.getD (v4.2.getD (((more.length : Int).tmod ((v4.2.length : Int) - (1 : Int))) + (1 : Int)).toNat default).toNat default).getD (s21.getD ((v4.2.getD (((more.length : Int).tmod ((v4.2.length : Int) - (1 : Int))) + (1 : Int)).toNat default).toNat) default).toNat default).Op) != (4 : Int))) rfl) ?_
            obtain rfl := osi h
            exact js46 _ _ ⟨(), trivial, cutW rfl (wkC rfl (wkC rfl (wkC rfl (wkC rfl (wkC rfl (wkC rfl (wkC rfl wkN)))))))⟩
           ·refine gS rfl q47 ?_
            refine gS rfl q47 ?_
            refine gS rfl q47 ?_
            refine oN (EvN.pickF rfl q47 (Bo false) rfl) ?_
            obtain rfl := osi h
            exact js46 _ _ ⟨(), trivial, cutW rfl (wkC rfl (wkC rfl (wkC rfl (wkC rfl (wkC rfl (wkC rfl (wkC rfl wkN)))))))⟩
          ·intro _ _
           replace h := ks46
           clear ks46
           refine oN (EvN.mv (Bo s46) rfl) ?_
           obtain ⟨s48, h, ks48⟩ := bindL h
           refine TO.joinF (G := Unit) 6 (fun _ => True) (fun _ => [(163, Bo s48), (16, Bo s44), (11, I ((more.length : Int).tmod ((v4.2.length : Int) - (1 : Int)))), (6, eL cI v4.2), (5, eL (cL ZIn.c) v4.1)]) (fun _ => [some ⟨0, 2, 43, [[eL cI v5.1.From, eL (cL cI) v5.1.Order]]⟩, some ⟨0, 2, 43, [[eL cI v6.1.From, eL (cL cI) v6.1.Order]]⟩, bE false u33 1 3 (s21.map cI), some ⟨0, 4, 56, [[I (((v4.1.getD (v4.2.getD ((more.length : Int).tmod ((v4.2.length : Int) - (1 : Int))).toNat default).toNat default).getD (s21.getD ((v4.2.getD ((more.length : Int).tmod ((v4.2.length : Int) - (1 : Int))).toNat default).toNat) default).toNat default).Op), I (((v4.1.getD (v4.2.getD ((more.length : Int).tmod ((v4.2.length : Int) - (1 : Int))).toNat default).toNat default).getD (s21.getD ((v4.2.getD ((more.length : Int).tmod ((v4.2.length : Int) - (1 : Int))).toNat default).toNat) default).toNat default).Loc), I (((v4.1.getD (v4.2.getD ((more.length : Int).tmod ((v4.2.length : Int) - (1 : Int))).toNat default).toNat default).getD (s21.getD ((v4.2.getD ((more.length : Int).tmod ((v4.2.length : Int) - (1 : Int))).toNat default).toNat) default).toNat default).Reg), I (((v4.1.getD (v4.2.getD ((more.length : Int).tmod ((v4.2.length : Int) - (1 : Int))).toNat default).toNat default).getD (s21.getD ((v4.2.getD ((more.length : Int).tmod ((v4.2.length : Int) - (1 : Int))).toNat default).toNat) default).toNat default).Val)]]⟩, some ⟨0, 4, 56, [[I (((v4.1.getD (v4.2.getD (((more.length : Int).tmod ((v4.2.length : Int) - (1 : Int))) + (1 : Int)).toNat default).toNat default).getD (s21.getD ((v4.2.getD (((more.length : Int).tmod ((v4.2.length : Int) - (1 : Int))) + (1 : Int)).toNat default).toNat) default).toNat default).Op), I (((v4.1.getD (v4.2.getD (((more.length : Int).tmod ((v4.2.length : Int) - (1 : Int))) + (1 : Int)).toNat default).toNat default).getD (s21.getD ((v4.2.getD (((more.length : Int).tmod ((v4.2.length : Int) - (1 : Int))) + (1 : Int)).toNat default).toNat) default).toNat default).Loc), I (((v4.1.getD (v4.2.getD (((more.length : Int).tmod ((v4.2.length : Int) - (1 : Int))) + (1 : Int)).toNat default).toNat default).getD (s21.getD ((v4.2.getD (((more.length : Int).tmod ((v4.2.length : Int) - (1 : Int))) + (1 : Int)).toNat default).toNat) default).toNat default).Reg), I (((v4.1.getD (v4.2.getD (((more.length : Int).tmod ((v4.2.length : Int) - (1 : Int))) + (1 : Int)).toNat default).toNat default).getD (s21.getD ((v4.2.getD (((more.length : Int).tmod ((v4.2.length : Int) - (1 : Int))) + (1 : Int)).toNat default).toNat) default).toNat default).Val)]]⟩]) ?_ (fun js48 => ?_)
           rotate_left
           ·clear ks48
            rcases bifL h with ⟨q49, h⟩ | ⟨q49, h⟩
            ·refine gN rfl q49 (EvN.fahp Try.underlying56 rfl (by kernel_rfl) rfl) ?_
             refine gA rfl q49 (EvA.loadhp (I (((v4.1.getD (v4.2.getD ((more.length : Int).tmod ((v4.2.length : Int) - (1 : Int))).toNat default).toNat default).getD (s21.getD ((v4.2.getD ((more.length : Int).tmod ((v4.2.length : Int) - (1 : Int))).toNat default).toNat) default).toNat default).Loc)) ty3 rfl rfl rfl rfl rfl rfl) ?_
             refine gN rfl q49 (EvN.fahp Try.underlying56 rfl (by kernel_rfl) rfl) ?_
             refine gA rfl q49 (EvA.loadhp (I (((v4.1.getD (v4.2.getD (((more.length : Int).tmod ((v4.2.length : Int) - (1 : Int))) + (1 : Int)).toNat default).toNat default).getD (s21.getD ((v4.2.getD (((more.length : Int).tmod ((v4.2.length : Int) - (1 : Int))) + (1 : Int)).toNat default).toNat) default).toNat default).Loc)) ty3 rfl rfl rfl rfl rfl rfl) ?_
             refine gN rfl q49 (EvN.ieq rfl rfl) ?_
             refine oN (EvN.pickT rfl q49 (Bo ((((v4.1.getD (v4.2.getD ((more.length : Int).tmod ((v4.2.length : Int) - (1 : Int))).toNat default).toNat default).getD (s21.getD ((v4.2.getD ((more.length : Int).tmod ((v4.2.length : Int) - (1 : Int))).toNat default).toNat) default).toNat default).Loc) == (((v4.1.getD (v4.2.getD (((more.length : Int).tmod ((v4.2.length : Int) - (1 : Int))) + (1 : Int)).toNat default).toNat default).getD (s21.getD ((v4.2.getD (((more.length : Int).tmod ((v4.2.length : Int) - (1 : Int))) + (1 : Int)).toNat default).toNat) default).toNat default).Loc))) rfl) ?_
             obtain rfl := osi h
             exact js48 _ _ ⟨(), trivial, cutW rfl (wkC rfl (wkC rfl (wkC rfl (wkC rfl (wkC rfl wkN)))))⟩
            ·refine gS rfl q49 ?_
             refine gS rfl q49 ?_
             refine gS rfl q49 ?_
             refine gS rfl q49 ?_
             refine gS rfl q49 ?_
             refine oN (EvN.pickF rfl q49 (Bo false) rfl) ?_
             obtain rfl := osi h
             exact js48 _ _ ⟨(), trivial, cutW rfl (wkC rfl (wkC rfl (wkC rfl (wkC rfl (wkC rfl wkN)))))⟩
           ·intro _ _
            replace h := ks48
            clear ks48
            refine oN (EvN.mv (Bo s48) rfl) ?_
            obtain ⟨s50, h, ks50⟩ := bindL h
            refine TO.joinF (G := Unit) 2 (fun _ => True) (fun _ => [(166, Bo s50), (11, I ((more.length : Int).tmod ((v4.2.length : Int) - (1 : Int)))), (6, eL cI v4.2), (5, eL (cL ZIn.c) v4.1)]) (fun _ => [some ⟨0, 2, 43, [[eL cI v5.1.From, eL (cL cI) v5.1.Order]]⟩, some ⟨0, 2, 43, [[eL cI v6.1.From, eL (cL cI) v6.1.Order]]⟩, bE false u33 1 3 (s21.map cI), some ⟨0, 4, 56, [[I (((v4.1.getD (v4.2.getD ((more.length : Int).tmod ((v4.2.length : Int) - (1 : Int))).toNat default).toNat default).getD (s21.getD ((v4.2.getD ((more.length : Int).tmod ((v4.2.length : Int) - (1 : Int))).toNat default).toNat) default).toNat default).Op), I (((v4.1.getD (v4.2.getD ((more.length : Int).tmod ((v4.2.length : Int) - (1 : Int))).toNat default).toNat default).getD (s21.getD ((v4.2.getD ((more.length : Int).tmod ((v4.2.length : Int) - (1 : Int))).toNat default).toNat) default).toNat default).Loc), I (((v4.1.getD (v4.2.getD ((more.length : Int).tmod ((v4.2.length : Int) - (1 : Int))).toNat default).toNat default).getD (s21.getD ((v4.2.getD ((more.length : Int).tmod ((v4.2.length : Int) - (1 : Int))).toNat default).toNat) default).toNat default).Reg), I (((v4.1.getD (v4.2.getD ((more.length : Int).tmod ((v4.2.length : Int) - (1 : Int))).toNat default).toNat default).getD (s21.getD ((v4.2.getD ((more.length : Int).tmod ((v4.2.length : Int) - (1 : Int))).toNat default).toNat) default).toNat default).Val)]]⟩, some ⟨0, 4, 56, [[I (((v4.1.getD (v4.2.getD (((more.length : Int).tmod ((v4.2.length : Int) - (1 : Int))) + (1 : Int)).toNat default).toNat default).getD (s21.getD ((v4.2.getD (((more.length : Int).tmod ((v4.2.length : Int) - (1 : Int))) + (1 : Int)).toNat default).toNat) default).toNat default).Op), I (((v4.1.getD (v4.2.getD (((more.length : Int).tmod ((v4.2.length : Int) - (1 : Int))) + (1 : Int)).toNat default).toNat default).getD (s21.getD ((v4.2.getD (((more.length : Int).tmod ((v4.2.length : Int) - (1 : Int))) + (1 : Int)).toNat default).toNat) default).toNat default).Loc), I (((v4.1.getD (v4.2.getD (((more.length : Int).tmod ((v4.2.length : Int) - (1 : Int))) + (1 : Int)).toNat default).toNat default).getD (s21.getD ((v4.2.getD (((more.length : Int).tmod ((v4.2.length : Int) - (1 : Int))) + (1 : Int)).toNat default).toNat) default).toNat default).Reg), I (((v4.1.getD (v4.2.getD (((more.length : Int).tmod ((v4.2.length : Int) - (1 : Int))) + (1 : Int)).toNat default).toNat default).getD (s21.getD ((v4.2.getD (((more.length : Int).tmod ((v4.2.length : Int) - (1 : Int))) + (1 : Int)).toNat default).toNat) default).toNat default).Val)]]⟩]) ?_ (fun js50 => ?_)
            rotate_left
            ·clear ks50
             rcases bifL h with ⟨q51, h⟩ | ⟨q51, h⟩
             ·refine gN rfl q51 (EvN.mv (Bo s44) rfl) ?_
              refine oN (EvN.pickT rfl q51 (Bo s44) rfl) ?_
              obtain rfl := osi h
              exact js50 _ _ ⟨(), trivial, cutW rfl (wkC rfl (wkC rfl (wkC rfl (wkC rfl wkN))))⟩
             ·refine gS rfl q51 ?_
              refine oN (EvN.pickF rfl q51 (Bo false) rfl) ?_
              obtain rfl := osi h
              exact js50 _ _ ⟨(), trivial, cutW rfl (wkC rfl (wkC rfl (wkC rfl (wkC rfl wkN))))⟩
            ·intro _ _
             replace h := ks50
             clear ks50
             refine TO.nil ?_
             refine T.cond rfl (fun q52 => ?_) (fun q52 => ?_)
             ·replace h := condT q52 h
              refine T.seq ?_
              refine T.region ?_
              refine oN (EvN.asg (Bo true) rfl) ?_
              refine TO.nil ?_
              refine T.ret ?_
              obtain rfl := osi h
              repeat (first|refine retS ?_|refine retB ?_)
              exact Fin.ret (vs := [Bo true]) (.cons (.tmp rfl) .nil) (.of_isF 9 _ rfl)
             ·replace h := condF q52 h
              refine T.skip ?_
              refine T.seq ?_
              refine T.region ?_
              refine oA (EvA.mkO (c := cI) ([] : List Int) [] sl23 rfl rfl rfl (fun _ => rfl) rfl rfl) ?_
              refine oN (EvN.mv (eL cI v4.2) rfl) ?_
              obtain ⟨g53, h⟩ := gdL h
              refine oA (EvA.appF (l := ([] : List Int)) v4.2 sl23 (by kernel_rfl) rfl rfl rfl (SrcOk.fz (l := v4.2) rfl (fun _ => rfl)) g53) ?_
              refine oN (EvN.asg (hS false 5 (0 + 1) 1 ((([] : List Int) ++ v4.2).length)) rfl) ?_
              refine TO.nil ?_
              refine T.seq ?_
              refine T.region ?_
              refine oN (EvN.mv (hS false 5 (0 + 1) 1 ((([] : List Int) ++ v4.2).length)) rfl) ?_
              refine oN (EvN.mv (I ((more.length : Int).tmod ((v4.2.length : Int) - (1 : Int)))) rfl) ?_
              refine oN (EvN.mv (eL cI v4.2) rfl) ?_
              refine oN (EvN.mv (I ((more.length : Int).tmod ((v4.2.length : Int) - (1 : Int)))) rfl) ?_
              refine oN (EvN.add rfl rfl g35) ?_
              refine oN (EvN.ixL sl23 rfl rfl g36 (fun _ => rfl)) ?_
              refine oN (EvN.loadfp (I (v4.2.getD (((more.length : Int).tmod ((v4.2.length : Int) - (1 : Int))) + (1 : Int)).toNat default)) ty3 rfl rfl) ?_
              obtain ⟨g54, h⟩ := gdD h
              refine oN (EvN.ixO (g := false) sl23 rfl rfl nofun g54) ?_
              refine oV (EvA.stO (g := false) (l := (([] : List Int) ++ v4.2)) (cs := [I (v4.2.getD (((more.length : Int).tmod ((v4.2.length : Int) - (1 : Int))) + (1 : Int)).toNat default)]) (v4.2.getD (((more.length : Int).tmod ((v4.2.length : Int) - (1 : Int))) + (1 : Int)).toNat default) ty3 rfl rfl rfl nofun (toNat_lt' rfl g54) rfl rfl rfl) ?_
              refine TO.nil ?_
              refine T.seq ?_
              refine T.clean (H0 := [some ⟨0, 2, 43, [[eL cI v5.1.From, eL (cL cI) v5.1.Order]]⟩, some ⟨0, 2, 43, [[eL cI v6.1.From, eL (cL cI) v6.1.Order]]⟩, bE false u33 1 3 (s21.map cI), some ⟨0, 4, 56, [[I (((v4.1.getD (v4.2.getD ((more.length : Int).tmod ((v4.2.length : Int) - (1 : Int))).toNat default).toNat default).getD (s21.getD ((v4.2.getD ((more.length : Int).tmod ((v4.2.length : Int) - (1 : Int))).toNat default).toNat) default).toNat default).Op), I (((v4.1.getD (v4.2.getD ((more.length : Int).tmod ((v4.2.length : Int) - (1 : Int))).toNat default).toNat default).getD (s21.getD ((v4.2.getD ((more.length : Int).tmod ((v4.2.length : Int) - (1 : Int))).toNat default).toNat) default).toNat default).Loc), I (((v4.1.getD (v4.2.getD ((more.length : Int).tmod ((v4.2.length : Int) - (1 : Int))).toNat default).toNat default).getD (s21.getD ((v4.2.getD ((more.length : Int).tmod ((v4.2.length : Int) - (1 : Int))).toNat default).toNat) default).toNat default).Reg), I (((v4.1.getD (v4.2.getD ((more.length : Int).tmod ((v4.2.length : Int) - (1 : Int))).toNat default).toNat default).getD (s21.getD ((v4.2.getD ((more.length : Int).tmod ((v4.2.length : Int) - (1 : Int))).toNat default).toNat) default).toNat default).Val)]]⟩, some ⟨0, 4, 56, [[I (((v4.1.getD (v4.2.getD (((more.length : Int).tmod ((v4.2.length : Int) - (1 : Int))) + (1 : Int)).toNat default).toNat default).getD (s21.getD ((v4.2.getD (((more.length : Int).tmod ((v4.2.length : Int) - (1 : Int))) + (1 : Int)).toNat default).toNat) default).toNat default).Op), I (((v4.1.getD (v4.2.getD (((more.length : Int).tmod ((v4.2.length : Int) - (1 : Int))) + (1 : Int)).toNat default).toNat default).getD (s21.getD ((v4.2.getD (((more.length : Int).tmod ((v4.2.length : Int) - (1 : Int))) + (1 : Int)).toNat default).toNat) default).toNat default).Loc), I (((v4.1.getD (v4.2.getD (((more.length : Int).tmod ((v4.2.length : Int) - (1 : Int))) + (1 : Int)).toNat default).toNat default).getD (s21.getD ((v4.2.getD (((more.length : Int).tmod ((v4.2.length : Int) - (1 : Int))) + (1 : Int)).toNat default).toNat) default).toNat default).Reg), I (((v4.1.getD (v4.2.getD (((more.length : Int).tmod ((v4.2.length : Int) - (1 : Int))) + (1 : Int)).toNat default).toNat default).getD (s21.getD ((v4.2.getD (((more.length : Int).tmod ((v4.2.length : Int) - (1 : Int))) + (1 : Int)).toNat default).toNat) default).toNat default).Val)]]⟩, bE false (0 + 1) 1 3 (((([] : List Int) ++ v4.2).set (((more.length : Int).tmod ((v4.2.length : Int) - (1 : Int))).toNat) (v4.2.getD (((more.length : Int).tmod ((v4.2.length : Int) - (1 : Int))) + (1 : Int)).toNat default)).map cI)]) (e0 := envOf [(17, hS false 5 (0 + 1) 1 ((([] : List Int) ++ v4.2).length)), (11, I ((more.length : Int).tmod ((v4.2.length : Int) - (1 : Int)))), (6, eL cI v4.2), (5, eL (cL ZIn.c) v4.1)]) rfl (wkC rfl (wkC rfl (wkC rfl (wkC rfl wkN)))) ?_
              refine T.region ?_
              refine oN (EvN.mv (hS false 5 (0 + 1) 1 ((([] : List Int) ++ v4.2).length)) rfl) ?_
              refine oN (EvN.mv (I ((more.length : Int).tmod ((v4.2.length : Int) - (1 : Int)))) rfl) ?_
              refine oN (EvN.add rfl rfl g35) ?_
              refine oN (EvN.mv (eL cI v4.2) rfl) ?_
              refine oN (EvN.mv (I ((more.length : Int).tmod ((v4.2.length : Int) - (1 : Int)))) rfl) ?_
              refine oN (EvN.ixL sl23 rfl rfl g34 (fun _ => rfl)) ?_
              refine oN (EvN.loadfp (I (v4.2.getD ((more.length : Int).tmod ((v4.2.length : Int) - (1 : Int))).toNat default)) ty3 rfl rfl) ?_
              obtain ⟨g55, h⟩ := gdD h
              refine oN (EvN.ixO (g := false) sl23 rfl rfl nofun g55) ?_
              refine oV (EvA.stO (g := false) (l := ((([] : List Int) ++ v4.2).set (((more.length : Int).tmod ((v4.2.length : Int) - (1 : Int))).toNat) (v4.2.getD (((more.length : Int).tmod ((v4.2.length : Int) - (1 : Int))) + (1 : Int)).toNat default))) (cs := [I (v4.2.getD ((more.length : Int).tmod ((v4.2.length : Int) - (1 : Int))).toNat default)]) (v4.2.getD ((more.length : Int).tmod ((v4.2.length : Int) - (1 : Int))).toNat default) ty3 rfl rfl rfl nofun (toNat_lt' (by simp) g55) rfl rfl rfl) ?_
              refine TO.nil ?_
              refine T.seq ?_
              refine T.clean (H0 := [some ⟨0, 2, 43, [[eL cI v5.1.From, eL (cL cI) v5.1.Order]]⟩, some ⟨0, 2, 43, [[eL cI v6.1.From, eL (cL cI) v6.1.Order]]⟩, bE false u33 1 3 (s21.map cI), some ⟨0, 4, 56, [[I (((v4.1.getD (v4.2.getD ((more.length : Int).tmod ((v4.2.length : Int) - (1 : Int))).toNat default).toNat default).getD (s21.getD ((v4.2.getD ((more.length : Int).tmod ((v4.2.length : Int) - (1 : Int))).toNat default).toNat) default).toNat default).Op), I (((v4.1.getD (v4.2.getD ((more.length : Int).tmod ((v4.2.length : Int) - (1 : Int))).toNat default).toNat default).getD (s21.getD ((v4.2.getD ((more.length : Int).tmod ((v4.2.length : Int) - (1 : Int))).toNat default).toNat) default).toNat default).Loc), I (((v4.1.getD (v4.2.getD ((more.length : Int).tmod ((v4.2.length : Int) - (1 : Int))).toNat default).toNat default).getD (s21.getD ((v4.2.getD ((more.length : Int).tmod ((v4.2.length : Int) - (1 : Int))).toNat default).toNat) default).toNat default).Reg), I (((v4.1.getD (v4.2.getD ((more.length : Int).tmod ((v4.2.length : Int) - (1 : Int))).toNat default).toNat default).getD (s21.getD ((v4.2.getD ((more.length : Int).tmod ((v4.2.length : Int) - (1 : Int))).toNat default).toNat) default).toNat default).Val)]]⟩, some ⟨0, 4, 56, [[I (((v4.1.getD (v4.2.getD (((more.length : Int).tmod ((v4.2.length : Int) - (1 : Int))) + (1 : Int)).toNat default).toNat default).getD (s21.getD ((v4.2.getD (((more.length : Int).tmod ((v4.2.length : Int) - (1 : Int))) + (1 : Int)).toNat default).toNat) default).toNat default).Op), I (((v4.1.getD (v4.2.getD (((more.length : Int).tmod ((v4.2.length : Int) - (1 : Int))) + (1 : Int)).toNat default).toNat default).getD (s21.getD ((v4.2.getD (((more.length : Int).tmod ((v4.2.length : Int) - (1 : Int))) + (1 : Int)).toNat default).toNat) default).toNat default).Loc), I (((v4.1.getD (v4.2.getD (((more.length : Int).tmod ((v4.2.length : Int) - (1 : Int))) + (1 : Int)).toNat default).toNat default).getD (s21.getD ((v4.2.getD (((more.length : Int).tmod ((v4.2.length : Int) - (1 : Int))) + (1 : Int)).toNat default).toNat) default).toNat default).Reg), I (((v4.1.getD (v4.2.getD (((more.length : Int).tmod ((v4.2.length : Int) - (1 : Int))) + (1 : Int)).toNat default).toNat default).getD (s21.getD ((v4.2.getD (((more.length : Int).tmod ((v4.2.length : Int) - (1 : Int))) + (1 : Int)).toNat default).toNat) default).toNat default).Val)]]⟩, bE false (0 + 1) 1 3 ((((([] : List Int) ++ v4.2).set (((more.length : Int).tmod ((v4.2.length : Int) - (1 : Int))).toNat) (v4.2.getD (((more.length : Int).tmod ((v4.2.length : Int) - (1 : Int))) + (1 : Int)).toNat default)).set ((((more.length : Int).tmod ((v4.2.length : Int) - (1 : Int))) + (1 : Int)).toNat) (v4.2.getD ((more.length : Int).tmod ((v4.2.length : Int) - (1 : Int))).toNat default)).map cI)]) (e0 := envOf [(17, hS false 5 (0 + 1) 1 ((([] : List Int) ++ v4.2).length)), (6, eL cI v4.2), (5, eL (cL ZIn.c) v4.1)]) rfl (wkC rfl (wkC rfl (wkC rfl wkN))) ?_
              refine T.region ?_
              refine oN (EvN.mv (eL (cL ZIn.c) v4.1) rfl) ?_
              refine oN (EvN.mv (eL cI v4.2) rfl) ?_
              refine oN (EvN.mv (hS false 5 (0 + 1) 1 ((([] : List Int) ++ v4.2).length)) rfl) ?_
              obtain ⟨v56, cv56, h⟩ := bindL h
              refine oA (EvA.callT rfl rfl (F_impl_SameTrace_P v4.1 v4.2 (((([] : List Int) ++ v4.2).set (((more.length : Int).tmod ((v4.2.length : Int) - (1 : Int))).toNat) (v4.2.getD (((more.length : Int).tmod ((v4.2.length : Int) - (1 : Int))) + (1 : Int)).toNat default)).set ((((more.length : Int).tmod ((v4.2.length : Int) - (1 : Int))) + (1 : Int)).toNat) (v4.2.getD ((more.length : Int).tmod ((v4.2.length : Int) - (1 : Int))).toNat default)) cv56) (.cons (.of_isF 9 _ rfl) (.cons (.of_isF 9 _ rfl) (.cons (Fz.own (g := false) (ver := 0 + 1) (l := (((([] : List Int) ++ v4.2).set (((more.length : Int).tmod ((v4.2.length : Int) - (1 : Int))).toNat) (v4.2.getD (((more.length : Int).tmod ((v4.2.length : Int) - (1 : Int))) + (1 : Int)).toNat default)).set ((((more.length : Int).tmod ((v4.2.length : Int) - (1 : Int))) + (1 : Int)).toNat) (v4.2.getD ((more.length : Int).tmod ((v4.2.length : Int) - (1 : Int))).toNat default))) rfl rfl (by simp) nofun (fun _ => rfl)) .nil))) rfl) ?_
              refine oN (EvN.asg (Bo v56) rfl) ?_
              refine TO.nil ?_
              refine T.ret ?_
              obtain rfl := osi h
              repeat (first|refine retS ?_|refine retB ?_)
              exact Fin.ret (vs := [Bo v56]) (.cons (.tmp rfl) .nil) (.of_isF 9 _ rfl)
       ·clear ks21
        refine T.seq ?_
        refine T.region ?_
        refine oN (EvN.asg (I (0 : Int)) rfl) ?_
        refine TO.nil ?_
        refine T.block ?_
        refine T.loop (S := (List Int) × Int) (G := Nat) (F_laws_FnTraceSwap_L26 more v4) (fun s25 gh => True) (fun s25 gh => [(13, I s25.2), (12, hS false 2 gh 1 s25.1.length), (11, I ((more.length : Int).tmod ((v4.2.length : Int) - (1 : Int)))), (6, eL cI v4.2), (5, eL (cL ZIn.c) v4.1)]) (fun s25 gh => [some ⟨0, 2, 43, [[eL cI v5.1.From, eL (cL cI) v5.1.Order]]⟩, some ⟨0, 2, 43, [[eL cI v6.1.From, eL (cL cI) v6.1.Order]]⟩, bE false gh 1 3 (s25.1.map cI)]) (s0 := ((List.replicate (v4.1.length : Int).toNat (default : Int)), (0 : Int))) 0 h trivial (cutW rfl (wkC rfl (wkC rfl (wkC rfl (wkC rfl (wkC rfl wkN)))))) (fun s25 u27 ws25 h hg => ?_)
        refine T.seq ?_
        refine T.seq ?_
        refine T.region ?_
        refine oN (EvN.mv (I s25.2) rfl) ?_
        refine oN (EvN.mv (I ((more.length : Int).tmod ((v4.2.length : Int) - (1 : Int)))) rfl) ?_
        refine oN (EvN.ilt rfl rfl) ?_
        refine TO.nil ?_
        refine T.cond rfl (fun q28 => ?_) (fun q28 => ?_)
        ·replace h := condT q28 h
         refine T.skip ?_
         refine T.seq ?_
         refine T.block ?_
         refine T.drawF (fun i => [([], false), ([], false), ([], false), ([], false), ([], false), ([], false), ([], false), ([], false), ([], false), ([], false), ([], false), ([2], false), ([], false), ([], false), ([2], true)].getD i ([], false)) (by kernel_rfl) (by kernel_rfl) ?_
         refine fN rfl (EvN.mv (hS false 2 u27 1 s25.1.length) rfl) ?_
         refine fN rfl (EvN.mv (eL cI v4.2) rfl) ?_
         refine fN rfl (EvN.mv (I s25.2) rfl) ?_
         obtain ⟨g29, h⟩ := gdD h
         refine fN rfl (EvN.ixL sl23 rfl rfl g29 (fun _ => rfl)) ?_
         refine fN rfl (EvN.loadfp (I (v4.2.getD s25.2.toNat default)) ty3 rfl rfl) ?_
         refine fN rfl (EvN.mv (hS false 2 u27 1 s25.1.length) rfl) ?_
         refine fN rfl (EvN.mv (eL cI v4.2) rfl) ?_
         refine fN rfl (EvN.mv (I s25.2) rfl) ?_
         refine fN rfl (EvN.ixL sl23 rfl rfl g29 (fun _ => rfl)) ?_
         refine fN rfl (EvN.loadfp (I (v4.2.getD s25.2.toNat default)) ty3 rfl rfl) ?_
         obtain ⟨g30, h⟩ := gdD h
         refine fN rfl (EvN.ixO (g := false) sl23 rfl rfl nofun g30) ?_
         refine fR [2] rfl (fun G hG => EvA.ldO (g := false) (l := s25.1) (I (s25.1.getD ((v4.2.getD s25.2.toNat default).toNat) default)) ty3 rfl (hG.a0 rfl) nofun (toNat_lt' rfl g30) rfl) ?_
         obtain ⟨g31, h⟩ := gdW h
         refine fN rfl (EvN.add rfl rfl g31) ?_
         refine fN rfl (EvN.ixO (g := false) sl23 rfl rfl nofun g30) ?_
         refine fV 2 [] rfl rfl (fun G hG => EvA.stO (g := false) (l := s25.1) (cs := [I ((s25.1.getD ((v4.2.getD s25.2.toNat default).toNat) default) + (1 : Int))]) ((s25.1.getD ((v4.2.getD s25.2.toNat default).toNat) default) + (1 : Int)) ty3 rfl rfl (hG.a0 rfl) nofun (toNat_lt' rfl g30) rfl rfl rfl) ?_
         refine TF.nil ?_
         refine T.clean (H0 := [some ⟨0, 2, 43, [[eL cI v5.1.From, eL (cL cI) v5.1.Order]]⟩, some ⟨0, 2, 43, [[eL cI v6.1.From, eL (cL cI) v6.1.Order]]⟩, bE false u27 1 3 ((s25.1.set ((v4.2.getD s25.2.toNat default).toNat) ((s25.1.getD ((v4.2.getD s25.2.toNat default).toNat) default) + (1 : Int))).map cI)]) (e0 := envOf [(13, I s25.2), (12, hS false 2 u27 1 s25.1.length), (11, I ((more.length : Int).tmod ((v4.2.length : Int) - (1 : Int)))), (6, eL cI v4.2), (5, eL (cL ZIn.c) v4.1)]) rfl (wkC rfl (wkC rfl (wkC rfl (wkC rfl (wkC rfl wkN))))) ?_
         refine T.region ?_
         refine oN (EvN.mv (I s25.2) rfl) ?_
         obtain ⟨g32, h⟩ := gdW h
         refine oN (EvN.add rfl rfl g32) ?_
         refine oN (EvN.asg (I (s25.2 + (1 : Int))) rfl) ?_
         refine TO.nil ?_
         obtain rfl := osi h
         exact ⟨((s25.1.set ((v4.2.getD s25.2.toNat default).toNat) ((s25.1.getD ((v4.2.getD s25.2.toNat default).toNat) default) + (1 : Int))), (s25.2 + (1 : Int))), u27, rfl, trivial, cutW rfl (wkC rfl (wkC (congrArg (hS false 2 u27 1) (by simp : s25.1.length = (s25.1.set ((v4.2.getD s25.2.toNat default).toNat) ((s25.1.getD ((v4.2.getD s25.2.toNat default).toNat) default) + (1 : Int))).length)) (wkC rfl (wkC rfl (wkC rfl wkN)))))⟩
        ·replace h := condF q28 h
         refine T.exit ?_
         refine ⟨_, (osi h).symm, fun h => ?_⟩
         replace h := congrArg some h
         obtain rfl := osi h
         exact ⟨u27, trivial, cutW rfl (wkC rfl (wkC rfl (wkC rfl (wkC rfl wkN))))⟩
end Go.Proofs.Ytlmjnhnpahicmaa
