/-
 The program's code computes the functions over plain values; printed by lift.py. No conditions.
-/
import Derived.Test.YtlmjnhnpahicmaaSQd
import Derived.Test.YtlmjnhnpahicmaaSf
namespace Go.Proofs.Ytlmjnhnpahicmaa
open Go.RowKit
set_option maxRecDepth 100000
theorem F_spec_l17Open_P (code : List Int) {q : Xspec_l17Rd} (h : F_spec_l17Open code = some q) : ACall Try.prog 73 [eL cY code] [] (.hp 0 0 2 0 0) [some ⟨0, 2, 139, [[eL cY q.b, I q.p]]⟩] := by
 refine ACall.mkT Try.func73 rfl (by kernel_rfl) rfl (by kernel_rfl) (e0 := envOf [(0, eL cY code)]) (wkC rfl wkN) ?_
 refine T.seq ?_
 refine T.region ?_
 refine oN (EvN.asg (.v (.pointer none)) rfl) ?_
 refine TO.nil ?_
 obtain ⟨s1, h, ks1⟩ := bindL h
 refine T.joinF (G := Unit) (fun gh => True) (fun gh => [(0, eL cY s1)]) (fun gh => []) (fun gh hg => ?_) ?_
 ·clear h
  have h := ks1
  clear ks1
  refine T.seq ?_
  refine T.region ?_
  refine oN (EvN.mv (eL cY s1) rfl) ?_
  refine oN (EvN.build [eL cY s1, I (0 : Int)] Try.underlying139 zs139 fs139 rfl rfl) ?_
  refine oA (EvA.bx (cs := [eL cY s1, I (0 : Int)]) rfl rfl rfl) ?_
  refine oN (EvN.asg (.hp 0 0 2 0 0) rfl) ?_
  refine TO.nil ?_
  refine T.ret ?_
  obtain rfl := osi h
  repeat (first|refine retS ?_|refine retB ?_)
  exact ⟨envOf [(2, .hp 0 0 2 0 0)], [some ⟨0, 2, 139, [[eL cY ((⟨s1, (0 : Int)⟩ : Xspec_l17Rd).b), I ((⟨s1, (0 : Int)⟩ : Xspec_l17Rd).p)]]⟩], cutW rfl (wkC rfl wkN), Fin.ret (vs := [.hp 0 0 2 0 0]) (.cons (.tmp rfl) .nil) ⟨rfl, rfl⟩⟩
 ·clear ks1
  refine T.seq ?_
  refine T.region ?_
  refine oN (EvN.mv (eL cY code) rfl) ?_
  refine oN (EvN.lenL sl52 rfl) ?_
  refine oN (EvN.igt rfl rfl) ?_
  refine TO.nil ?_
  refine T.cond rfl (fun q2 => ?_) (fun q2 => ?_)
  ·replace h := condT q2 h
   refine T.region ?_
   refine oN (EvN.mv (eL cY code) rfl) ?_
   obtain ⟨g3, h⟩ := gdD h
   refine oN (EvN.slL sl52 rfl .no (.yes rfl) g3 (fun _ => rfl)) ?_
   refine oN (EvN.asg (eL cY ((code.drop (0 : Int).toNat).take ((2000 : Int).toNat - (0 : Int).toNat))) rfl) ?_
   refine TO.nil ?_
   obtain rfl := osi h
   exact ⟨(), trivial, cutW rfl (wkC rfl wkN)⟩
  ·replace h := condF q2 h
   refine T.skip ?_
   obtain rfl := osi h
   exact ⟨(), trivial, cutW rfl (wkC rfl wkN)⟩
theorem F_spec_l17Rd_pick_P (r_ : Xspec_l17Rd) (n : Int) (ver0 : Nat) {q : Xspec_l17Rd × Int} (h : F_spec_l17Rd_pick r_ n = some q) : ACall Try.prog 126 [.hp 0 ver0 2 0 0, I n] [some ⟨ver0, 2, 139, [[eL cY r_.b, I r_.p]]⟩] (I q.2) [some ⟨ver0, 2, 139, [[eL cY q.1.b, I q.1.p]]⟩] := by
 refine ACall.mkT Try.func126 rfl (by kernel_rfl) rfl (by kernel_rfl) (e0 := envOf [(0, .hp 0 ver0 2 0 0), (1, I n)]) (wkC rfl (wkC rfl wkN)) ?_
 refine T.seq ?_
 refine T.region ?_
 refine oN (EvN.asg (I (0 : Int)) rfl) ?_
 refine TO.nil ?_
 refine T.seq ?_
 refine T.region ?_
 refine oN (EvN.mv (.hp 0 ver0 2 0 0) rfl) ?_
 refine oN (EvN.mv (.hp 0 ver0 2 0 0) rfl) ?_
 refine oN (EvN.nilhp rfl) ?_
 refine oN (EvN.fahp Try.underlying139 rfl (by kernel_rfl) rfl) ?_
 refine oA (EvA.loadhp (I r_.p) ty3 rfl rfl rfl rfl rfl rfl) ?_
 obtain ⟨g1, h⟩ := gdW h
 refine oN (EvN.add rfl rfl g1) ?_
 refine oN (EvN.nilhp rfl) ?_
 refine oN (EvN.fahp Try.underlying139 rfl (by kernel_rfl) rfl) ?_
 refine oV (EvA.st (cs := [I (r_.p + (1 : Int))]) ⟨ver0, 2, 139, [[eL cY r_.b, I (r_.p + (1 : Int))]]⟩ ty3 rfl rfl rfl rfl rfl rfl rfl rfl rfl) ?_
 refine TO.nil ?_
 refine T.seq ?_
 refine T.seq ?_
 refine T.clean (H0 := [some ⟨ver0, 2, 139, [[eL cY r_.b, I (r_.p + (1 : Int))]]⟩]) (e0 := envOf [(0, .hp 0 ver0 2 0 0), (1, I n)]) rfl (wkC rfl (wkC rfl wkN)) ?_
 refine T.region ?_
 refine oN (EvN.mv (I n) rfl) ?_
 refine oN (EvN.ilt rfl rfl) ?_
 refine oN (EvN.mv (Bo (decide (n < (1 : Int)))) rfl) ?_
 obtain ⟨s2, h, ks2⟩ := bindL h
 refine TO.joinF (G := Unit) 7 (fun _ => True) (fun _ => [(24, Bo s2), (0, .hp 0 ver0 2 0 0), (1, I n)]) (fun _ => [some ⟨ver0, 2, 139, [[eL cY r_.b, I (r_.p + (1 : Int))]]⟩]) ?_ (fun js2 => ?_)
 rotate_left
 ·clear ks2
  rcases bifL h with ⟨q3, h⟩ | ⟨q3, h⟩
  ·refine gS rfl q3 ?_
   refine gS rfl q3 ?_
   refine gS rfl q3 ?_
   refine gS rfl q3 ?_
   refine gS rfl q3 ?_
   refine gS rfl q3 ?_
   refine oN (EvN.pickT rfl q3 (Bo true) rfl) ?_
   obtain rfl := osi h
   exact js2 _ _ ⟨(), trivial, cutW rfl (wkC rfl (wkC rfl (wkC rfl wkN)))⟩
  ·refine gN rfl q3 (EvN.mv (.hp 0 ver0 2 0 0) rfl) ?_
   refine gN rfl q3 (EvN.nilhp rfl) ?_
   refine gN rfl q3 (EvN.fahp Try.underlying139 rfl (by kernel_rfl) rfl) ?_
   refine gA rfl q3 (EvA.loadhp (eL cY r_.b) ty52 rfl rfl rfl rfl rfl rfl) ?_
   refine gN rfl q3 (EvN.lenL sl52 rfl) ?_
   refine gN rfl q3 (EvN.ieq rfl rfl) ?_
   refine oN (EvN.pickF rfl q3 (Bo ((r_.b.length : Int) == (0 : Int))) rfl) ?_
   obtain rfl := osi h
   exact js2 _ _ ⟨(), trivial, cutW rfl (wkC rfl (wkC rfl (wkC rfl wkN)))⟩
 ·intro _ _
  replace h := ks2
  clear ks2
  refine TO.nil ?_
  refine T.cond rfl (fun q4 => ?_) (fun q4 => ?_)
  ·replace h := condT q4 h
   refine T.seq ?_
   refine T.region ?_
   refine oN (EvN.asg (I (0 : Int)) rfl) ?_
   refine TO.nil ?_
   refine T.ret ?_
   obtain rfl := osi h
   repeat (first|refine retS ?_|refine retB ?_)
   exact ⟨envOf [(4, I (0 : Int))], [some ⟨ver0, 2, 139, [[eL cY ((⟨r_.b, (r_.p + (1 : Int))⟩ : Xspec_l17Rd).b), I ((⟨r_.b, (r_.p + (1 : Int))⟩ : Xspec_l17Rd).p)]]⟩], cutW rfl (wkC rfl wkN), Fin.ret (vs := [I (0 : Int)]) (.cons (.tmp rfl) .nil) ⟨rfl, rfl⟩⟩
  ·replace h := condF q4 h
   refine T.skip ?_
   refine T.seq ?_
   refine T.region ?_
   refine oN (EvN.mv (.hp 0 ver0 2 0 0) rfl) ?_
   refine oN (EvN.nilhp rfl) ?_
   refine oN (EvN.fahp Try.underlying139 rfl (by kernel_rfl) rfl) ?_
   refine oA (EvA.loadhp (I (r_.p + (1 : Int))) ty3 rfl rfl rfl rfl rfl rfl) ?_
   obtain ⟨g5, h⟩ := gdW h
   refine oN (EvN.sub rfl rfl g5) ?_
   refine oN (EvN.asg (I ((r_.p + (1 : Int)) - (1 : Int))) rfl) ?_
   refine TO.nil ?_
   refine T.seq ?_
   refine T.seq ?_
   refine T.clean (H0 := [some ⟨ver0, 2, 139, [[eL cY r_.b, I (r_.p + (1 : Int))]]⟩]) (e0 := envOf [(5, I ((r_.p + (1 : Int)) - (1 : Int))), (0, .hp 0 ver0 2 0 0), (1, I n)]) rfl (wkC rfl (wkC rfl (wkC rfl wkN))) ?_
   refine T.region ?_
   refine oN (EvN.mv (I ((r_.p + (1 : Int)) - (1 : Int))) rfl) ?_
   refine oN (EvN.mv (.hp 0 ver0 2 0 0) rfl) ?_
   refine oN (EvN.nilhp rfl) ?_
   refine oN (EvN.fahp Try.underlying139 rfl (by kernel_rfl) rfl) ?_
   refine oA (EvA.loadhp (eL cY r_.b) ty52 rfl rfl rfl rfl rfl rfl) ?_
   refine oN (EvN.lenL sl52 rfl) ?_
   refine oN (EvN.ilt rfl rfl) ?_
   refine TO.nil ?_
   refine T.cond rfl (fun q6 => ?_) (fun q6 => ?_)
   ·replace h := condT q6 h
    refine T.seq ?_
    refine T.clean (H0 := [some ⟨ver0, 2, 139, [[eL cY r_.b, I (r_.p + (1 : Int))]]⟩]) (e0 := envOf [(5, I ((r_.p + (1 : Int)) - (1 : Int))), (0, .hp 0 ver0 2 0 0), (1, I n)]) rfl (wkC rfl (wkC rfl (wkC rfl wkN))) ?_
    refine T.region ?_
    refine oN (EvN.mv (.hp 0 ver0 2 0 0) rfl) ?_
    refine oN (EvN.nilhp rfl) ?_
    refine oN (EvN.fahp Try.underlying139 rfl (by kernel_rfl) rfl) ?_
    refine oA (EvA.loadhp (eL cY r_.b) ty52 rfl rfl rfl rfl rfl rfl) ?_
    refine oN (EvN.mv (I ((r_.p + (1 : Int)) - (1 : Int))) rfl) ?_
    obtain ⟨g7, h⟩ := gdD h
    refine oN (EvN.ixL sl52 rfl rfl g7 (fun _ => rfl)) ?_
    refine oN (EvN.loadfp (Y (r_.b.getD ((r_.p + (1 : Int)) - (1 : Int)).toNat default)) ty5 rfl rfl) ?_
    obtain ⟨g8, h⟩ := gdW h
    refine oN (EvN.iconv ty5.und Try.underlying3 rfl g8) ?_
    refine oN (EvN.mv (I n) rfl) ?_
    obtain ⟨g9, h⟩ := gdD h
    refine oN (EvN.rem rfl rfl g9) ?_
    refine oN (EvN.asg (I ((r_.b.getD ((r_.p + (1 : Int)) - (1 : Int)).toNat default).tmod n)) rfl) ?_
    refine TO.nil ?_
    refine T.ret ?_
    obtain rfl := osi h
    repeat (first|refine retS ?_|refine retB ?_)
    exact ⟨envOf [(4, I ((r_.b.getD ((r_.p + (1 : Int)) - (1 : Int)).toNat default).tmod n))], [some ⟨ver0, 2, 139, [[eL cY ((⟨r_.b, (r_.p + (1 : Int))⟩ : Xspec_l17Rd).b), I ((⟨r_.b, (r_.p + (1 : Int))⟩ : Xspec_l17Rd).p)]]⟩], cutW rfl (wkC rfl wkN), Fin.ret (vs := [I ((r_.b.getD ((r_.p + (1 : Int)) - (1 : Int)).toNat default).tmod n)]) (.cons (.tmp rfl) .nil) ⟨rfl, rfl⟩⟩
   ·replace h := condF q6 h
    refine T.skip ?_
    refine T.seq ?_
    refine T.clean (H0 := [some ⟨ver0, 2, 139, [[eL cY r_.b, I (r_.p + (1 : Int))]]⟩]) (e0 := envOf [(5, I ((r_.p + (1 : Int)) - (1 : Int))), (0, .hp 0 ver0 2 0 0), (1, I n)]) rfl (wkC rfl (wkC rfl (wkC rfl wkN))) ?_
    refine T.drawF (fun i => [([], false), ([], false), ([], false), ([0], false), ([], false), ([], false), ([], false), ([], false), ([0], false), ([], false), ([], false), ([], false), ([], false), ([], false), ([], false), ([], false), ([], false), ([], false), ([0], false), ([], false), ([], false), ([], false), ([], false), ([], false), ([], false), ([0], false), ([], false), ([], false), ([], false), ([], false), ([], false), ([], false), ([], false), ([], false), ([], false), ([], false), ([], false), ([], false), ([], false), ([], false), ([0], false), ([], false), ([], false), ([], false), ([], false), ([], false)].getD i ([], false)) (by kernel_rfl) (by kernel_rfl) ?_
    refine fN rfl (EvN.mv (.hp 0 ver0 2 0 0) rfl) ?_
    refine fN rfl (EvN.nilhp rfl) ?_
    refine fN rfl (EvN.fahp Try.underlying139 rfl (by kernel_rfl) rfl) ?_
    refine fR [0] rfl (fun G hG => EvA.loadhp (eL cY r_.b) ty52 rfl (hG.a0 rfl) rfl rfl rfl rfl) ?_
    refine fN rfl (EvN.mv (I ((r_.p + (1 : Int)) - (1 : Int))) rfl) ?_
    refine fN rfl (EvN.mv (.hp 0 ver0 2 0 0) rfl) ?_
    refine fN rfl (EvN.nilhp rfl) ?_
    refine fN rfl (EvN.fahp Try.underlying139 rfl (by kernel_rfl) rfl) ?_
    refine fR [0] rfl (fun G hG => EvA.loadhp (eL cY r_.b) ty52 rfl (hG.a0 rfl) rfl rfl rfl rfl) ?_
    refine fN rfl (EvN.lenL sl52 rfl) ?_
    obtain ⟨g10, h⟩ := gdD h
    refine fN rfl (EvN.rem rfl rfl g10) ?_
    obtain ⟨g11, h⟩ := gdD h
    refine fN rfl (EvN.ixL sl52 rfl rfl g11 (fun _ => rfl)) ?_
    refine fN rfl (EvN.loadfp (Y (r_.b.getD (((r_.p + (1 : Int)) - (1 : Int)).tmod (r_.b.length : Int)).toNat default)) ty5 rfl rfl) ?_
    obtain ⟨g12, h⟩ := gdW h
    refine fN rfl (EvN.iconv ty5.und Try.underlying3 rfl g12) ?_
    obtain ⟨g13, h⟩ := gdW h
    refine fN rfl (EvN.mul rfl rfl g13) ?_
    refine fN rfl (EvN.mv (.hp 0 ver0 2 0 0) rfl) ?_
    refine fN rfl (EvN.nilhp rfl) ?_
    refine fN rfl (EvN.fahp Try.underlying139 rfl (by kernel_rfl) rfl) ?_
    refine fR [0] rfl (fun G hG => EvA.loadhp (eL cY r_.b) ty52 rfl (hG.a0 rfl) rfl rfl rfl rfl) ?_
    refine fN rfl (EvN.mv (I ((r_.p + (1 : Int)) - (1 : Int))) rfl) ?_
    obtain ⟨g14, h⟩ := gdW h
    refine fN rfl (EvN.mul rfl rfl g14) ?_
    obtain ⟨g15, h⟩ := gdW h
    refine fN rfl (EvN.add rfl rfl g15) ?_
    refine fN rfl (EvN.mv (.hp 0 ver0 2 0 0) rfl) ?_
    refine fN rfl (EvN.nilhp rfl) ?_
    refine fN rfl (EvN.fahp Try.underlying139 rfl (by kernel_rfl) rfl) ?_
    refine fR [0] rfl (fun G hG => EvA.loadhp (eL cY r_.b) ty52 rfl (hG.a0 rfl) rfl rfl rfl rfl) ?_
    refine fN rfl (EvN.lenL sl52 rfl) ?_
    refine fN rfl (EvN.rem rfl rfl g10) ?_
    obtain ⟨g16, h⟩ := gdD h
    refine fN rfl (EvN.ixL sl52 rfl rfl g16 (fun _ => rfl)) ?_
    refine fN rfl (EvN.loadfp (Y (r_.b.getD (((((r_.p + (1 : Int)) - (1 : Int)) * (7 : Int)) + (3 : Int)).tmod (r_.b.length : Int)).toNat default)) ty5 rfl rfl) ?_
    obtain ⟨g17, h⟩ := gdW h
    refine fN rfl (EvN.iconv ty5.und Try.underlying3 rfl g17) ?_
    obtain ⟨g18, h⟩ := gdW h
    refine fN rfl (EvN.mul rfl rfl g18) ?_
    obtain ⟨g19, h⟩ := gdW h
    refine fN rfl (EvN.add rfl rfl g19) ?_
    refine fN rfl (EvN.mv (I ((r_.p + (1 : Int)) - (1 : Int))) rfl) ?_
    obtain ⟨g20, h⟩ := gdW h
    refine fN rfl (EvN.mul rfl rfl g20) ?_
    obtain ⟨g21, h⟩ := gdW h
    refine fN rfl (EvN.add rfl rfl g21) ?_
    refine fN rfl (EvN.mv (I ((r_.p + (1 : Int)) - (1 : Int))) rfl) ?_
    refine fN rfl (EvN.mv (.hp 0 ver0 2 0 0) rfl) ?_
    refine fN rfl (EvN.nilhp rfl) ?_
    refine fN rfl (EvN.fahp Try.underlying139 rfl (by kernel_rfl) rfl) ?_
    refine fR [0] rfl (fun G hG => EvA.loadhp (eL cY r_.b) ty52 rfl (hG.a0 rfl) rfl rfl rfl rfl) ?_
    refine fN rfl (EvN.lenL sl52 rfl) ?_
    obtain ⟨g22, h⟩ := gdW h
    refine fN rfl (EvN.quo rfl rfl g10 g22) ?_
    obtain ⟨g23, h⟩ := gdW h
    refine fN rfl (EvN.mul rfl rfl g23) ?_
    obtain ⟨g24, h⟩ := gdW h
    refine fN rfl (EvN.add rfl rfl g24) ?_
    refine fN rfl (EvN.asg (I (((((r_.b.getD (((r_.p + (1 : Int)) - (1 : Int)).tmod (r_.b.length : Int)).toNat default) * (131 : Int)) + ((r_.b.getD (((((r_.p + (1 : Int)) - (1 : Int)) * (7 : Int)) + (3 : Int)).tmod (r_.b.length : Int)).toNat default) * (1117 : Int))) + (((r_.p + (1 : Int)) - (1 : Int)) * (29 : Int))) + ((((r_.p + (1 : Int)) - (1 : Int)).tdiv (r_.b.length : Int)) * (53 : Int)))) rfl) ?_
    refine TF.nil ?_
    refine T.seq ?_
    refine T.clean (H0 := [some ⟨ver0, 2, 139, [[eL cY r_.b, I (r_.p + (1 : Int))]]⟩]) (e0 := envOf [(6, I (((((r_.b.getD (((r_.p + (1 : Int)) - (1 : Int)).tmod (r_.b.length : Int)).toNat default) * (131 : Int)) + ((r_.b.getD (((((r_.p + (1 : Int)) - (1 : Int)) * (7 : Int)) + (3 : Int)).tmod (r_.b.length : Int)).toNat default) * (1117 : Int))) + (((r_.p + (1 : Int)) - (1 : Int)) * (29 : Int))) + ((((r_.p + (1 : Int)) - (1 : Int)).tdiv (r_.b.length : Int)) * (53 : Int)))), (1, I n)]) rfl (wkC rfl (wkC rfl wkN)) ?_
    refine T.region ?_
    refine oN (EvN.mv (I (((((r_.b.getD (((r_.p + (1 : Int)) - (1 : Int)).tmod (r_.b.length : Int)).toNat default) * (131 : Int)) + ((r_.b.getD (((((r_.p + (1 : Int)) - (1 : Int)) * (7 : Int)) + (3 : Int)).tmod (r_.b.length : Int)).toNat default) * (1117 : Int))) + (((r_.p + (1 : Int)) - (1 : Int)) * (29 : Int))) + ((((r_.p + (1 : Int)) - (1 : Int)).tdiv (r_.b.length : Int)) * (53 : Int)))) rfl) ?_
    refine oN (EvN.mv (I (((((r_.b.getD (((r_.p + (1 : Int)) - (1 : Int)).tmod (r_.b.length : Int)).toNat default) * (131 : Int)) + ((r_.b.getD (((((r_.p + (1 : Int)) - (1 : Int)) * (7 : Int)) + (3 : Int)).tmod (r_.b.length : Int)).toNat default) * (1117 : Int))) + (((r_.p + (1 : Int)) - (1 : Int)) * (29 : Int))) + ((((r_.p + (1 : Int)) - (1 : Int)).tdiv (r_.b.length : Int)) * (53 : Int)))) rfl) ?_
    obtain ⟨g25, h⟩ := gdD h
    obtain ⟨g26, h⟩ := gdW h
    refine oN (EvN.quo rfl rfl g25 g26) ?_
    obtain ⟨w27, ew27, h⟩ := bindL h
    replace ew27 := osi ew27
    refine oN (EvN.res (EvN.bxor rfl rfl) (r' := I w27) (fun _ _ hr => by rw [← ew27]; exact hr)) ?_
    refine oN (EvN.asg (I w27) rfl) ?_
    refine TO.nil ?_
    refine T.seq ?_
    refine T.region ?_
    refine oN (EvN.mv (I w27) rfl) ?_
    refine oN (EvN.mv (I n) rfl) ?_
    obtain ⟨g28, h⟩ := gdD h
    refine oN (EvN.rem rfl rfl g28) ?_
    refine oN (EvN.asg (I (w27.tmod n)) rfl) ?_
    refine TO.nil ?_
    refine T.ret ?_
    obtain rfl := osi h
    repeat (first|refine retS ?_|refine retB ?_)
    exact ⟨envOf [(4, I (w27.tmod n))], [some ⟨ver0, 2, 139, [[eL cY ((⟨r_.b, (r_.p + (1 : Int))⟩ : Xspec_l17Rd).b), I ((⟨r_.b, (r_.p + (1 : Int))⟩ : Xspec_l17Rd).p)]]⟩], cutW rfl (wkC rfl wkN), Fin.ret (vs := [I (w27.tmod n)]) (.cons (.tmp rfl) .nil) ⟨rfl, rfl⟩⟩
theorem F_spec_l17Rd_num_P (r_ : Xspec_l17Rd) (list : List Int) (ver0 : Nat) {q : Xspec_l17Rd × Int} (h : F_spec_l17Rd_num r_ list = some q) : ACall Try.prog 128 [.hp 0 ver0 2 0 0, eL cI list] [some ⟨ver0, 2, 139, [[eL cY r_.b, I r_.p]]⟩] (I q.2) [some ⟨ver0, 2, 139, [[eL cY q.1.b, I q.1.p]]⟩] := by
 refine ACall.mkT Try.func128 rfl (by kernel_rfl) rfl (by kernel_rfl) (e0 := envOf [(0, .hp 0 ver0 2 0 0), (1, eL cI list)]) (wkC rfl (wkC rfl wkN)) ?_
 refine T.seq ?_
 refine T.region ?_
 refine oN (EvN.asg (I (0 : Int)) rfl) ?_
 refine TO.nil ?_
 refine T.seq ?_
 refine T.region ?_
 refine oN (EvN.mv (eL cI list) rfl) ?_
 refine oN (EvN.mv (.hp 0 ver0 2 0 0) rfl) ?_
 refine oN (EvN.mv (eL cI list) rfl) ?_
 refine oN (EvN.lenL sl23 rfl) ?_
 obtain ⟨v1, cv1, h⟩ := bindL h
 refine oA (EvA.call rfl rfl rfl ((F_spec_l17Rd_pick_P (⟨r_.b, r_.p⟩ : Xspec_l17Rd) (list.length : Int) ver0 cv1).one 0 rfl (.cons (.hp rfl) (.cons (.pF rfl) .nil)) (rowsF_row rfl) (rowsF_row rfl) rfl)) ?_
 obtain ⟨g2, h⟩ := gdD h
 refine oN (EvN.ixL sl23 rfl rfl g2 (fun _ => rfl)) ?_
 refine oN (EvN.loadfp (I (list.getD v1.2.toNat default)) ty3 rfl rfl) ?_
 refine oN (EvN.asg (I (list.getD v1.2.toNat default)) rfl) ?_
 refine TO.nil ?_
 refine T.ret ?_
 obtain rfl := osi h
 repeat (first|refine retS ?_|refine retB ?_)
 exact ⟨envOf [(4, I (list.getD v1.2.toNat default))], [some ⟨ver0, 2, 139, [[eL cY ((⟨v1.1.b, v1.1.p⟩ : Xspec_l17Rd).b), I ((⟨v1.1.b, v1.1.p⟩ : Xspec_l17Rd).p)]]⟩], cutW rfl (wkC rfl wkN), Fin.ret (vs := [I (list.getD v1.2.toNat default)]) (.cons (.tmp rfl) .nil) ⟨rfl, rfl⟩⟩
end Go.Proofs.Ytlmjnhnpahicmaa
