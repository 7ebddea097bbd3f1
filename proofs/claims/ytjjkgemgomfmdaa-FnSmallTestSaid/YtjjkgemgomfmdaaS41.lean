/-
  The program's code computes the functions over plain values; printed by lift.py. No conditions.
-/
import Derived.Test.YtjjkgemgomfmdaaS4d
import Derived.Test.YtjjkgemgomfmdaaS4f
import Derived.Test.YtjjkgemgomfmdaaBrN
namespace Go.Proofs.Ytjjkgemgomfmdaa
open Go.RowKit
set_option maxRecDepth 100000
theorem F_spec_l17Open_P (code : List Int) {q : Xspec_l17Rd} (h : F_spec_l17Open code = some q) : ACall Try.prog 60 [eL cY code] [] (.hp 0 0 2 0 0) [some ⟨0, 2, 92, [[eL cY q.b, I q.p]]⟩] := by
  refine ACall.mkT Try.func60 rfl (by kernel_rfl) rfl (by kernel_rfl) (e0 := envOf [(0, eL cY code)]) (weak_cons rfl weak_nil) ?_
  refine T.seq ?_
  refine T.region ?_
  refine oN (EvN.asg (.v (.pointer none)) rfl) ?_
  refine TO.nil ?_
  obtain ⟨s1, h, ks1⟩ := bindL h
  refine T.joinF (G := Unit) (fun gh => True) (fun gh => [(0, eL cY s1)]) (fun gh => []) (fun gh hg => ?_) ?_
  · clear h
    have h := ks1
    clear ks1
    refine T.seq ?_
    refine T.region ?_
    refine oN (EvN.mv (eL cY s1) rfl) ?_
    refine oN (EvN.build [eL cY s1, I (0 : Int)] Try.underlying92 zs92 fs92 rfl rfl) ?_
    refine oA (EvA.bx (cs := [eL cY s1, I (0 : Int)]) rfl rfl rfl) ?_
    refine oN (EvN.asg (.hp 0 0 2 0 0) rfl) ?_
    refine TO.nil ?_
    refine T.ret ?_
    obtain rfl := Option.some.inj h
    repeat first | refine retS ?_ | refine retB ?_
    exact ⟨envOf [(2, .hp 0 0 2 0 0)], [some ⟨0, 2, 92, [[eL cY ((⟨s1, (0 : Int)⟩ : Xspec_l17Rd).b), I ((⟨s1, (0 : Int)⟩ : Xspec_l17Rd).p)]]⟩], cutW rfl (weak_cons rfl weak_nil), Fin.ret (vs := [.hp 0 0 2 0 0]) (.cons (.tmp rfl) .nil) ⟨rfl, rfl⟩⟩
  · clear ks1
    refine T.seq ?_
    refine T.region ?_
    refine oN (EvN.mv (eL cY code) rfl) ?_
    refine oN (EvN.lenL sl36 rfl) ?_
    refine oN (EvN.igt rfl rfl) ?_
    refine TO.nil ?_
    refine T.cond rfl (fun q2 => ?_) (fun q2 => ?_)
    · replace h := condT q2 h
      refine T.region ?_
      refine oN (EvN.mv (eL cY code) rfl) ?_
      obtain ⟨g3, h⟩ := gdD h
      refine oN (EvN.slL sl36 rfl .no (.yes rfl) g3 (fun _ => rfl)) ?_
      refine oN (EvN.asg (eL cY ((code.drop (0 : Int).toNat).take ((2000 : Int).toNat - (0 : Int).toNat))) rfl) ?_
      refine TO.nil ?_
      obtain rfl := Option.some.inj h
      exact ⟨(), trivial, cutW rfl (weak_cons rfl weak_nil)⟩
    · replace h := condF q2 h
      refine T.skip ?_
      obtain rfl := Option.some.inj h
      exact ⟨(), trivial, cutW rfl (weak_cons rfl weak_nil)⟩

theorem F_spec_l17Rd_pick_P (r_ : Xspec_l17Rd) (n : Int) (ver0 : Nat) {q : Xspec_l17Rd × Int} (h : F_spec_l17Rd_pick r_ n = some q) : ACall Try.prog 61 [.hp 0 ver0 2 0 0, I n] [some ⟨ver0, 2, 92, [[eL cY r_.b, I r_.p]]⟩] (I q.2) [some ⟨ver0, 2, 92, [[eL cY q.1.b, I q.1.p]]⟩] := by
  refine ACall.mkT Try.func61 rfl (by kernel_rfl) rfl (by kernel_rfl) (e0 := envOf [(0, .hp 0 ver0 2 0 0), (1, I n)]) (weak_cons rfl (weak_cons rfl weak_nil)) ?_
  refine T.seq ?_
  refine T.region ?_
  refine oN (EvN.asg (I (0 : Int)) rfl) ?_
  refine TO.nil ?_
  refine T.seq ?_
  refine T.region ?_
  refine oN (EvN.mv (.hp 0 ver0 2 0 0) rfl) ?_
  refine oN (EvN.mv (.hp 0 ver0 2 0 0) rfl) ?_
  refine oN (EvN.nilhp rfl) ?_
  refine oN (EvN.fahp Try.underlying92 rfl (by kernel_rfl) rfl) ?_
  refine oA (EvA.loadhp (I r_.p) ty3 rfl rfl rfl rfl rfl rfl) ?_
  obtain ⟨g1, h⟩ := gdW h
  refine oN (EvN.add rfl rfl g1) ?_
  refine oN (EvN.nilhp rfl) ?_
  refine oN (EvN.fahp Try.underlying92 rfl (by kernel_rfl) rfl) ?_
  refine oV (EvA.st (cs := [I (r_.p + (1 : Int))]) ⟨ver0, 2, 92, [[eL cY r_.b, I (r_.p + (1 : Int))]]⟩ ty3 rfl rfl rfl rfl rfl rfl rfl rfl rfl) ?_
  refine TO.nil ?_
  refine T.seq ?_
  refine T.seq ?_
  refine T.clean (H0 := [some ⟨ver0, 2, 92, [[eL cY r_.b, I (r_.p + (1 : Int))]]⟩]) (e0 := envOf [(0, .hp 0 ver0 2 0 0), (1, I n)]) rfl (weak_cons rfl (weak_cons rfl weak_nil)) ?_
  refine T.region ?_
  refine oN (EvN.mv (I n) rfl) ?_
  refine oN (EvN.ilt rfl rfl) ?_
  refine oN (EvN.mv (Bo (decide (n < (1 : Int)))) rfl) ?_
  obtain ⟨s2, h, ks2⟩ := bindL h
  refine TO.joinF (G := Unit) 7 (fun _ => True) (fun _ => [(24, Bo s2), (0, .hp 0 ver0 2 0 0), (1, I n)]) (fun _ => [some ⟨ver0, 2, 92, [[eL cY r_.b, I (r_.p + (1 : Int))]]⟩]) ?_ (fun js2 => ?_)
  rotate_left
  · clear ks2
    rcases bifL h with ⟨q3, h⟩ | ⟨q3, h⟩
    · refine gS rfl q3 ?_
      refine gS rfl q3 ?_
      refine gS rfl q3 ?_
      refine gS rfl q3 ?_
      refine gS rfl q3 ?_
      refine gS rfl q3 ?_
      refine oN (EvN.pickT rfl q3 (Bo true) rfl) ?_
      obtain rfl := Option.some.inj h
      exact js2 _ _ ⟨(), trivial, cutW rfl (weak_cons rfl (weak_cons rfl (weak_cons rfl weak_nil)))⟩
    · refine gN rfl q3 (EvN.mv (.hp 0 ver0 2 0 0) rfl) ?_
      refine gN rfl q3 (EvN.nilhp rfl) ?_
      refine gN rfl q3 (EvN.fahp Try.underlying92 rfl (by kernel_rfl) rfl) ?_
      refine gA rfl q3 (EvA.loadhp (eL cY r_.b) ty36 rfl rfl rfl rfl rfl rfl) ?_
      refine gN rfl q3 (EvN.lenL sl36 rfl) ?_
      refine gN rfl q3 (EvN.ieq rfl rfl) ?_
      refine oN (EvN.pickF rfl q3 (Bo ((r_.b.length : Int) == (0 : Int))) rfl) ?_
      obtain rfl := Option.some.inj h
      exact js2 _ _ ⟨(), trivial, cutW rfl (weak_cons rfl (weak_cons rfl (weak_cons rfl weak_nil)))⟩
  · intro _ _
    replace h := ks2
    clear ks2
    refine TO.nil ?_
    refine T.cond rfl (fun q4 => ?_) (fun q4 => ?_)
    · replace h := condT q4 h
      refine T.seq ?_
      refine T.region ?_
      refine oN (EvN.asg (I (0 : Int)) rfl) ?_
      refine TO.nil ?_
      refine T.ret ?_
      obtain rfl := Option.some.inj h
      repeat first | refine retS ?_ | refine retB ?_
      exact ⟨envOf [(4, I (0 : Int))], [some ⟨ver0, 2, 92, [[eL cY ((⟨r_.b, (r_.p + (1 : Int))⟩ : Xspec_l17Rd).b), I ((⟨r_.b, (r_.p + (1 : Int))⟩ : Xspec_l17Rd).p)]]⟩], cutW rfl (weak_cons rfl weak_nil), Fin.ret (vs := [I (0 : Int)]) (.cons (.tmp rfl) .nil) ⟨rfl, rfl⟩⟩
    · replace h := condF q4 h
      refine T.skip ?_
      refine T.seq ?_
      refine T.region ?_
      refine oN (EvN.mv (.hp 0 ver0 2 0 0) rfl) ?_
      refine oN (EvN.nilhp rfl) ?_
      refine oN (EvN.fahp Try.underlying92 rfl (by kernel_rfl) rfl) ?_
      refine oA (EvA.loadhp (I (r_.p + (1 : Int))) ty3 rfl rfl rfl rfl rfl rfl) ?_
      obtain ⟨g5, h⟩ := gdW h
      refine oN (EvN.sub rfl rfl g5) ?_
      refine oN (EvN.asg (I ((r_.p + (1 : Int)) - (1 : Int))) rfl) ?_
      refine TO.nil ?_
      refine T.seq ?_
      refine T.seq ?_
      refine T.clean (H0 := [some ⟨ver0, 2, 92, [[eL cY r_.b, I (r_.p + (1 : Int))]]⟩]) (e0 := envOf [(5, I ((r_.p + (1 : Int)) - (1 : Int))), (0, .hp 0 ver0 2 0 0), (1, I n)]) rfl (weak_cons rfl (weak_cons rfl (weak_cons rfl weak_nil))) ?_
      refine T.region ?_
      refine oN (EvN.mv (I ((r_.p + (1 : Int)) - (1 : Int))) rfl) ?_
      refine oN (EvN.mv (.hp 0 ver0 2 0 0) rfl) ?_
      refine oN (EvN.nilhp rfl) ?_
      refine oN (EvN.fahp Try.underlying92 rfl (by kernel_rfl) rfl) ?_
      refine oA (EvA.loadhp (eL cY r_.b) ty36 rfl rfl rfl rfl rfl rfl) ?_
      refine oN (EvN.lenL sl36 rfl) ?_
      refine oN (EvN.ilt rfl rfl) ?_
      refine TO.nil ?_
      refine T.cond rfl (fun q6 => ?_) (fun q6 => ?_)
      · replace h := condT q6 h
        refine T.seq ?_
        refine T.clean (H0 := [some ⟨ver0, 2, 92, [[eL cY r_.b, I (r_.p + (1 : Int))]]⟩]) (e0 := envOf [(5, I ((r_.p + (1 : Int)) - (1 : Int))), (0, .hp 0 ver0 2 0 0), (1, I n)]) rfl (weak_cons rfl (weak_cons rfl (weak_cons rfl weak_nil))) ?_
        refine T.region ?_
        refine oN (EvN.mv (.hp 0 ver0 2 0 0) rfl) ?_
        refine oN (EvN.nilhp rfl) ?_
        refine oN (EvN.fahp Try.underlying92 rfl (by kernel_rfl) rfl) ?_
        refine oA (EvA.loadhp (eL cY r_.b) ty36 rfl rfl rfl rfl rfl rfl) ?_
        refine oN (EvN.mv (I ((r_.p + (1 : Int)) - (1 : Int))) rfl) ?_
        obtain ⟨g7, h⟩ := gdD h
        refine oN (EvN.ixL sl36 rfl rfl g7 (fun _ => rfl)) ?_
        refine oN (EvN.loadfp (Y (r_.b.getD ((r_.p + (1 : Int)) - (1 : Int)).toNat default)) ty5 rfl rfl) ?_
        obtain ⟨g8, h⟩ := gdW h
        refine oN (EvN.iconv ty5.und Try.underlying3 rfl g8) ?_
        refine oN (EvN.mv (I n) rfl) ?_
        obtain ⟨g9, h⟩ := gdD h
        refine oN (EvN.rem rfl rfl g9) ?_
        refine oN (EvN.asg (I ((r_.b.getD ((r_.p + (1 : Int)) - (1 : Int)).toNat default).tmod n)) rfl) ?_
        refine TO.nil ?_
        refine T.ret ?_
        obtain rfl := Option.some.inj h
        repeat first | refine retS ?_ | refine retB ?_
        exact ⟨envOf [(4, I ((r_.b.getD ((r_.p + (1 : Int)) - (1 : Int)).toNat default).tmod n))], [some ⟨ver0, 2, 92, [[eL cY ((⟨r_.b, (r_.p + (1 : Int))⟩ : Xspec_l17Rd).b), I ((⟨r_.b, (r_.p + (1 : Int))⟩ : Xspec_l17Rd).p)]]⟩], cutW rfl (weak_cons rfl weak_nil), Fin.ret (vs := [I ((r_.b.getD ((r_.p + (1 : Int)) - (1 : Int)).toNat default).tmod n)]) (.cons (.tmp rfl) .nil) ⟨rfl, rfl⟩⟩
      · replace h := condF q6 h
        refine T.skip ?_
        refine T.seq ?_
        refine T.clean (H0 := [some ⟨ver0, 2, 92, [[eL cY r_.b, I (r_.p + (1 : Int))]]⟩]) (e0 := envOf [(5, I ((r_.p + (1 : Int)) - (1 : Int))), (0, .hp 0 ver0 2 0 0), (1, I n)]) rfl (weak_cons rfl (weak_cons rfl (weak_cons rfl weak_nil))) ?_
        refine T.drawF (fun i => [([], false), ([], false), ([], false), ([0], false), ([], false), ([], false), ([], false), ([], false), ([0], false), ([], false), ([], false), ([], false), ([], false), ([], false), ([], false), ([], false), ([], false), ([], false), ([0], false), ([], false), ([], false), ([], false), ([], false), ([], false), ([], false), ([0], false), ([], false), ([], false), ([], false), ([], false), ([], false), ([], false), ([], false), ([], false), ([], false), ([], false), ([], false), ([], false), ([], false), ([], false), ([0], false), ([], false), ([], false), ([], false), ([], false), ([], false)].getD i ([], false)) (by kernel_rfl) (by kernel_rfl) ?_
        refine fN rfl (EvN.mv (.hp 0 ver0 2 0 0) rfl) ?_
        refine fN rfl (EvN.nilhp rfl) ?_
        refine fN rfl (EvN.fahp Try.underlying92 rfl (by kernel_rfl) rfl) ?_
        refine fR [0] rfl (fun G hG => EvA.loadhp (eL cY r_.b) ty36 rfl (hG.a0 rfl) rfl rfl rfl rfl) ?_
        refine fN rfl (EvN.mv (I ((r_.p + (1 : Int)) - (1 : Int))) rfl) ?_
        refine fN rfl (EvN.mv (.hp 0 ver0 2 0 0) rfl) ?_
        refine fN rfl (EvN.nilhp rfl) ?_
        refine fN rfl (EvN.fahp Try.underlying92 rfl (by kernel_rfl) rfl) ?_
        refine fR [0] rfl (fun G hG => EvA.loadhp (eL cY r_.b) ty36 rfl (hG.a0 rfl) rfl rfl rfl rfl) ?_
        refine fN rfl (EvN.lenL sl36 rfl) ?_
        obtain ⟨g10, h⟩ := gdD h
        refine fN rfl (EvN.rem rfl rfl g10) ?_
        obtain ⟨g11, h⟩ := gdD h
        refine fN rfl (EvN.ixL sl36 rfl rfl g11 (fun _ => rfl)) ?_
        refine fN rfl (EvN.loadfp (Y (r_.b.getD (((r_.p + (1 : Int)) - (1 : Int)).tmod (r_.b.length : Int)).toNat default)) ty5 rfl rfl) ?_
        obtain ⟨g12, h⟩ := gdW h
        refine fN rfl (EvN.iconv ty5.und Try.underlying3 rfl g12) ?_
        obtain ⟨g13, h⟩ := gdW h
        refine fN rfl (EvN.mul rfl rfl g13) ?_
        refine fN rfl (EvN.mv (.hp 0 ver0 2 0 0) rfl) ?_
        refine fN rfl (EvN.nilhp rfl) ?_
        refine fN rfl (EvN.fahp Try.underlying92 rfl (by kernel_rfl) rfl) ?_
        refine fR [0] rfl (fun G hG => EvA.loadhp (eL cY r_.b) ty36 rfl (hG.a0 rfl) rfl rfl rfl rfl) ?_
        refine fN rfl (EvN.mv (I ((r_.p + (1 : Int)) - (1 : Int))) rfl) ?_
        obtain ⟨g14, h⟩ := gdW h
        refine fN rfl (EvN.mul rfl rfl g14) ?_
        obtain ⟨g15, h⟩ := gdW h
        refine fN rfl (EvN.add rfl rfl g15) ?_
        refine fN rfl (EvN.mv (.hp 0 ver0 2 0 0) rfl) ?_
        refine fN rfl (EvN.nilhp rfl) ?_
        refine fN rfl (EvN.fahp Try.underlying92 rfl (by kernel_rfl) rfl) ?_
        refine fR [0] rfl (fun G hG => EvA.loadhp (eL cY r_.b) ty36 rfl (hG.a0 rfl) rfl rfl rfl rfl) ?_
        refine fN rfl (EvN.lenL sl36 rfl) ?_
        refine fN rfl (EvN.rem rfl rfl g10) ?_
        obtain ⟨g16, h⟩ := gdD h
        refine fN rfl (EvN.ixL sl36 rfl rfl g16 (fun _ => rfl)) ?_
        refine fN rfl (EvN.loadfp (Y (r_.b.getD (((((r_.p + (1 : Int)) - (1 : Int)) * (7 : Int)) + (3 : Int)).tmod (r_.b.length : Int)).toNat default)) ty5 rfl rfl) ?_
        obtain ⟨g17, h⟩ := gdW h
        refine fN rfl (EvN.iconv ty5.und Try.underlying3 rfl g17) ?_
        obtain ⟨g18, h⟩ := gdW h
        refine fN rfl (EvN.mul rfl rfl g18) ?_
        obtain ⟨g19, h⟩ := gdW h
        refine fN rfl (EvN.add rfl rfl g19) ?_
        refine fN rfl (EvN.mv (I ((r_.p + (1 : Int)) - (1 : Int))) rfl) ?_
        obtain ⟨g20, h⟩ := gdW h
        refine fN rfl (EvN.mul rfl rfl g20) ?_
        obtain ⟨g21, h⟩ := gdW h
        refine fN rfl (EvN.add rfl rfl g21) ?_
        refine fN rfl (EvN.mv (I ((r_.p + (1 : Int)) - (1 : Int))) rfl) ?_
        refine fN rfl (EvN.mv (.hp 0 ver0 2 0 0) rfl) ?_
        refine fN rfl (EvN.nilhp rfl) ?_
        refine fN rfl (EvN.fahp Try.underlying92 rfl (by kernel_rfl) rfl) ?_
        refine fR [0] rfl (fun G hG => EvA.loadhp (eL cY r_.b) ty36 rfl (hG.a0 rfl) rfl rfl rfl rfl) ?_
        refine fN rfl (EvN.lenL sl36 rfl) ?_
        obtain ⟨g22, h⟩ := gdW h
        refine fN rfl (EvN.quo rfl rfl g10 g22) ?_
        obtain ⟨g23, h⟩ := gdW h
        refine fN rfl (EvN.mul rfl rfl g23) ?_
        obtain ⟨g24, h⟩ := gdW h
        refine fN rfl (EvN.add rfl rfl g24) ?_
        refine fN rfl (EvN.asg (I (((((r_.b.getD (((r_.p + (1 : Int)) - (1 : Int)).tmod (r_.b.length : Int)).toNat default) * (131 : Int)) + ((r_.b.getD (((((r_.p + (1 : Int)) - (1 : Int)) * (7 : Int)) + (3 : Int)).tmod (r_.b.length : Int)).toNat default) * (1117 : Int))) + (((r_.p + (1 : Int)) - (1 : Int)) * (29 : Int))) + ((((r_.p + (1 : Int)) - (1 : Int)).tdiv (r_.b.length : Int)) * (53 : Int)))) rfl) ?_
        refine TF.nil ?_
        refine T.seq ?_
        refine T.clean (H0 := [some ⟨ver0, 2, 92, [[eL cY r_.b, I (r_.p + (1 : Int))]]⟩]) (e0 := envOf [(6, I (((((r_.b.getD (((r_.p + (1 : Int)) - (1 : Int)).tmod (r_.b.length : Int)).toNat default) * (131 : Int)) + ((r_.b.getD (((((r_.p + (1 : Int)) - (1 : Int)) * (7 : Int)) + (3 : Int)).tmod (r_.b.length : Int)).toNat default) * (1117 : Int))) + (((r_.p + (1 : Int)) - (1 : Int)) * (29 : Int))) + ((((r_.p + (1 : Int)) - (1 : Int)).tdiv (r_.b.length : Int)) * (53 : Int)))), (1, I n)]) rfl (weak_cons rfl (weak_cons rfl weak_nil)) ?_
        refine T.region ?_
        refine oN (EvN.mv (I (((((r_.b.getD (((r_.p + (1 : Int)) - (1 : Int)).tmod (r_.b.length : Int)).toNat default) * (131 : Int)) + ((r_.b.getD (((((r_.p + (1 : Int)) - (1 : Int)) * (7 : Int)) + (3 : Int)).tmod (r_.b.length : Int)).toNat default) * (1117 : Int))) + (((r_.p + (1 : Int)) - (1 : Int)) * (29 : Int))) + ((((r_.p + (1 : Int)) - (1 : Int)).tdiv (r_.b.length : Int)) * (53 : Int)))) rfl) ?_
        refine oN (EvN.mv (I (((((r_.b.getD (((r_.p + (1 : Int)) - (1 : Int)).tmod (r_.b.length : Int)).toNat default) * (131 : Int)) + ((r_.b.getD (((((r_.p + (1 : Int)) - (1 : Int)) * (7 : Int)) + (3 : Int)).tmod (r_.b.length : Int)).toNat default) * (1117 : Int))) + (((r_.p + (1 : Int)) - (1 : Int)) * (29 : Int))) + ((((r_.p + (1 : Int)) - (1 : Int)).tdiv (r_.b.length : Int)) * (53 : Int)))) rfl) ?_
        obtain ⟨g25, h⟩ := gdD h
        obtain ⟨g26, h⟩ := gdW h
        refine oN (EvN.quo rfl rfl g25 g26) ?_
        refine oN (EvN.bxor rfl rfl) ?_
        refine oN (EvN.asg (I (bXor .i64 (((((r_.b.getD (((r_.p + (1 : Int)) - (1 : Int)).tmod (r_.b.length : Int)).toNat default) * (131 : Int)) + ((r_.b.getD (((((r_.p + (1 : Int)) - (1 : Int)) * (7 : Int)) + (3 : Int)).tmod (r_.b.length : Int)).toNat default) * (1117 : Int))) + (((r_.p + (1 : Int)) - (1 : Int)) * (29 : Int))) + ((((r_.p + (1 : Int)) - (1 : Int)).tdiv (r_.b.length : Int)) * (53 : Int))) ((((((r_.b.getD (((r_.p + (1 : Int)) - (1 : Int)).tmod (r_.b.length : Int)).toNat default) * (131 : Int)) + ((r_.b.getD (((((r_.p + (1 : Int)) - (1 : Int)) * (7 : Int)) + (3 : Int)).tmod (r_.b.length : Int)).toNat default) * (1117 : Int))) + (((r_.p + (1 : Int)) - (1 : Int)) * (29 : Int))) + ((((r_.p + (1 : Int)) - (1 : Int)).tdiv (r_.b.length : Int)) * (53 : Int))).tdiv (64 : Int)))) rfl) ?_
        refine TO.nil ?_
        refine T.seq ?_
        refine T.region ?_
        refine oN (EvN.mv (I (bXor .i64 (((((r_.b.getD (((r_.p + (1 : Int)) - (1 : Int)).tmod (r_.b.length : Int)).toNat default) * (131 : Int)) + ((r_.b.getD (((((r_.p + (1 : Int)) - (1 : Int)) * (7 : Int)) + (3 : Int)).tmod (r_.b.length : Int)).toNat default) * (1117 : Int))) + (((r_.p + (1 : Int)) - (1 : Int)) * (29 : Int))) + ((((r_.p + (1 : Int)) - (1 : Int)).tdiv (r_.b.length : Int)) * (53 : Int))) ((((((r_.b.getD (((r_.p + (1 : Int)) - (1 : Int)).tmod (r_.b.length : Int)).toNat default) * (131 : Int)) + ((r_.b.getD (((((r_.p + (1 : Int)) - (1 : Int)) * (7 : Int)) + (3 : Int)).tmod (r_.b.length : Int)).toNat default) * (1117 : Int))) + (((r_.p + (1 : Int)) - (1 : Int)) * (29 : Int))) + ((((r_.p + (1 : Int)) - (1 : Int)).tdiv (r_.b.length : Int)) * (53 : Int))).tdiv (64 : Int)))) rfl) ?_
        refine oN (EvN.mv (I n) rfl) ?_
        obtain ⟨g27, h⟩ := gdD h
        refine oN (EvN.rem rfl rfl g27) ?_
        refine oN (EvN.asg (I ((bXor .i64 (((((r_.b.getD (((r_.p + (1 : Int)) - (1 : Int)).tmod (r_.b.length : Int)).toNat default) * (131 : Int)) + ((r_.b.getD (((((r_.p + (1 : Int)) - (1 : Int)) * (7 : Int)) + (3 : Int)).tmod (r_.b.length : Int)).toNat default) * (1117 : Int))) + (((r_.p + (1 : Int)) - (1 : Int)) * (29 : Int))) + ((((r_.p + (1 : Int)) - (1 : Int)).tdiv (r_.b.length : Int)) * (53 : Int))) ((((((r_.b.getD (((r_.p + (1 : Int)) - (1 : Int)).tmod (r_.b.length : Int)).toNat default) * (131 : Int)) + ((r_.b.getD (((((r_.p + (1 : Int)) - (1 : Int)) * (7 : Int)) + (3 : Int)).tmod (r_.b.length : Int)).toNat default) * (1117 : Int))) + (((r_.p + (1 : Int)) - (1 : Int)) * (29 : Int))) + ((((r_.p + (1 : Int)) - (1 : Int)).tdiv (r_.b.length : Int)) * (53 : Int))).tdiv (64 : Int))).tmod n)) rfl) ?_
        refine TO.nil ?_
        refine T.ret ?_
        obtain rfl := Option.some.inj h
        repeat first | refine retS ?_ | refine retB ?_
        exact ⟨envOf [(4, I ((bXor .i64 (((((r_.b.getD (((r_.p + (1 : Int)) - (1 : Int)).tmod (r_.b.length : Int)).toNat default) * (131 : Int)) + ((r_.b.getD (((((r_.p + (1 : Int)) - (1 : Int)) * (7 : Int)) + (3 : Int)).tmod (r_.b.length : Int)).toNat default) * (1117 : Int))) + (((r_.p + (1 : Int)) - (1 : Int)) * (29 : Int))) + ((((r_.p + (1 : Int)) - (1 : Int)).tdiv (r_.b.length : Int)) * (53 : Int))) ((((((r_.b.getD (((r_.p + (1 : Int)) - (1 : Int)).tmod (r_.b.length : Int)).toNat default) * (131 : Int)) + ((r_.b.getD (((((r_.p + (1 : Int)) - (1 : Int)) * (7 : Int)) + (3 : Int)).tmod (r_.b.length : Int)).toNat default) * (1117 : Int))) + (((r_.p + (1 : Int)) - (1 : Int)) * (29 : Int))) + ((((r_.p + (1 : Int)) - (1 : Int)).tdiv (r_.b.length : Int)) * (53 : Int))).tdiv (64 : Int))).tmod n))], [some ⟨ver0, 2, 92, [[eL cY ((⟨r_.b, (r_.p + (1 : Int))⟩ : Xspec_l17Rd).b), I ((⟨r_.b, (r_.p + (1 : Int))⟩ : Xspec_l17Rd).p)]]⟩], cutW rfl (weak_cons rfl weak_nil), Fin.ret (vs := [I ((bXor .i64 (((((r_.b.getD (((r_.p + (1 : Int)) - (1 : Int)).tmod (r_.b.length : Int)).toNat default) * (131 : Int)) + ((r_.b.getD (((((r_.p + (1 : Int)) - (1 : Int)) * (7 : Int)) + (3 : Int)).tmod (r_.b.length : Int)).toNat default) * (1117 : Int))) + (((r_.p + (1 : Int)) - (1 : Int)) * (29 : Int))) + ((((r_.p + (1 : Int)) - (1 : Int)).tdiv (r_.b.length : Int)) * (53 : Int))) ((((((r_.b.getD (((r_.p + (1 : Int)) - (1 : Int)).tmod (r_.b.length : Int)).toNat default) * (131 : Int)) + ((r_.b.getD (((((r_.p + (1 : Int)) - (1 : Int)) * (7 : Int)) + (3 : Int)).tmod (r_.b.length : Int)).toNat default) * (1117 : Int))) + (((r_.p + (1 : Int)) - (1 : Int)) * (29 : Int))) + ((((r_.p + (1 : Int)) - (1 : Int)).tdiv (r_.b.length : Int)) * (53 : Int))).tdiv (64 : Int))).tmod n)]) (.cons (.tmp rfl) .nil) ⟨rfl, rfl⟩⟩

theorem F_spec_l17Rd_num_P (r_ : Xspec_l17Rd) (list : List Int) (ver0 : Nat) {q : Xspec_l17Rd × Int} (h : F_spec_l17Rd_num r_ list = some q) : ACall Try.prog 62 [.hp 0 ver0 2 0 0, eL cI list] [some ⟨ver0, 2, 92, [[eL cY r_.b, I r_.p]]⟩] (I q.2) [some ⟨ver0, 2, 92, [[eL cY q.1.b, I q.1.p]]⟩] := by
  refine ACall.mkT Try.func62 rfl (by kernel_rfl) rfl (by kernel_rfl) (e0 := envOf [(0, .hp 0 ver0 2 0 0), (1, eL cI list)]) (weak_cons rfl (weak_cons rfl weak_nil)) ?_
  refine T.seq ?_
  refine T.region ?_
  refine oN (EvN.asg (I (0 : Int)) rfl) ?_
  refine TO.nil ?_
  refine T.seq ?_
  refine T.region ?_
  refine oN (EvN.mv (eL cI list) rfl) ?_
  refine oN (EvN.mv (.hp 0 ver0 2 0 0) rfl) ?_
  refine oN (EvN.mv (eL cI list) rfl) ?_
  refine oN (EvN.lenL sl46 rfl) ?_
  obtain ⟨v1, cv1, h⟩ := bindL h
  refine oA (EvA.call rfl rfl rfl ((F_spec_l17Rd_pick_P (⟨r_.b, r_.p⟩ : Xspec_l17Rd) (list.length : Int) ver0 cv1).one 0 rfl (.cons (.hp rfl) (.cons (.pF rfl) .nil)) (rowsF_row rfl) (rowsF_row rfl) rfl)) ?_
  obtain ⟨g2, h⟩ := gdD h
  refine oN (EvN.ixL sl46 rfl rfl g2 (fun _ => rfl)) ?_
  refine oN (EvN.loadfp (I (list.getD v1.2.toNat default)) ty3 rfl rfl) ?_
  refine oN (EvN.asg (I (list.getD v1.2.toNat default)) rfl) ?_
  refine TO.nil ?_
  refine T.ret ?_
  obtain rfl := Option.some.inj h
  repeat first | refine retS ?_ | refine retB ?_
  exact ⟨envOf [(4, I (list.getD v1.2.toNat default))], [some ⟨ver0, 2, 92, [[eL cY ((⟨v1.1.b, v1.1.p⟩ : Xspec_l17Rd).b), I ((⟨v1.1.b, v1.1.p⟩ : Xspec_l17Rd).p)]]⟩], cutW rfl (weak_cons rfl weak_nil), Fin.ret (vs := [I (list.getD v1.2.toNat default)]) (.cons (.tmp rfl) .nil) ⟨rfl, rfl⟩⟩

theorem F_spec_DrawSmallTest_P (code : List Int) {q : Int} (h : F_spec_DrawSmallTest code = some q) : PCall Try.prog 26 [eL cY code] (I q) := by
  refine PCall.mkT Try.func26 rfl (by kernel_rfl) rfl (by kernel_rfl) (e0 := envOf [(0, eL cY code)]) (weak_cons rfl weak_nil) ?_
  refine T.seq ?_
  refine T.region ?_
  refine oN (EvN.asg (I (0 : Int)) rfl) ?_
  refine TO.nil ?_
  refine T.seq ?_
  refine T.region ?_
  refine oN (EvN.mv (eL cY code) rfl) ?_
  obtain ⟨v1, cv1, h⟩ := bindL h
  refine oA (EvA.call rfl rfl rfl ((F_spec_l17Open_P code cv1).fresh rfl (rowsF_row rfl) 0 rfl)) ?_
  refine oN (EvN.asg (.hp 0 0 2 0 0) rfl) ?_
  refine TO.nil ?_
  refine T.seq ?_
  refine T.seq ?_
  refine T.region ?_
  refine oN (EvN.mv (.hp 0 0 2 0 0) rfl) ?_
  obtain ⟨v2, cv2, h⟩ := bindL h
  refine oA (EvA.call rfl rfl rfl ((F_spec_l17Rd_pick_P (⟨v1.b, v1.p⟩ : Xspec_l17Rd) (10 : Int) 0 cv2).one 0 rfl (.cons (.hp rfl) (.cons (.pF rfl) .nil)) (rowsF_row rfl) (rowsF_row rfl) rfl)) ?_
  refine oN (EvN.ieq rfl rfl) ?_
  refine TO.nil ?_
  refine T.cond rfl (fun q3 => ?_) (fun q3 => ?_)
  · replace h := condT q3 h
    refine T.seq ?_
    refine T.clean (H0 := [some ⟨0, 2, 92, [[eL cY v2.1.b, I v2.1.p]]⟩]) (e0 := envOf [(3, .hp 0 0 2 0 0)]) rfl (weak_cons rfl weak_nil) ?_
    refine T.region ?_
    refine oN (EvN.mv (.hp 0 0 2 0 0) rfl) ?_
    refine oN (EvN.mkF (c := cI) ([(-1 : Int), (1296 : Int), (1295 : Int), (0 : Int)] : List Int) [[I (-1 : Int)], [I (1296 : Int)], [I (1295 : Int)], [I (0 : Int)]] sl46 rfl rfl rfl (fun _ => rfl) (fun _ => rfl) rfl) ?_
    obtain ⟨v4, cv4, h⟩ := bindL h
    refine oA (EvA.call rfl rfl rfl ((F_spec_l17Rd_num_P (⟨v2.1.b, v2.1.p⟩ : Xspec_l17Rd) ([(-1 : Int), (1296 : Int), (1295 : Int), (0 : Int)] : List Int) 0 cv4).one 0 rfl (.cons (.hp rfl) (.cons (.pF rfl) .nil)) (rowsF_row rfl) (rowsF_row rfl) rfl)) ?_
    refine oN (EvN.asg (I v4.2) rfl) ?_
    refine TO.nil ?_
    refine T.ret ?_
    obtain rfl := Option.some.inj h
    repeat first | refine retS ?_ | refine retB ?_
    exact Fin.ret (vs := [I v4.2]) (.cons (.tmp rfl) .nil) (.of_isF 9 _ rfl)
  · replace h := condF q3 h
    refine T.skip ?_
    refine T.seq ?_
    refine T.clean (H0 := [some ⟨0, 2, 92, [[eL cY v2.1.b, I v2.1.p]]⟩]) (e0 := envOf [(3, .hp 0 0 2 0 0)]) rfl (weak_cons rfl weak_nil) ?_
    refine T.region ?_
    refine oN (EvN.mv (.hp 0 0 2 0 0) rfl) ?_
    obtain ⟨v5, cv5, h⟩ := bindL h
    refine oA (EvA.call rfl rfl rfl ((F_spec_l17Rd_pick_P (⟨v2.1.b, v2.1.p⟩ : Xspec_l17Rd) (36 : Int) 0 cv5).one 0 rfl (.cons (.hp rfl) (.cons (.pF rfl) .nil)) (rowsF_row rfl) (rowsF_row rfl) rfl)) ?_
    obtain ⟨g6, h⟩ := gdW h
    refine oN (EvN.mul rfl rfl g6) ?_
    refine oN (EvN.mv (.hp 0 0 2 0 0) rfl) ?_
    obtain ⟨v7, cv7, h⟩ := bindL h
    refine oA (EvA.call rfl rfl rfl ((F_spec_l17Rd_pick_P (⟨v5.1.b, v5.1.p⟩ : Xspec_l17Rd) (36 : Int) 0 cv7).one 0 rfl (.cons (.hp rfl) (.cons (.pF rfl) .nil)) (rowsF_row rfl) (rowsF_row rfl) rfl)) ?_
    obtain ⟨g8, h⟩ := gdW h
    refine oN (EvN.add rfl rfl g8) ?_
    refine oN (EvN.asg (I ((v5.2 * (36 : Int)) + v7.2)) rfl) ?_
    refine TO.nil ?_
    refine T.ret ?_
    obtain rfl := Option.some.inj h
    repeat first | refine retS ?_ | refine retB ?_
    exact Fin.ret (vs := [I ((v5.2 * (36 : Int)) + v7.2)]) (.cons (.tmp rfl) .nil) (.of_isF 9 _ rfl)

theorem F_impl_SmallTests_P  {q : Int} (h : F_impl_SmallTests  = some q) : PCall Try.prog 16 [] (I q) := by
  refine PCall.mkT Try.func16 rfl (by kernel_rfl) rfl (by kernel_rfl) (e0 := envOf []) weak_nil ?_
  refine T.seq ?_
  refine T.region ?_
  refine oN (EvN.asg (I (0 : Int)) rfl) ?_
  refine TO.nil ?_
  refine T.seq ?_
  refine T.region ?_
  refine oN (EvN.asg (I (1296 : Int)) rfl) ?_
  refine TO.nil ?_
  refine T.ret ?_
  obtain rfl := Option.some.inj h
  repeat first | refine retS ?_ | refine retB ?_
  exact Fin.ret (vs := [I (1296 : Int)]) (.cons (.tmp rfl) .nil) (.of_isF 9 _ rfl)

theorem F_impl_within_P (x : Int) (low : Int) (high : Int) {q : Bool} (h : F_impl_within x low high = some q) : PCall Try.prog 50 [I x, I low, I high] (Bo q) := by
  refine PCall.mkT Try.func50 rfl (by kernel_rfl) rfl (by kernel_rfl) (e0 := envOf [(0, I x), (1, I low), (2, I high)]) (weak_cons rfl (weak_cons rfl (weak_cons rfl weak_nil))) ?_
  refine T.seq ?_
  refine T.region ?_
  refine oN (EvN.asg (Bo false) rfl) ?_
  refine TO.nil ?_
  refine T.seq ?_
  refine T.region ?_
  refine oN (EvN.mv (I x) rfl) ?_
  refine oN (EvN.mv (I low) rfl) ?_
  refine oN (EvN.ige rfl rfl) ?_
  refine oN (EvN.mv (Bo (decide (low ≤ x))) rfl) ?_
  obtain ⟨s1, h, ks1⟩ := bindL h
  refine TO.joinF (G := Unit) 4 (fun _ => True) (fun _ => [(14, Bo s1)]) (fun _ => []) ?_ (fun js1 => ?_)
  rotate_left
  · clear ks1
    rcases bifL h with ⟨q2, h⟩ | ⟨q2, h⟩
    · refine gN rfl q2 (EvN.mv (I x) rfl) ?_
      refine gN rfl q2 (EvN.mv (I high) rfl) ?_
      refine gN rfl q2 (EvN.ile rfl rfl) ?_
      refine oN (EvN.pickT rfl q2 (Bo (decide (x ≤ high))) rfl) ?_
      obtain rfl := Option.some.inj h
      exact js1 _ _ ⟨(), trivial, cutW rfl (weak_cons rfl weak_nil)⟩
    · refine gS rfl q2 ?_
      refine gS rfl q2 ?_
      refine gS rfl q2 ?_
      refine oN (EvN.pickF rfl q2 (Bo false) rfl) ?_
      obtain rfl := Option.some.inj h
      exact js1 _ _ ⟨(), trivial, cutW rfl (weak_cons rfl weak_nil)⟩
  · intro _ _
    replace h := ks1
    clear ks1
    refine oN (EvN.asg (Bo s1) rfl) ?_
    refine TO.nil ?_
    refine T.ret ?_
    obtain rfl := Option.some.inj h
    repeat first | refine retS ?_ | refine retB ?_
    exact Fin.ret (vs := [Bo s1]) (.cons (.tmp rfl) .nil) (.of_isF 9 _ rfl)

theorem F_impl_smallInstrs_P  {q : (List Ximpl_Instr)} (h : F_impl_smallInstrs  = some q) : PCall Try.prog 59 [] (eL Ximpl_Instr.c q) := by
  refine PCall.mkT Try.func59 rfl (by kernel_rfl) rfl (by kernel_rfl) (e0 := envOf []) weak_nil ?_
  refine T.seq ?_
  refine T.region ?_
  refine oN (EvN.asg (.nil) rfl) ?_
  refine TO.nil ?_
  refine T.seq ?_
  refine T.region ?_
  refine oN (EvN.build [I (2 : Int), I (0 : Int), I (0 : Int), I (1 : Int)] Try.underlying66 zs66 fs66 rfl rfl) ?_
  refine oN (EvN.build [I (2 : Int), I (1 : Int), I (0 : Int), I (1 : Int)] Try.underlying66 zs66 fs66 rfl rfl) ?_
  refine oN (EvN.build [I (1 : Int), I (0 : Int), I (0 : Int), I (0 : Int)] Try.underlying66 zs66 fs66 rfl rfl) ?_
  refine oN (EvN.build [I (1 : Int), I (1 : Int), I (1 : Int), I (0 : Int)] Try.underlying66 zs66 fs66 rfl rfl) ?_
  refine oN (EvN.build [I (4 : Int), I (0 : Int), I (0 : Int), I (0 : Int)] Try.underlying66 zs66 fs66 rfl rfl) ?_
  refine oN (EvN.build [I (5 : Int), I (0 : Int), I (2 : Int), I (2 : Int)] Try.underlying66 zs66 fs66 rfl rfl) ?_
  refine oN (EvN.mkF (c := Ximpl_Instr.c) ([(⟨(2 : Int), (0 : Int), (0 : Int), (1 : Int)⟩ : Ximpl_Instr), (⟨(2 : Int), (1 : Int), (0 : Int), (1 : Int)⟩ : Ximpl_Instr), (⟨(1 : Int), (0 : Int), (0 : Int), (0 : Int)⟩ : Ximpl_Instr), (⟨(1 : Int), (1 : Int), (1 : Int), (0 : Int)⟩ : Ximpl_Instr), (⟨(4 : Int), (0 : Int), (0 : Int), (0 : Int)⟩ : Ximpl_Instr), (⟨(5 : Int), (0 : Int), (2 : Int), (2 : Int)⟩ : Ximpl_Instr)] : List Ximpl_Instr) [[I (2 : Int), I (0 : Int), I (0 : Int), I (1 : Int)], [I (2 : Int), I (1 : Int), I (0 : Int), I (1 : Int)], [I (1 : Int), I (0 : Int), I (0 : Int), I (0 : Int)], [I (1 : Int), I (1 : Int), I (1 : Int), I (0 : Int)], [I (4 : Int), I (0 : Int), I (0 : Int), I (0 : Int)], [I (5 : Int), I (0 : Int), I (2 : Int), I (2 : Int)]] sl57 rfl rfl rfl (fun _ => rfl) Ximpl_Instr.isF rfl) ?_
  refine oN (EvN.asg (eL Ximpl_Instr.c ([(⟨(2 : Int), (0 : Int), (0 : Int), (1 : Int)⟩ : Ximpl_Instr), (⟨(2 : Int), (1 : Int), (0 : Int), (1 : Int)⟩ : Ximpl_Instr), (⟨(1 : Int), (0 : Int), (0 : Int), (0 : Int)⟩ : Ximpl_Instr), (⟨(1 : Int), (1 : Int), (1 : Int), (0 : Int)⟩ : Ximpl_Instr), (⟨(4 : Int), (0 : Int), (0 : Int), (0 : Int)⟩ : Ximpl_Instr), (⟨(5 : Int), (0 : Int), (2 : Int), (2 : Int)⟩ : Ximpl_Instr)] : List Ximpl_Instr)) rfl) ?_
  refine TO.nil ?_
  refine T.ret ?_
  obtain rfl := Option.some.inj h
  repeat first | refine retS ?_ | refine retB ?_
  exact Fin.ret (vs := [eL Ximpl_Instr.c ([(⟨(2 : Int), (0 : Int), (0 : Int), (1 : Int)⟩ : Ximpl_Instr), (⟨(2 : Int), (1 : Int), (0 : Int), (1 : Int)⟩ : Ximpl_Instr), (⟨(1 : Int), (0 : Int), (0 : Int), (0 : Int)⟩ : Ximpl_Instr), (⟨(1 : Int), (1 : Int), (1 : Int), (0 : Int)⟩ : Ximpl_Instr), (⟨(4 : Int), (0 : Int), (0 : Int), (0 : Int)⟩ : Ximpl_Instr), (⟨(5 : Int), (0 : Int), (2 : Int), (2 : Int)⟩ : Ximpl_Instr)] : List Ximpl_Instr)]) (.cons (.tmp rfl) .nil) (.of_isF 9 _ rfl)

theorem F_impl_smallTest_P (n : Int) {q : (List (List Ximpl_Instr))} (h : F_impl_smallTest n = some q) : PCall Try.prog 51 [I n] (eL (cL Ximpl_Instr.c) q) := by
  refine PCall.mkT Try.func51 rfl (by kernel_rfl) rfl (by kernel_rfl) (e0 := envOf [(0, I n)]) (weak_cons rfl weak_nil) ?_
  refine T.seq ?_
  refine T.region ?_
  refine oN (EvN.asg (.nil) rfl) ?_
  refine TO.nil ?_
  refine T.seq ?_
  refine T.region ?_
  obtain ⟨v1, cv1, h⟩ := bindL h
  refine oN (EvN.call rfl rfl rfl (F_impl_smallInstrs_P  cv1) rfl) ?_
  refine oN (EvN.asg (eL Ximpl_Instr.c v1) rfl) ?_
  refine TO.nil ?_
  refine T.seq ?_
  refine T.drawF (fun _ => ([], false)) (by kernel_rfl) (by kernel_rfl) ?_
  refine fN rfl (EvN.mv (eL Ximpl_Instr.c v1) rfl) ?_
  refine fN rfl (EvN.mv (I n) rfl) ?_
  obtain ⟨g2, h⟩ := gdD h
  obtain ⟨g3, h⟩ := gdW h
  refine fN rfl (EvN.quo rfl rfl g2 g3) ?_
  obtain ⟨g4, h⟩ := gdD h
  refine fN rfl (EvN.ixL sl57 rfl rfl g4 (fun _ => rfl)) ?_
  refine fN rfl (EvN.loadfp (.agg (Ximpl_Instr.c (v1.getD (n.tdiv (216 : Int)).toNat default))) ty66 rfl rfl) ?_
  refine fN rfl (EvN.mv (eL Ximpl_Instr.c v1) rfl) ?_
  refine fN rfl (EvN.mv (I n) rfl) ?_
  obtain ⟨g5, h⟩ := gdD h
  obtain ⟨g6, h⟩ := gdW h
  refine fN rfl (EvN.quo rfl rfl g5 g6) ?_
  obtain ⟨g7, h⟩ := gdD h
  refine fN rfl (EvN.rem rfl rfl g7) ?_
  obtain ⟨g8, h⟩ := gdD h
  refine fN rfl (EvN.ixL sl57 rfl rfl g8 (fun _ => rfl)) ?_
  refine fN rfl (EvN.loadfp (.agg (Ximpl_Instr.c (v1.getD ((n.tdiv (36 : Int)).tmod (6 : Int)).toNat default))) ty66 rfl rfl) ?_
  refine fN rfl (EvN.mkF (c := Ximpl_Instr.c) ([(v1.getD (n.tdiv (216 : Int)).toNat default), (v1.getD ((n.tdiv (36 : Int)).tmod (6 : Int)).toNat default)] : List Ximpl_Instr) [[I ((v1.getD (n.tdiv (216 : Int)).toNat default).Op), I ((v1.getD (n.tdiv (216 : Int)).toNat default).Loc), I ((v1.getD (n.tdiv (216 : Int)).toNat default).Reg), I ((v1.getD (n.tdiv (216 : Int)).toNat default).Val)], [I ((v1.getD ((n.tdiv (36 : Int)).tmod (6 : Int)).toNat default).Op), I ((v1.getD ((n.tdiv (36 : Int)).tmod (6 : Int)).toNat default).Loc), I ((v1.getD ((n.tdiv (36 : Int)).tmod (6 : Int)).toNat default).Reg), I ((v1.getD ((n.tdiv (36 : Int)).tmod (6 : Int)).toNat default).Val)]] sl57 rfl rfl rfl (fun _ => rfl) Ximpl_Instr.isF rfl) ?_
  refine fN rfl (EvN.mv (eL Ximpl_Instr.c v1) rfl) ?_
  refine fN rfl (EvN.mv (I n) rfl) ?_
  obtain ⟨g9, h⟩ := gdW h
  refine fN rfl (EvN.quo rfl rfl g7 g9) ?_
  refine fN rfl (EvN.rem rfl rfl g7) ?_
  obtain ⟨g10, h⟩ := gdD h
  refine fN rfl (EvN.ixL sl57 rfl rfl g10 (fun _ => rfl)) ?_
  refine fN rfl (EvN.loadfp (.agg (Ximpl_Instr.c (v1.getD ((n.tdiv (6 : Int)).tmod (6 : Int)).toNat default))) ty66 rfl rfl) ?_
  refine fN rfl (EvN.mv (eL Ximpl_Instr.c v1) rfl) ?_
  refine fN rfl (EvN.mv (I n) rfl) ?_
  refine fN rfl (EvN.rem rfl rfl g7) ?_
  obtain ⟨g11, h⟩ := gdD h
  refine fN rfl (EvN.ixL sl57 rfl rfl g11 (fun _ => rfl)) ?_
  refine fN rfl (EvN.loadfp (.agg (Ximpl_Instr.c (v1.getD (n.tmod (6 : Int)).toNat default))) ty66 rfl rfl) ?_
  refine fN rfl (EvN.mkF (c := Ximpl_Instr.c) ([(v1.getD ((n.tdiv (6 : Int)).tmod (6 : Int)).toNat default), (v1.getD (n.tmod (6 : Int)).toNat default)] : List Ximpl_Instr) [[I ((v1.getD ((n.tdiv (6 : Int)).tmod (6 : Int)).toNat default).Op), I ((v1.getD ((n.tdiv (6 : Int)).tmod (6 : Int)).toNat default).Loc), I ((v1.getD ((n.tdiv (6 : Int)).tmod (6 : Int)).toNat default).Reg), I ((v1.getD ((n.tdiv (6 : Int)).tmod (6 : Int)).toNat default).Val)], [I ((v1.getD (n.tmod (6 : Int)).toNat default).Op), I ((v1.getD (n.tmod (6 : Int)).toNat default).Loc), I ((v1.getD (n.tmod (6 : Int)).toNat default).Reg), I ((v1.getD (n.tmod (6 : Int)).toNat default).Val)]] sl57 rfl rfl rfl (fun _ => rfl) Ximpl_Instr.isF rfl) ?_
  refine fN rfl (EvN.mkF (c := (cL Ximpl_Instr.c)) ([([(v1.getD (n.tdiv (216 : Int)).toNat default), (v1.getD ((n.tdiv (36 : Int)).tmod (6 : Int)).toNat default)] : List Ximpl_Instr), ([(v1.getD ((n.tdiv (6 : Int)).tmod (6 : Int)).toNat default), (v1.getD (n.tmod (6 : Int)).toNat default)] : List Ximpl_Instr)] : List (List Ximpl_Instr)) [[eL Ximpl_Instr.c ([(v1.getD (n.tdiv (216 : Int)).toNat default), (v1.getD ((n.tdiv (36 : Int)).tmod (6 : Int)).toNat default)] : List Ximpl_Instr)], [eL Ximpl_Instr.c ([(v1.getD ((n.tdiv (6 : Int)).tmod (6 : Int)).toNat default), (v1.getD (n.tmod (6 : Int)).toNat default)] : List Ximpl_Instr)]] sl24 rfl rfl rfl (fun _ => rfl) (fun _ => rfl) rfl) ?_
  refine fN rfl (EvN.asg (eL (cL Ximpl_Instr.c) ([([(v1.getD (n.tdiv (216 : Int)).toNat default), (v1.getD ((n.tdiv (36 : Int)).tmod (6 : Int)).toNat default)] : List Ximpl_Instr), ([(v1.getD ((n.tdiv (6 : Int)).tmod (6 : Int)).toNat default), (v1.getD (n.tmod (6 : Int)).toNat default)] : List Ximpl_Instr)] : List (List Ximpl_Instr))) rfl) ?_
  refine TF.nil ?_
  refine T.ret ?_
  obtain rfl := Option.some.inj h
  repeat first | refine retS ?_ | refine retB ?_
  exact Fin.ret (vs := [eL (cL Ximpl_Instr.c) ([([(v1.getD (n.tdiv (216 : Int)).toNat default), (v1.getD ((n.tdiv (36 : Int)).tmod (6 : Int)).toNat default)] : List Ximpl_Instr), ([(v1.getD ((n.tdiv (6 : Int)).tmod (6 : Int)).toNat default), (v1.getD (n.tmod (6 : Int)).toNat default)] : List Ximpl_Instr)] : List (List Ximpl_Instr))]) (.cons (.tmp rfl) .nil) (.of_isF 9 _ rfl)

theorem F_impl_SmallTest_P (n : Int) {q : (List (List Ximpl_Instr)) × Bool} (h : F_impl_SmallTest n = some q) : PCall Try.prog 18 [I n] (.tup [eL (cL Ximpl_Instr.c) q.1, Bo q.2]) := by
  refine PCall.mkT Try.func18 rfl (by kernel_rfl) rfl (by kernel_rfl) (e0 := envOf [(0, I n)]) (weak_cons rfl weak_nil) ?_
  refine T.seq ?_
  refine T.region ?_
  refine oN (EvN.asg (.nil) rfl) ?_
  refine oN (EvN.asg (Bo false) rfl) ?_
  refine TO.nil ?_
  refine T.seq ?_
  refine T.seq ?_
  refine T.region ?_
  refine oN (EvN.mv (I n) rfl) ?_
  obtain ⟨v1, cv1, h⟩ := bindL h
  refine oN (EvN.call rfl rfl rfl (F_impl_SmallTests_P  cv1) rfl) ?_
  obtain ⟨g2, h⟩ := gdW h
  refine oN (EvN.sub rfl rfl g2) ?_
  obtain ⟨v3, cv3, h⟩ := bindL h
  refine oN (EvN.call rfl rfl rfl (F_impl_within_P n (0 : Int) (v1 - (1 : Int)) cv3) rfl) ?_
  refine oN (EvN.not rfl) ?_
  refine TO.nil ?_
  refine T.cond rfl (fun q4 => ?_) (fun q4 => ?_)
  · replace h := condT q4 h
    refine T.seq ?_
    refine T.clean (H0 := []) (e0 := envOf []) rfl weak_nil ?_
    refine T.region ?_
    refine oN (EvN.asg (.nil) rfl) ?_
    refine oN (EvN.asg (Bo false) rfl) ?_
    refine TO.nil ?_
    refine T.ret ?_
    obtain rfl := Option.some.inj h
    repeat first | refine retS ?_ | refine retB ?_
    exact Fin.ret (vs := [.nil, Bo false]) (.cons (.tmp rfl) (.cons (.tmp rfl) .nil)) (.tupL (.cons .nil0 (.cons (.of_isF 9 _ rfl) .nil)))
  · replace h := condF q4 h
    refine T.skip ?_
    refine T.seq ?_
    refine T.clean (H0 := []) (e0 := envOf [(0, I n)]) rfl (weak_cons rfl weak_nil) ?_
    refine T.region ?_
    refine oN (EvN.mv (I n) rfl) ?_
    obtain ⟨v5, cv5, h⟩ := bindL h
    refine oN (EvN.call rfl rfl rfl (F_impl_smallTest_P n cv5) rfl) ?_
    refine oN (EvN.asg (eL (cL Ximpl_Instr.c) v5) rfl) ?_
    refine oN (EvN.asg (Bo true) rfl) ?_
    refine TO.nil ?_
    refine T.ret ?_
    obtain rfl := Option.some.inj h
    repeat first | refine retS ?_ | refine retB ?_
    exact Fin.ret (vs := [eL (cL Ximpl_Instr.c) v5, Bo true]) (.cons (.tmp rfl) (.cons (.tmp rfl) .nil)) (.tupL (.cons (.of_isF 9 _ rfl) (.cons (.of_isF 9 _ rfl) .nil)))

theorem F_spec_l14Instrs_P  {q : (List Ximpl_Instr)} (h : F_spec_l14Instrs  = some q) : PCall Try.prog 48 [] (eL Ximpl_Instr.c q) := by
  refine PCall.mkT Try.func48 rfl (by kernel_rfl) rfl (by kernel_rfl) (e0 := envOf []) weak_nil ?_
  refine T.seq ?_
  refine T.region ?_
  refine oN (EvN.asg (.nil) rfl) ?_
  refine TO.nil ?_
  refine T.seq ?_
  refine T.region ?_
  refine oN (EvN.build [I (2 : Int), I (0 : Int), I (0 : Int), I (1 : Int)] Try.underlying66 zs66 fs66 rfl rfl) ?_
  refine oN (EvN.build [I (2 : Int), I (1 : Int), I (0 : Int), I (1 : Int)] Try.underlying66 zs66 fs66 rfl rfl) ?_
  refine oN (EvN.build [I (1 : Int), I (0 : Int), I (0 : Int), I (0 : Int)] Try.underlying66 zs66 fs66 rfl rfl) ?_
  refine oN (EvN.build [I (1 : Int), I (1 : Int), I (1 : Int), I (0 : Int)] Try.underlying66 zs66 fs66 rfl rfl) ?_
  refine oN (EvN.build [I (4 : Int), I (0 : Int), I (0 : Int), I (0 : Int)] Try.underlying66 zs66 fs66 rfl rfl) ?_
  refine oN (EvN.build [I (5 : Int), I (0 : Int), I (2 : Int), I (2 : Int)] Try.underlying66 zs66 fs66 rfl rfl) ?_
  refine oN (EvN.mkF (c := Ximpl_Instr.c) ([(⟨(2 : Int), (0 : Int), (0 : Int), (1 : Int)⟩ : Ximpl_Instr), (⟨(2 : Int), (1 : Int), (0 : Int), (1 : Int)⟩ : Ximpl_Instr), (⟨(1 : Int), (0 : Int), (0 : Int), (0 : Int)⟩ : Ximpl_Instr), (⟨(1 : Int), (1 : Int), (1 : Int), (0 : Int)⟩ : Ximpl_Instr), (⟨(4 : Int), (0 : Int), (0 : Int), (0 : Int)⟩ : Ximpl_Instr), (⟨(5 : Int), (0 : Int), (2 : Int), (2 : Int)⟩ : Ximpl_Instr)] : List Ximpl_Instr) [[I (2 : Int), I (0 : Int), I (0 : Int), I (1 : Int)], [I (2 : Int), I (1 : Int), I (0 : Int), I (1 : Int)], [I (1 : Int), I (0 : Int), I (0 : Int), I (0 : Int)], [I (1 : Int), I (1 : Int), I (1 : Int), I (0 : Int)], [I (4 : Int), I (0 : Int), I (0 : Int), I (0 : Int)], [I (5 : Int), I (0 : Int), I (2 : Int), I (2 : Int)]] sl57 rfl rfl rfl (fun _ => rfl) Ximpl_Instr.isF rfl) ?_
  refine oN (EvN.asg (eL Ximpl_Instr.c ([(⟨(2 : Int), (0 : Int), (0 : Int), (1 : Int)⟩ : Ximpl_Instr), (⟨(2 : Int), (1 : Int), (0 : Int), (1 : Int)⟩ : Ximpl_Instr), (⟨(1 : Int), (0 : Int), (0 : Int), (0 : Int)⟩ : Ximpl_Instr), (⟨(1 : Int), (1 : Int), (1 : Int), (0 : Int)⟩ : Ximpl_Instr), (⟨(4 : Int), (0 : Int), (0 : Int), (0 : Int)⟩ : Ximpl_Instr), (⟨(5 : Int), (0 : Int), (2 : Int), (2 : Int)⟩ : Ximpl_Instr)] : List Ximpl_Instr)) rfl) ?_
  refine TO.nil ?_
  refine T.ret ?_
  obtain rfl := Option.some.inj h
  repeat first | refine retS ?_ | refine retB ?_
  exact Fin.ret (vs := [eL Ximpl_Instr.c ([(⟨(2 : Int), (0 : Int), (0 : Int), (1 : Int)⟩ : Ximpl_Instr), (⟨(2 : Int), (1 : Int), (0 : Int), (1 : Int)⟩ : Ximpl_Instr), (⟨(1 : Int), (0 : Int), (0 : Int), (0 : Int)⟩ : Ximpl_Instr), (⟨(1 : Int), (1 : Int), (1 : Int), (0 : Int)⟩ : Ximpl_Instr), (⟨(4 : Int), (0 : Int), (0 : Int), (0 : Int)⟩ : Ximpl_Instr), (⟨(5 : Int), (0 : Int), (2 : Int), (2 : Int)⟩ : Ximpl_Instr)] : List Ximpl_Instr)]) (.cons (.tmp rfl) .nil) (.of_isF 9 _ rfl)

theorem F_spec_SmallTests_P  {q : Int} (h : F_spec_SmallTests  = some q) : PCall Try.prog 15 [] (I q) := by
  refine PCall.mkT Try.func15 rfl (by kernel_rfl) rfl (by kernel_rfl) (e0 := envOf []) weak_nil ?_
  refine T.seq ?_
  refine T.region ?_
  refine oN (EvN.asg (I (0 : Int)) rfl) ?_
  refine TO.nil ?_
  refine T.seq ?_
  refine T.region ?_
  obtain ⟨v1, cv1, h⟩ := bindL h
  refine oN (EvN.call rfl rfl rfl (F_spec_l14Instrs_P  cv1) rfl) ?_
  refine oN (EvN.lenL sl57 rfl) ?_
  refine oN (EvN.asg (I (v1.length : Int)) rfl) ?_
  refine TO.nil ?_
  refine T.seq ?_
  refine T.region ?_
  refine oN (EvN.mv (I (v1.length : Int)) rfl) ?_
  refine oN (EvN.mv (I (v1.length : Int)) rfl) ?_
  obtain ⟨g2, h⟩ := gdW h
  refine oN (EvN.mul rfl rfl g2) ?_
  refine oN (EvN.mv (I (v1.length : Int)) rfl) ?_
  obtain ⟨g3, h⟩ := gdW h
  refine oN (EvN.mul rfl rfl g3) ?_
  refine oN (EvN.mv (I (v1.length : Int)) rfl) ?_
  obtain ⟨g4, h⟩ := gdW h
  refine oN (EvN.mul rfl rfl g4) ?_
  refine oN (EvN.asg (I ((((v1.length : Int) * (v1.length : Int)) * (v1.length : Int)) * (v1.length : Int))) rfl) ?_
  refine TO.nil ?_
  refine T.ret ?_
  obtain rfl := Option.some.inj h
  repeat first | refine retS ?_ | refine retB ?_
  exact Fin.ret (vs := [I ((((v1.length : Int) * (v1.length : Int)) * (v1.length : Int)) * (v1.length : Int))]) (.cons (.tmp rfl) .nil) (.of_isF 9 _ rfl)

theorem F_spec_l14Test_P (n : Int) {q : (List (List Ximpl_Instr))} (h : F_spec_l14Test n = some q) : PCall Try.prog 49 [I n] (eL (cL Ximpl_Instr.c) q) := by
  refine PCall.mkT Try.func49 rfl (by kernel_rfl) rfl (by kernel_rfl) (e0 := envOf [(0, I n)]) (weak_cons rfl weak_nil) ?_
  refine T.seq ?_
  refine T.region ?_
  refine oN (EvN.asg (.nil) rfl) ?_
  refine TO.nil ?_
  refine T.seq ?_
  refine T.region ?_
  obtain ⟨v1, cv1, h⟩ := bindL h
  refine oN (EvN.call rfl rfl rfl (F_spec_l14Instrs_P  cv1) rfl) ?_
  refine oN (EvN.asg (eL Ximpl_Instr.c v1) rfl) ?_
  refine TO.nil ?_
  refine T.seq ?_
  refine T.region ?_
  refine oN (EvN.mkF (c := Ximpl_Instr.c) ([] : List Ximpl_Instr) [] sl57 rfl rfl rfl (fun _ => rfl) Ximpl_Instr.isF rfl) ?_
  refine oN (EvN.mkF (c := Ximpl_Instr.c) ([] : List Ximpl_Instr) [] sl57 rfl rfl rfl (fun _ => rfl) Ximpl_Instr.isF rfl) ?_
  refine oA (EvA.mkO (c := (cL Ximpl_Instr.c)) ([([] : List Ximpl_Instr), ([] : List Ximpl_Instr)] : List (List Ximpl_Instr)) [[eL Ximpl_Instr.c ([] : List Ximpl_Instr)], [eL Ximpl_Instr.c ([] : List Ximpl_Instr)]] sl24 rfl rfl rfl (fun _ => rfl) rfl rfl) ?_
  refine oN (EvN.asg (hS false 0 0 1 (([([] : List Ximpl_Instr), ([] : List Ximpl_Instr)] : List (List Ximpl_Instr)).length)) rfl) ?_
  refine TO.nil ?_
  obtain ⟨s2, h, ks2⟩ := bindL h
  refine T.joinF (G := Nat) (fun gh => True) (fun gh => [(4, hS false 0 gh 1 s2.length)]) (fun gh => [bE false gh 1 57 (s2.map (cL Ximpl_Instr.c))]) (fun u16 hg => ?_) ?_
  · clear h
    have h := ks2
    clear ks2
    refine T.seq ?_
    refine T.region ?_
    refine oN (EvN.mv (hS false 0 u16 1 s2.length) rfl) ?_
    refine oN (EvN.asg (hS false 0 u16 1 s2.length) rfl) ?_
    refine TO.nil ?_
    refine T.ret ?_
    obtain rfl := Option.some.inj h
    repeat first | refine retS ?_ | refine retB ?_
    exact Fin.ret (vs := [hS false 0 u16 1 s2.length]) (.cons (.tmp rfl) .nil) (Fz.own (g := false) (ver := u16) (l := s2) rfl rfl rfl nofun (fun _ => rfl))
  · clear ks2
    refine T.seq ?_
    refine T.region ?_
    refine oN (EvN.asg (I (3 : Int)) rfl) ?_
    refine TO.nil ?_
    refine T.block ?_
    refine T.loop (S := (List (List Ximpl_Instr)) × Int × Int) (G := Nat) (F_spec_l14Test_L5 v1) (fun s4 gh => True) (fun s4 gh => [(5, I s4.2.1), (4, hS false 0 gh 1 s4.1.length), (3, eL Ximpl_Instr.c v1), (0, I s4.2.2)]) (fun s4 gh => [bE false gh 1 57 (s4.1.map (cL Ximpl_Instr.c))]) (s0 := (([([] : List Ximpl_Instr), ([] : List Ximpl_Instr)] : List (List Ximpl_Instr)), (3 : Int), n)) 0 h trivial (cutW rfl (weak_cons rfl (weak_cons rfl (weak_cons rfl (weak_cons rfl weak_nil))))) (fun s4 u6 ws4 h hg => ?_)
    refine T.seq ?_
    refine T.seq ?_
    refine T.region ?_
    refine oN (EvN.mv (I s4.2.1) rfl) ?_
    refine oN (EvN.ige rfl rfl) ?_
    refine TO.nil ?_
    refine T.cond rfl (fun q7 => ?_) (fun q7 => ?_)
    · replace h := condT q7 h
      refine T.skip ?_
      refine T.seq ?_
      refine T.block ?_
      refine T.seq ?_
      refine T.reserve ?_
      refine T.drawF (fun i => [([], false), ([], false), ([], false), ([], false), ([], false), ([], false), ([], false), ([], false), ([], false), ([], false), ([1], true), ([], false), ([], false), ([], false), ([], false), ([0], false), ([1], true), ([], false), ([0], true)].getD i ([], false)) (by kernel_rfl) (by kernel_rfl) ?_
      refine fN rfl (EvN.mv (hS false 0 u6 1 s4.1.length) rfl) ?_
      refine fN rfl (EvN.mv (I s4.2.1) rfl) ?_
      obtain ⟨g8, h⟩ := gdD h
      obtain ⟨g9, h⟩ := gdW h
      refine fN rfl (EvN.quo rfl rfl g8 g9) ?_
      refine fN rfl (EvN.mv (eL Ximpl_Instr.c v1) rfl) ?_
      refine fN rfl (EvN.mv (I s4.2.2) rfl) ?_
      refine fN rfl (EvN.mv (eL Ximpl_Instr.c v1) rfl) ?_
      refine fN rfl (EvN.lenL sl57 rfl) ?_
      obtain ⟨g10, h⟩ := gdD h
      refine fN rfl (EvN.rem rfl rfl g10) ?_
      obtain ⟨g11, h⟩ := gdD h
      refine fN rfl (EvN.ixL sl57 rfl rfl g11 (fun _ => rfl)) ?_
      refine fN rfl (EvN.loadfp (.agg (Ximpl_Instr.c (v1.getD (s4.2.2.tmod (v1.length : Int)).toNat default))) ty66 rfl rfl) ?_
      refine fW 1 [] rfl rfl (fun G hG => EvA.mkOR (c := Ximpl_Instr.c) 1 ([(v1.getD (s4.2.2.tmod (v1.length : Int)).toNat default)] : List Ximpl_Instr) [[I ((v1.getD (s4.2.2.tmod (v1.length : Int)).toNat default).Op), I ((v1.getD (s4.2.2.tmod (v1.length : Int)).toNat default).Loc), I ((v1.getD (s4.2.2.tmod (v1.length : Int)).toNat default).Reg), I ((v1.getD (s4.2.2.tmod (v1.length : Int)).toNat default).Val)]] sl57 rfl rfl rfl (fun _ => rfl) Ximpl_Instr.isF rfl (hG.a0 rfl)) ?_
      refine fN rfl (EvN.mv (hS false 0 u6 1 s4.1.length) rfl) ?_
      refine fN rfl (EvN.mv (I s4.2.1) rfl) ?_
      refine fN rfl (EvN.quo rfl rfl g8 g9) ?_
      obtain ⟨g12, h⟩ := gdD h
      refine fN rfl (EvN.ixO (g := false) sl24 rfl rfl nofun g12) ?_
      refine fR [0] rfl (fun G hG => EvA.ldO (g := false) (l := s4.1) (eL Ximpl_Instr.c (s4.1.getD ((s4.2.1.tdiv (2 : Int)).toNat) default)) ty57 rfl (hG.a0 rfl) nofun (toNat_lt' rfl g12) rfl) ?_
      obtain ⟨g13, h⟩ := gdL h
      refine fW 1 [] rfl rfl (fun G hG => EvA.appF (l := ([(v1.getD (s4.2.2.tmod (v1.length : Int)).toNat default)] : List Ximpl_Instr)) (s4.1.getD ((s4.2.1.tdiv (2 : Int)).toNat) default) sl57 (by kernel_rfl) rfl rfl (hG.a0 rfl) (SrcOk.fz (l := (s4.1.getD ((s4.2.1.tdiv (2 : Int)).toNat) default)) rfl (fun _ => rfl)) g13) ?_
      refine fN rfl (EvN.ixO (g := false) sl24 rfl rfl nofun g12) ?_
      refine fV 0 [] rfl rfl (fun G hG => EvA.stS (g := false) (xs := s4.1) (cs := [hS false 1 (0 + 1) 4 ((([(v1.getD (s4.2.2.tmod (v1.length : Int)).toNat default)] : List Ximpl_Instr) ++ (s4.1.getD ((s4.2.1.tdiv (2 : Int)).toNat) default)).length)]) ty57 rfl rfl (hG.a0 rfl) nofun (toNat_lt' rfl g12) (fun _ => rfl) rfl rfl) ?_
      refine TF.nil ?_
      refine T.cut (e0 := envOf [(5, I s4.2.1), (4, hS false 0 u6 1 ((s4.1.set ((s4.2.1.tdiv (2 : Int)).toNat) (([(v1.getD (s4.2.2.tmod (v1.length : Int)).toNat default)] : List Ximpl_Instr) ++ (s4.1.getD ((s4.2.1.tdiv (2 : Int)).toNat) default))).length)), (3, eL Ximpl_Instr.c v1), (0, I s4.2.2)]) (H0 := [bE false u6 1 57 ((s4.1.set ((s4.2.1.tdiv (2 : Int)).toNat) (([(v1.getD (s4.2.2.tmod (v1.length : Int)).toNat default)] : List Ximpl_Instr) ++ (s4.1.getD ((s4.2.1.tdiv (2 : Int)).toNat) default))).map (cL Ximpl_Instr.c))]) (cutS rfl (.cons (.rows (.setM (f := (cL Ximpl_Instr.c)) (v := (([(v1.getD (s4.2.2.tmod (v1.length : Int)).toNat default)] : List Ximpl_Instr) ++ (s4.1.getD ((s4.2.1.tdiv (2 : Int)).toNat) default))) (fun _ => rfl) (.cons (.fz (Fz.own (g := false) (ver := 0 + 1) (l := (([(v1.getD (s4.2.2.tmod (v1.length : Int)).toNat default)] : List Ximpl_Instr) ++ (s4.1.getD ((s4.2.1.tdiv (2 : Int)).toNat) default))) rfl rfl rfl nofun Ximpl_Instr.isF)) .nil) s4.1 ((s4.2.1.tdiv (2 : Int)).toNat))) .nil) (stl_cons (.fz (.of_isF 9 _ rfl)) (stl_cons (.eqv (congrArg (hS false 0 u6 1) (by simp : s4.1.length = (s4.1.set ((s4.2.1.tdiv (2 : Int)).toNat) (([(v1.getD (s4.2.2.tmod (v1.length : Int)).toNat default)] : List Ximpl_Instr) ++ (s4.1.getD ((s4.2.1.tdiv (2 : Int)).toNat) default))).length)) (.hS (g := false) (b := 0) (ver := u6) (s := 1) (n := (s4.1.set ((s4.2.1.tdiv (2 : Int)).toNat) (([(v1.getD (s4.2.2.tmod (v1.length : Int)).toNat default)] : List Ximpl_Instr) ++ (s4.1.getD ((s4.2.1.tdiv (2 : Int)).toNat) default))).length) rfl)) (stl_cons (.fz (.of_isF 9 _ rfl)) (stl_cons (.fz (.of_isF 9 _ rfl)) stl_nil))))) ?_
      refine T.region ?_
      refine oN (EvN.mv (I s4.2.2) rfl) ?_
      refine oN (EvN.mv (eL Ximpl_Instr.c v1) rfl) ?_
      refine oN (EvN.lenL sl57 rfl) ?_
      obtain ⟨g14, h⟩ := gdW h
      refine oN (EvN.quo rfl rfl g10 g14) ?_
      refine oN (EvN.asg (I (s4.2.2.tdiv (v1.length : Int))) rfl) ?_
      refine TO.nil ?_
      refine T.region ?_
      refine oN (EvN.mv (I s4.2.1) rfl) ?_
      obtain ⟨g15, h⟩ := gdW h
      refine oN (EvN.sub rfl rfl g15) ?_
      refine oN (EvN.asg (I (s4.2.1 - (1 : Int))) rfl) ?_
      refine TO.nil ?_
      obtain rfl := Option.some.inj h
      exact ⟨((s4.1.set ((s4.2.1.tdiv (2 : Int)).toNat) (([(v1.getD (s4.2.2.tmod (v1.length : Int)).toNat default)] : List Ximpl_Instr) ++ (s4.1.getD ((s4.2.1.tdiv (2 : Int)).toNat) default))), (s4.2.1 - (1 : Int)), (s4.2.2.tdiv (v1.length : Int))), u6, rfl, trivial, cutW rfl (weak_cons rfl (weak_cons rfl (weak_cons rfl (weak_cons rfl weak_nil))))⟩
    · replace h := condF q7 h
      refine T.exit ?_
      refine ⟨_, (Option.some.inj h).symm, fun h => ?_⟩
      replace h := congrArg some h
      obtain rfl := Option.some.inj h
      exact ⟨u6, trivial, cutW rfl (weak_cons rfl weak_nil)⟩

theorem F_spec_SmallTest_P (n : Int) {q : (List (List Ximpl_Instr)) × Bool} (h : F_spec_SmallTest n = some q) : PCall Try.prog 17 [I n] (.tup [eL (cL Ximpl_Instr.c) q.1, Bo q.2]) := by
  refine PCall.mkT Try.func17 rfl (by kernel_rfl) rfl (by kernel_rfl) (e0 := envOf [(0, I n)]) (weak_cons rfl weak_nil) ?_
  refine T.seq ?_
  refine T.region ?_
  refine oN (EvN.asg (.nil) rfl) ?_
  refine oN (EvN.asg (Bo false) rfl) ?_
  refine TO.nil ?_
  refine T.seq ?_
  refine T.seq ?_
  refine T.region ?_
  refine oN (EvN.mv (I n) rfl) ?_
  refine oN (EvN.ilt rfl rfl) ?_
  refine oN (EvN.mv (Bo (decide (n < (0 : Int)))) rfl) ?_
  obtain ⟨s1, h, ks1⟩ := bindL h
  refine TO.joinF (G := Unit) 4 (fun _ => True) (fun _ => [(10, Bo s1), (0, I n)]) (fun _ => []) ?_ (fun js1 => ?_)
  rotate_left
  · clear ks1
    rcases bifL h with ⟨q2, h⟩ | ⟨q2, h⟩
    · refine gS rfl q2 ?_
      refine gS rfl q2 ?_
      refine gS rfl q2 ?_
      refine oN (EvN.pickT rfl q2 (Bo true) rfl) ?_
      obtain rfl := Option.some.inj h
      exact js1 _ _ ⟨(), trivial, cutW rfl (weak_cons rfl (weak_cons rfl weak_nil))⟩
    · refine gN rfl q2 (EvN.mv (I n) rfl) ?_
      obtain ⟨v3, cv3, h⟩ := bindL h
      refine gN rfl q2 (EvN.call rfl rfl rfl (F_spec_SmallTests_P  cv3) rfl) ?_
      refine gN rfl q2 (EvN.ige rfl rfl) ?_
      refine oN (EvN.pickF rfl q2 (Bo (decide (v3 ≤ n))) rfl) ?_
      obtain rfl := Option.some.inj h
      exact js1 _ _ ⟨(), trivial, cutW rfl (weak_cons rfl (weak_cons rfl weak_nil))⟩
  · intro _ _
    replace h := ks1
    clear ks1
    refine TO.nil ?_
    refine T.cond rfl (fun q4 => ?_) (fun q4 => ?_)
    · replace h := condT q4 h
      refine T.seq ?_
      refine T.region ?_
      refine oN (EvN.mkF (c := (cL Ximpl_Instr.c)) ([] : List (List Ximpl_Instr)) [] sl24 rfl rfl rfl (fun _ => rfl) (fun _ => rfl) rfl) ?_
      refine oN (EvN.asg (eL (cL Ximpl_Instr.c) ([] : List (List Ximpl_Instr))) rfl) ?_
      refine oN (EvN.asg (Bo false) rfl) ?_
      refine TO.nil ?_
      refine T.ret ?_
      obtain rfl := Option.some.inj h
      repeat first | refine retS ?_ | refine retB ?_
      exact Fin.ret (vs := [eL (cL Ximpl_Instr.c) ([] : List (List Ximpl_Instr)), Bo false]) (.cons (.tmp rfl) (.cons (.tmp rfl) .nil)) (.tupL (.cons (.of_isF 9 _ rfl) (.cons (.of_isF 9 _ rfl) .nil)))
    · replace h := condF q4 h
      refine T.skip ?_
      refine T.seq ?_
      refine T.region ?_
      refine oN (EvN.mv (I n) rfl) ?_
      obtain ⟨v5, cv5, h⟩ := bindL h
      refine oN (EvN.call rfl rfl rfl (F_spec_l14Test_P n cv5) rfl) ?_
      refine oN (EvN.asg (eL (cL Ximpl_Instr.c) v5) rfl) ?_
      refine oN (EvN.asg (Bo true) rfl) ?_
      refine TO.nil ?_
      refine T.ret ?_
      obtain rfl := Option.some.inj h
      repeat first | refine retS ?_ | refine retB ?_
      exact Fin.ret (vs := [eL (cL Ximpl_Instr.c) v5, Bo true]) (.cons (.tmp rfl) (.cons (.tmp rfl) .nil)) (.tupL (.cons (.of_isF 9 _ rfl) (.cons (.of_isF 9 _ rfl) .nil)))

theorem F_slices_Equal_impl_Instr_impl_Instr_P (s1_ : List Ximpl_Instr) (s2_ : List Ximpl_Instr) {q : Bool} (h : F_slices_Equal_impl_Instr_impl_Instr s1_ s2_ = some q) : PCall Try.prog 65 [eL Ximpl_Instr.c s1_, eL Ximpl_Instr.c s2_] (Bo q) := by
  refine PCall.mkT Try.func65 rfl (by kernel_rfl) rfl (by kernel_rfl) (e0 := envOf [(0, eL Ximpl_Instr.c s1_), (1, eL Ximpl_Instr.c s2_)]) (weak_cons rfl (weak_cons rfl weak_nil)) ?_
  refine T.seq ?_
  refine T.region ?_
  refine oN (EvN.asg (Bo false) rfl) ?_
  refine TO.nil ?_
  refine T.seq ?_
  refine T.seq ?_
  refine T.region ?_
  refine oN (EvN.mv (eL Ximpl_Instr.c s1_) rfl) ?_
  refine oN (EvN.lenL sl57 rfl) ?_
  refine oN (EvN.mv (eL Ximpl_Instr.c s2_) rfl) ?_
  refine oN (EvN.lenL sl57 rfl) ?_
  refine oN (EvN.ine rfl rfl) ?_
  refine TO.nil ?_
  refine T.cond rfl (fun q1 => ?_) (fun q1 => ?_)
  · replace h := condT q1 h
    refine T.seq ?_
    refine T.clean (H0 := []) (e0 := envOf []) rfl weak_nil ?_
    refine T.region ?_
    refine oN (EvN.asg (Bo false) rfl) ?_
    refine TO.nil ?_
    refine T.ret ?_
    obtain rfl := Option.some.inj h
    repeat first | refine retS ?_ | refine retB ?_
    exact Fin.ret (vs := [Bo false]) (.cons (.tmp rfl) .nil) (.of_isF 9 _ rfl)
  · replace h := condF q1 h
    refine T.skip ?_
    obtain ⟨Ks2, es2, ws2, h, ks2⟩ := sumL h
    refine T.join (S := Unit) (G := Unit) (fun s2 => Ks2 s2 = some q) (fun s2 gh => True) (fun s2 gh => []) (fun s2 gh => []) (fun s2 gh h hg => ?_) ?_
    · clear ks2
      subst es2
      refine T.seq ?_
      refine T.region ?_
      refine oN (EvN.asg (Bo true) rfl) ?_
      refine TO.nil ?_
      refine T.ret ?_
      obtain rfl := Option.some.inj h
      repeat first | refine retS ?_ | refine retB ?_
      exact Fin.ret (vs := [Bo true]) (.cons (.tmp rfl) .nil) (.of_isF 9 _ rfl)
    · refine T.seq ?_
      refine T.clean (H0 := []) (e0 := envOf [(0, eL Ximpl_Instr.c s1_), (1, eL Ximpl_Instr.c s2_)]) rfl (weak_cons rfl (weak_cons rfl weak_nil)) ?_
      refine T.region ?_
      refine oN (EvN.mv (eL Ximpl_Instr.c s1_) rfl) ?_
      refine oN (EvN.lenL sl57 rfl) ?_
      refine oN (EvN.mv (I (0 : Int)) rfl) ?_
      refine TO.nil ?_
      refine T.block ?_
      refine T.loop (S := Int) (G := Unit) (F_slices_Equal_impl_Instr_impl_Instr_L4 s1_ s2_) (fun s3 gh => True) (fun s3 gh => [(13, I s3), (12, I (s1_.length : Int)), (0, eL Ximpl_Instr.c s1_), (1, eL Ximpl_Instr.c s2_)]) (fun s3 gh => []) (s0 := (0 : Int)) () h trivial (cutW rfl (weak_cons rfl (weak_cons rfl (weak_cons rfl (weak_cons rfl weak_nil))))) (fun s3 gh ws3 h hg => ?_)
      refine T.seq ?_
      refine T.region ?_
      refine oN (EvN.ilt rfl rfl) ?_
      refine TO.nil ?_
      refine T.seq ?_
      refine T.cond rfl (fun q5 => ?_) (fun q5 => ?_)
      · replace h := condT q5 h
        refine T.skip ?_
        refine T.seq ?_
        refine T.block ?_
        refine T.seq ?_
        refine T.region ?_
        refine oN (EvN.mv (I s3) rfl) ?_
        refine oN (EvN.asg (I s3) rfl) ?_
        refine TO.nil ?_
        refine T.seq ?_
        refine T.drawF (fun _ => ([], false)) (by kernel_rfl) (by kernel_rfl) ?_
        refine fN rfl (EvN.mv (eL Ximpl_Instr.c s1_) rfl) ?_
        refine fN rfl (EvN.mv (I s3) rfl) ?_
        obtain ⟨g6, h⟩ := gdD h
        refine fN rfl (EvN.ixL sl57 rfl rfl g6 (fun _ => rfl)) ?_
        refine fN rfl (EvN.loadfp (.agg (Ximpl_Instr.c (s1_.getD s3.toNat default))) ty66 rfl rfl) ?_
        refine fN rfl (EvN.mv (eL Ximpl_Instr.c s2_) rfl) ?_
        refine fN rfl (EvN.mv (I s3) rfl) ?_
        obtain ⟨g7, h⟩ := gdD h
        refine fN rfl (EvN.ixL sl57 rfl rfl g7 (fun _ => rfl)) ?_
        refine fN rfl (EvN.loadfp (.agg (Ximpl_Instr.c (s2_.getD s3.toNat default))) ty66 rfl rfl) ?_
        refine fN rfl (EvN.ane (((s1_.getD s3.toNat default).Op) == ((s2_.getD s3.toNat default).Op) && (((s1_.getD s3.toNat default).Loc) == ((s2_.getD s3.toNat default).Loc) && (((s1_.getD s3.toNat default).Reg) == ((s2_.getD s3.toNat default).Reg) && (((s1_.getD s3.toNat default).Val) == ((s2_.getD s3.toNat default).Val) && true)))) (cs := [I ((s1_.getD s3.toNat default).Op), I ((s1_.getD s3.toNat default).Loc), I ((s1_.getD s3.toNat default).Reg), I ((s1_.getD s3.toNat default).Val)]) (ds := [I ((s2_.getD s3.toNat default).Op), I ((s2_.getD s3.toNat default).Loc), I ((s2_.getD s3.toNat default).Reg), I ((s2_.getD s3.toNat default).Val)]) te66 rfl rfl (by kernel_rfl)) ?_
        refine TF.nil ?_
        refine T.cond rfl (fun q8 => ?_) (fun q8 => ?_)
        · replace h := condT q8 h
          refine T.seq ?_
          refine T.clean (H0 := []) (e0 := envOf []) rfl weak_nil ?_
          refine T.region ?_
          refine oN (EvN.asg (Bo false) rfl) ?_
          refine TO.nil ?_
          refine T.ret ?_
          refine ⟨_, (Option.some.inj h).symm, fun h => ?_⟩
          replace h := congrArg some h
          obtain rfl := Option.some.inj h
          replace h := congrArg some (show _ = _ from ks2)
          obtain rfl := Option.some.inj h
          repeat first | refine retS ?_ | refine retB ?_
          exact Fin.ret (vs := [Bo false]) (.cons (.tmp rfl) .nil) (.of_isF 9 _ rfl)
        · replace h := condF q8 h
          refine T.skip ?_
          refine T.clean (H0 := []) (e0 := envOf [(13, I s3), (12, I (s1_.length : Int)), (0, eL Ximpl_Instr.c s1_), (1, eL Ximpl_Instr.c s2_)]) rfl (weak_cons rfl (weak_cons rfl (weak_cons rfl (weak_cons rfl weak_nil)))) ?_
          refine T.region ?_
          obtain ⟨g9, h⟩ := gdW h
          refine oN (EvN.add rfl rfl g9) ?_
          refine oN (EvN.mv (I (s3 + (1 : Int))) rfl) ?_
          refine TO.nil ?_
          obtain rfl := Option.some.inj h
          exact ⟨(s3 + (1 : Int)), (), rfl, trivial, cutW rfl (weak_cons rfl (weak_cons rfl (weak_cons rfl (weak_cons rfl weak_nil))))⟩
      · replace h := condF q5 h
        refine T.exit ?_
        refine ⟨_, (Option.some.inj h).symm, fun h => ?_⟩
        replace h := congrArg some h
        obtain rfl := Option.some.inj h
        exact ⟨(), (), ks2, trivial, cutW rfl weak_nil⟩

theorem F_impl_ProgramSame_1_P (x : List Ximpl_Instr) (y : List Ximpl_Instr) {q : Bool} (h : F_impl_ProgramSame_1 x y = some q) : PCall Try.prog 64 [eL Ximpl_Instr.c x, eL Ximpl_Instr.c y] (Bo q) := by
  refine PCall.mkT Try.func64 rfl (by kernel_rfl) rfl (by kernel_rfl) (e0 := envOf [(0, eL Ximpl_Instr.c x), (1, eL Ximpl_Instr.c y)]) (weak_cons rfl (weak_cons rfl weak_nil)) ?_
  refine T.seq ?_
  refine T.region ?_
  refine oN (EvN.asg (Bo false) rfl) ?_
  refine TO.nil ?_
  refine T.seq ?_
  refine T.region ?_
  refine oN (EvN.mv (eL Ximpl_Instr.c x) rfl) ?_
  refine oN (EvN.mv (eL Ximpl_Instr.c y) rfl) ?_
  obtain ⟨v1, cv1, h⟩ := bindL h
  refine oN (EvN.call rfl rfl rfl (F_slices_Equal_impl_Instr_impl_Instr_P x y cv1) rfl) ?_
  refine oN (EvN.asg (Bo v1) rfl) ?_
  refine TO.nil ?_
  refine T.ret ?_
  obtain rfl := Option.some.inj h
  repeat first | refine retS ?_ | refine retB ?_
  exact Fin.ret (vs := [Bo v1]) (.cons (.tmp rfl) .nil) (.of_isF 9 _ rfl)

theorem F_slices_EqualFunc_impl_Instr_impl_Instr_impl_Instr_impl_Instr__impl_ProgramSame_1_P (s1_ : List (List Ximpl_Instr)) (s2_ : List (List Ximpl_Instr)) {q : Bool} (h : F_slices_EqualFunc_impl_Instr_impl_Instr_impl_Instr_impl_Instr__impl_ProgramSame_1 s1_ s2_ = some q) : PCall Try.prog 63 [eL (cL Ximpl_Instr.c) s1_, eL (cL Ximpl_Instr.c) s2_, .fn (.func 64) []] (Bo q) := by
  refine PCall.mkT Try.func63 rfl (by kernel_rfl) rfl (by kernel_rfl) (e0 := envOf [(0, eL (cL Ximpl_Instr.c) s1_), (1, eL (cL Ximpl_Instr.c) s2_), (2, .fn (.func 64) [])]) (weak_cons rfl (weak_cons rfl (weak_cons rfl weak_nil))) ?_
  refine T.seq ?_
  refine T.region ?_
  refine oN (EvN.asg (Bo false) rfl) ?_
  refine TO.nil ?_
  refine T.seq ?_
  refine T.seq ?_
  refine T.region ?_
  refine oN (EvN.mv (eL (cL Ximpl_Instr.c) s1_) rfl) ?_
  refine oN (EvN.lenL sl24 rfl) ?_
  refine oN (EvN.mv (eL (cL Ximpl_Instr.c) s2_) rfl) ?_
  refine oN (EvN.lenL sl24 rfl) ?_
  refine oN (EvN.ine rfl rfl) ?_
  refine TO.nil ?_
  refine T.cond rfl (fun q1 => ?_) (fun q1 => ?_)
  · replace h := condT q1 h
    refine T.seq ?_
    refine T.clean (H0 := []) (e0 := envOf []) rfl weak_nil ?_
    refine T.region ?_
    refine oN (EvN.asg (Bo false) rfl) ?_
    refine TO.nil ?_
    refine T.ret ?_
    obtain rfl := Option.some.inj h
    repeat first | refine retS ?_ | refine retB ?_
    exact Fin.ret (vs := [Bo false]) (.cons (.tmp rfl) .nil) (.of_isF 9 _ rfl)
  · replace h := condF q1 h
    refine T.skip ?_
    obtain ⟨Ks2, es2, ws2, h, ks2⟩ := sumL h
    refine T.join (S := Unit) (G := Unit) (fun s2 => Ks2 s2 = some q) (fun s2 gh => True) (fun s2 gh => []) (fun s2 gh => []) (fun s2 gh h hg => ?_) ?_
    · clear ks2
      subst es2
      refine T.seq ?_
      refine T.region ?_
      refine oN (EvN.asg (Bo true) rfl) ?_
      refine TO.nil ?_
      refine T.ret ?_
      obtain rfl := Option.some.inj h
      repeat first | refine retS ?_ | refine retB ?_
      exact Fin.ret (vs := [Bo true]) (.cons (.tmp rfl) .nil) (.of_isF 9 _ rfl)
    · refine T.seq ?_
      refine T.clean (H0 := []) (e0 := envOf [(0, eL (cL Ximpl_Instr.c) s1_), (1, eL (cL Ximpl_Instr.c) s2_), (2, .fn (.func 64) [])]) rfl (weak_cons rfl (weak_cons rfl (weak_cons rfl weak_nil))) ?_
      refine T.region ?_
      refine oN (EvN.mv (eL (cL Ximpl_Instr.c) s1_) rfl) ?_
      refine oN (EvN.lenL sl24 rfl) ?_
      refine oN (EvN.mv (I (0 : Int)) rfl) ?_
      refine TO.nil ?_
      refine T.block ?_
      refine T.loop (S := Int) (G := Unit) (F_slices_EqualFunc_impl_Instr_impl_Instr_impl_Instr_impl_Instr__impl_ProgramSame_1_L4 s1_ s2_) (fun s3 gh => True) (fun s3 gh => [(17, I s3), (16, I (s1_.length : Int)), (15, eL (cL Ximpl_Instr.c) s1_), (1, eL (cL Ximpl_Instr.c) s2_), (2, .fn (.func 64) [])]) (fun s3 gh => []) (s0 := (0 : Int)) () h trivial (cutW rfl (weak_cons rfl (weak_cons rfl (weak_cons rfl (weak_cons rfl (weak_cons rfl weak_nil)))))) (fun s3 gh ws3 h hg => ?_)
      refine T.seq ?_
      refine T.region ?_
      refine oN (EvN.ilt rfl rfl) ?_
      refine TO.nil ?_
      refine T.seq ?_
      refine T.cond rfl (fun q5 => ?_) (fun q5 => ?_)
      · replace h := condT q5 h
        refine T.skip ?_
        refine T.seq ?_
        refine T.block ?_
        refine T.seq ?_
        refine T.region ?_
        refine oN (EvN.mv (I s3) rfl) ?_
        obtain ⟨g6, h⟩ := gdD h
        refine oN (EvN.ixL sl24 rfl rfl g6 (fun _ => rfl)) ?_
        refine oN (EvN.loadfp (eL Ximpl_Instr.c (s1_.getD s3.toNat default)) ty57 rfl rfl) ?_
        refine oN (EvN.asg (I s3) rfl) ?_
        refine oN (EvN.asg (eL Ximpl_Instr.c (s1_.getD s3.toNat default)) rfl) ?_
        refine TO.nil ?_
        refine T.seq ?_
        refine T.region ?_
        refine oN (EvN.mv (eL (cL Ximpl_Instr.c) s2_) rfl) ?_
        refine oN (EvN.mv (I s3) rfl) ?_
        obtain ⟨g7, h⟩ := gdD h
        refine oN (EvN.ixL sl24 rfl rfl g7 (fun _ => rfl)) ?_
        refine oN (EvN.loadfp (eL Ximpl_Instr.c (s2_.getD s3.toNat default)) ty57 rfl rfl) ?_
        refine oN (EvN.asg (eL Ximpl_Instr.c (s2_.getD s3.toNat default)) rfl) ?_
        refine TO.nil ?_
        refine T.seq ?_
        refine T.clean (H0 := []) (e0 := envOf [(9, eL Ximpl_Instr.c (s2_.getD s3.toNat default)), (8, eL Ximpl_Instr.c (s1_.getD s3.toNat default)), (17, I s3), (16, I (s1_.length : Int)), (15, eL (cL Ximpl_Instr.c) s1_), (1, eL (cL Ximpl_Instr.c) s2_), (2, .fn (.func 64) [])]) rfl (weak_cons rfl (weak_cons rfl (weak_cons rfl (weak_cons rfl (weak_cons rfl (weak_cons rfl (weak_cons rfl weak_nil))))))) ?_
        refine T.region ?_
        refine oN (EvN.mv (.fn (.func 64) []) rfl) ?_
        refine oN (EvN.mv (eL Ximpl_Instr.c (s1_.getD s3.toNat default)) rfl) ?_
        refine oN (EvN.mv (eL Ximpl_Instr.c (s2_.getD s3.toNat default)) rfl) ?_
        obtain ⟨v8, cv8, h⟩ := bindL h
        refine oN (EvN.call rfl rfl rfl (F_impl_ProgramSame_1_P (s1_.getD s3.toNat default) (s2_.getD s3.toNat default) cv8) rfl) ?_
        refine oN (EvN.not rfl) ?_
        refine TO.nil ?_
        refine T.cond rfl (fun q9 => ?_) (fun q9 => ?_)
        · replace h := condT q9 h
          refine T.seq ?_
          refine T.clean (H0 := []) (e0 := envOf []) rfl weak_nil ?_
          refine T.region ?_
          refine oN (EvN.asg (Bo false) rfl) ?_
          refine TO.nil ?_
          refine T.ret ?_
          refine ⟨_, (Option.some.inj h).symm, fun h => ?_⟩
          replace h := congrArg some h
          obtain rfl := Option.some.inj h
          replace h := congrArg some (show _ = _ from ks2)
          obtain rfl := Option.some.inj h
          repeat first | refine retS ?_ | refine retB ?_
          exact Fin.ret (vs := [Bo false]) (.cons (.tmp rfl) .nil) (.of_isF 9 _ rfl)
        · replace h := condF q9 h
          refine T.skip ?_
          refine T.clean (H0 := []) (e0 := envOf [(17, I s3), (16, I (s1_.length : Int)), (15, eL (cL Ximpl_Instr.c) s1_), (1, eL (cL Ximpl_Instr.c) s2_), (2, .fn (.func 64) [])]) rfl (weak_cons rfl (weak_cons rfl (weak_cons rfl (weak_cons rfl (weak_cons rfl weak_nil))))) ?_
          refine T.region ?_
          obtain ⟨g10, h⟩ := gdW h
          refine oN (EvN.add rfl rfl g10) ?_
          refine oN (EvN.mv (I (s3 + (1 : Int))) rfl) ?_
          refine TO.nil ?_
          obtain rfl := Option.some.inj h
          exact ⟨(s3 + (1 : Int)), (), rfl, trivial, cutW rfl (weak_cons rfl (weak_cons rfl (weak_cons rfl (weak_cons rfl (weak_cons rfl weak_nil)))))⟩
      · replace h := condF q5 h
        refine T.exit ?_
        refine ⟨_, (Option.some.inj h).symm, fun h => ?_⟩
        replace h := congrArg some h
        obtain rfl := Option.some.inj h
        exact ⟨(), (), ks2, trivial, cutW rfl weak_nil⟩

theorem F_impl_ProgramSame_P (a : List (List Ximpl_Instr)) (b : List (List Ximpl_Instr)) {q : Bool} (h : F_impl_ProgramSame a b = some q) : PCall Try.prog 27 [eL (cL Ximpl_Instr.c) a, eL (cL Ximpl_Instr.c) b] (Bo q) := by
  refine PCall.mkT Try.func27 rfl (by kernel_rfl) rfl (by kernel_rfl) (e0 := envOf [(0, eL (cL Ximpl_Instr.c) a), (1, eL (cL Ximpl_Instr.c) b)]) (weak_cons rfl (weak_cons rfl weak_nil)) ?_
  refine T.seq ?_
  refine T.region ?_
  refine oN (EvN.asg (Bo false) rfl) ?_
  refine TO.nil ?_
  refine T.seq ?_
  refine T.region ?_
  refine oN (EvN.mv (eL (cL Ximpl_Instr.c) a) rfl) ?_
  refine oN (EvN.mv (eL (cL Ximpl_Instr.c) b) rfl) ?_
  obtain ⟨v1, cv1, h⟩ := bindL h
  refine oN (EvN.call rfl rfl rfl (F_slices_EqualFunc_impl_Instr_impl_Instr_impl_Instr_impl_Instr__impl_ProgramSame_1_P a b cv1) rfl) ?_
  refine oN (EvN.asg (Bo v1) rfl) ?_
  refine TO.nil ?_
  refine T.ret ?_
  obtain rfl := Option.some.inj h
  repeat first | refine retS ?_ | refine retB ?_
  exact Fin.ret (vs := [Bo v1]) (.cons (.tmp rfl) .nil) (.of_isF 9 _ rfl)

theorem F_impl_InstrValid_P (x : Ximpl_Instr) {q : Bool} (h : F_impl_InstrValid x = some q) : PCall Try.prog 66 [.agg (Ximpl_Instr.c x)] (Bo q) := by
  refine PCall.mkT Try.func66 rfl (by kernel_rfl) rfl (by kernel_rfl) (e0 := envOf [(0, .agg (Ximpl_Instr.c x))]) (weak_cons rfl weak_nil) ?_
  refine T.seq ?_
  refine T.region ?_
  refine oN (EvN.bxF [I x.Op, I x.Loc, I x.Reg, I x.Val] rfl rfl rfl) ?_
  refine oN (EvN.asg (Bo false) rfl) ?_
  refine TO.nil ?_
  refine T.seq ?_
  refine T.region ?_
  refine oN (EvN.fafp Try.underlying66 rfl (by kernel_rfl) rfl) ?_
  refine oN (EvN.loadfp (I x.Op) ty3 rfl rfl) ?_
  refine oN (EvN.build [I x.Op, I (0 : Int), I (0 : Int), I (0 : Int)] Try.underlying66 zs66 fs66 rfl rfl) ?_
  refine oA (EvA.al zs66 rfl rfl) ?_
  refine oV (EvA.st (cs := [I x.Op, I (0 : Int), I (0 : Int), I (0 : Int)]) ⟨0, 4, 66, [[I x.Op, I (0 : Int), I (0 : Int), I (0 : Int)]]⟩ ty66 rfl rfl rfl rfl rfl rfl rfl rfl rfl) ?_
  refine TO.nil ?_
  obtain ⟨Ks1, es1, ws1, h, ks1⟩ := sumL h
  refine T.join (S := Int × Int × Int) (G := Unit) (fun s1 => Ks1 s1 = some q) (fun s1 gh => True) (fun s1 gh => [(3, .hp 0 0 4 0 0), (1, .fp (Ximpl_Instr.c x) 0)]) (fun s1 gh => [some ⟨0, 4, 66, [[I x.Op, I s1.1, I s1.2.1, I s1.2.2]]⟩]) (fun s1 gh h hg => ?_) ?_
  · clear ks1
    subst es1
    refine T.seq ?_
    refine T.region ?_
    refine oN (EvN.loadfp (.agg (Ximpl_Instr.c x)) ty66 rfl rfl) ?_
    refine oA (EvA.loadhp (.agg [I x.Op, I s1.1, I s1.2.1, I s1.2.2]) ty66 rfl rfl rfl rfl rfl rfl) ?_
    refine oN (EvN.aeq (x.Op == x.Op && (x.Loc == s1.1 && (x.Reg == s1.2.1 && (x.Val == s1.2.2 && true)))) (cs := [I x.Op, I x.Loc, I x.Reg, I x.Val]) (ds := [I x.Op, I s1.1, I s1.2.1, I s1.2.2]) te66 rfl rfl (by kernel_rfl)) ?_
    refine oN (EvN.mv (Bo (x.Op == x.Op && (x.Loc == s1.1 && (x.Reg == s1.2.1 && (x.Val == s1.2.2 && true))))) rfl) ?_
    obtain ⟨s8, h, ks8⟩ := bindL h
    refine TO.joinF (G := Unit) 4 (fun _ => True) (fun _ => [(38, Bo s8), (1, .fp (Ximpl_Instr.c x) 0)]) (fun _ => [some ⟨0, 4, 66, [[I x.Op, I s1.1, I s1.2.1, I s1.2.2]]⟩]) ?_ (fun js8 => ?_)
    rotate_left
    · clear ks8
      rcases bifL h with ⟨q9, h⟩ | ⟨q9, h⟩
      · refine gN rfl q9 (EvN.fafp Try.underlying66 rfl (by kernel_rfl) rfl) ?_
        refine gN rfl q9 (EvN.loadfp (I x.Loc) ty3 rfl rfl) ?_
        obtain ⟨v10, cv10, h⟩ := bindL h
        refine gN rfl q9 (EvN.call rfl rfl rfl (F_impl_within_P x.Loc (0 : Int) (2 : Int) cv10) rfl) ?_
        refine oN (EvN.pickT rfl q9 (Bo v10) rfl) ?_
        obtain rfl := Option.some.inj h
        exact js8 _ _ ⟨(), trivial, cutW rfl (weak_cons rfl (weak_cons rfl weak_nil))⟩
      · refine gS rfl q9 ?_
        refine gS rfl q9 ?_
        refine gS rfl q9 ?_
        refine oN (EvN.pickF rfl q9 (Bo false) rfl) ?_
        obtain rfl := Option.some.inj h
        exact js8 _ _ ⟨(), trivial, cutW rfl (weak_cons rfl (weak_cons rfl weak_nil))⟩
    · intro _ _
      replace h := ks8
      clear ks8
      refine oN (EvN.mv (Bo s8) rfl) ?_
      obtain ⟨s11, h, ks11⟩ := bindL h
      refine TO.joinF (G := Unit) 4 (fun _ => True) (fun _ => [(43, Bo s11), (1, .fp (Ximpl_Instr.c x) 0)]) (fun _ => [some ⟨0, 4, 66, [[I x.Op, I s1.1, I s1.2.1, I s1.2.2]]⟩]) ?_ (fun js11 => ?_)
      rotate_left
      · clear ks11
        rcases bifL h with ⟨q12, h⟩ | ⟨q12, h⟩
        · refine gN rfl q12 (EvN.fafp Try.underlying66 rfl (by kernel_rfl) rfl) ?_
          refine gN rfl q12 (EvN.loadfp (I x.Reg) ty3 rfl rfl) ?_
          obtain ⟨v13, cv13, h⟩ := bindL h
          refine gN rfl q12 (EvN.call rfl rfl rfl (F_impl_within_P x.Reg (0 : Int) (2 : Int) cv13) rfl) ?_
          refine oN (EvN.pickT rfl q12 (Bo v13) rfl) ?_
          obtain rfl := Option.some.inj h
          exact js11 _ _ ⟨(), trivial, cutW rfl (weak_cons rfl (weak_cons rfl weak_nil))⟩
        · refine gS rfl q12 ?_
          refine gS rfl q12 ?_
          refine gS rfl q12 ?_
          refine oN (EvN.pickF rfl q12 (Bo false) rfl) ?_
          obtain rfl := Option.some.inj h
          exact js11 _ _ ⟨(), trivial, cutW rfl (weak_cons rfl (weak_cons rfl weak_nil))⟩
      · intro _ _
        replace h := ks11
        clear ks11
        refine oN (EvN.mv (Bo s11) rfl) ?_
        obtain ⟨s14, h, ks14⟩ := bindL h
        refine TO.joinF (G := Unit) 4 (fun _ => True) (fun _ => [(48, Bo s14)]) (fun _ => [some ⟨0, 4, 66, [[I x.Op, I s1.1, I s1.2.1, I s1.2.2]]⟩]) ?_ (fun js14 => ?_)
        rotate_left
        · clear ks14
          rcases bifL h with ⟨q15, h⟩ | ⟨q15, h⟩
          · refine gN rfl q15 (EvN.fafp Try.underlying66 rfl (by kernel_rfl) rfl) ?_
            refine gN rfl q15 (EvN.loadfp (I x.Val) ty3 rfl rfl) ?_
            obtain ⟨v16, cv16, h⟩ := bindL h
            refine gN rfl q15 (EvN.call rfl rfl rfl (F_impl_within_P x.Val (0 : Int) (3 : Int) cv16) rfl) ?_
            refine oN (EvN.pickT rfl q15 (Bo v16) rfl) ?_
            obtain rfl := Option.some.inj h
            exact js14 _ _ ⟨(), trivial, cutW rfl (weak_cons rfl weak_nil)⟩
          · refine gS rfl q15 ?_
            refine gS rfl q15 ?_
            refine gS rfl q15 ?_
            refine oN (EvN.pickF rfl q15 (Bo false) rfl) ?_
            obtain rfl := Option.some.inj h
            exact js14 _ _ ⟨(), trivial, cutW rfl (weak_cons rfl weak_nil)⟩
        · intro _ _
          replace h := ks14
          clear ks14
          refine oN (EvN.asg (Bo s14) rfl) ?_
          refine TO.nil ?_
          refine T.ret ?_
          obtain rfl := Option.some.inj h
          repeat first | refine retS ?_ | refine retB ?_
          exact Fin.ret (vs := [Bo s14]) (.cons (.tmp rfl) .nil) (.of_isF 9 _ rfl)
  · refine T.seq ?_
    refine T.region ?_
    refine oN (EvN.fafp Try.underlying66 rfl (by kernel_rfl) rfl) ?_
    refine oN (EvN.loadfp (I x.Op) ty3 rfl rfl) ?_
    refine TO.nil ?_
    refine T.block ?_
    obtain ⟨s2, h, ks2⟩ := bindL h
    refine T.joinF (G := Unit) (fun gh => True) (fun gh => [(9, Bo s2), (8, I x.Op), (3, .hp 0 0 4 0 0), (1, .fp (Ximpl_Instr.c x) 0)]) (fun gh => [some ⟨0, 4, 66, [[I x.Op, I (0 : Int), I (0 : Int), I (0 : Int)]]⟩]) (fun gh hg => ?_) ?_
    · clear h
      have h := ks2
      clear ks2
      refine T.cond rfl (fun q4 => ?_) (fun q4 => ?_)
      · replace h := condT q4 h
        refine T.drawF (fun i => [([], false), ([], false), ([], false), ([], false), ([], false), ([0], true), ([], false), ([0], true)].getD i ([], false)) (by kernel_rfl) (by kernel_rfl) ?_
        refine fN rfl (EvN.fafp Try.underlying66 rfl (by kernel_rfl) rfl) ?_
        refine fN rfl (EvN.loadfp (I x.Loc) ty3 rfl rfl) ?_
        refine fN rfl (EvN.fafp Try.underlying66 rfl (by kernel_rfl) rfl) ?_
        refine fN rfl (EvN.loadfp (I x.Reg) ty3 rfl rfl) ?_
        refine fN rfl (EvN.fahp Try.underlying66 rfl (by kernel_rfl) rfl) ?_
        refine fV 0 [] rfl rfl (fun G hG => EvA.st (cs := [I x.Loc]) ⟨0, 4, 66, [[I x.Op, I x.Loc, I (0 : Int), I (0 : Int)]]⟩ ty3 rfl rfl (hG.a0 rfl) rfl rfl rfl rfl rfl rfl) ?_
        refine fN rfl (EvN.fahp Try.underlying66 rfl (by kernel_rfl) rfl) ?_
        refine fV 0 [] rfl rfl (fun G hG => EvA.st (cs := [I x.Reg]) ⟨0, 4, 66, [[I x.Op, I x.Loc, I x.Reg, I (0 : Int)]]⟩ ty3 rfl rfl (hG.a0 rfl) rfl rfl rfl rfl rfl rfl) ?_
        refine TF.nil ?_
        obtain rfl := Option.some.inj h
        exact ⟨(x.Loc, x.Reg, (0 : Int)), (), ks1, trivial, cutW rfl (weak_cons rfl (weak_cons rfl weak_nil))⟩
      · replace h := condF q4 h
        refine T.seq ?_
        refine T.region ?_
        refine oN (EvN.ieq rfl rfl) ?_
        refine oN (EvN.asg (Bo (x.Op == (2 : Int))) rfl) ?_
        refine TO.nil ?_
        refine T.cond rfl (fun q5 => ?_) (fun q5 => ?_)
        · replace h := condT q5 h
          refine T.drawF (fun i => [([], false), ([], false), ([], false), ([], false), ([], false), ([0], true), ([], false), ([0], true)].getD i ([], false)) (by kernel_rfl) (by kernel_rfl) ?_
          refine fN rfl (EvN.fafp Try.underlying66 rfl (by kernel_rfl) rfl) ?_
          refine fN rfl (EvN.loadfp (I x.Loc) ty3 rfl rfl) ?_
          refine fN rfl (EvN.fafp Try.underlying66 rfl (by kernel_rfl) rfl) ?_
          refine fN rfl (EvN.loadfp (I x.Val) ty3 rfl rfl) ?_
          refine fN rfl (EvN.fahp Try.underlying66 rfl (by kernel_rfl) rfl) ?_
          refine fV 0 [] rfl rfl (fun G hG => EvA.st (cs := [I x.Loc]) ⟨0, 4, 66, [[I x.Op, I x.Loc, I (0 : Int), I (0 : Int)]]⟩ ty3 rfl rfl (hG.a0 rfl) rfl rfl rfl rfl rfl rfl) ?_
          refine fN rfl (EvN.fahp Try.underlying66 rfl (by kernel_rfl) rfl) ?_
          refine fV 0 [] rfl rfl (fun G hG => EvA.st (cs := [I x.Val]) ⟨0, 4, 66, [[I x.Op, I x.Loc, I (0 : Int), I x.Val]]⟩ ty3 rfl rfl (hG.a0 rfl) rfl rfl rfl rfl rfl rfl) ?_
          refine TF.nil ?_
          obtain rfl := Option.some.inj h
          exact ⟨(x.Loc, (0 : Int), x.Val), (), ks1, trivial, cutW rfl (weak_cons rfl (weak_cons rfl weak_nil))⟩
        · replace h := condF q5 h
          refine T.seq ?_
          refine T.region ?_
          refine oN (EvN.ieq rfl rfl) ?_
          refine oN (EvN.asg (Bo (x.Op == (4 : Int))) rfl) ?_
          refine TO.nil ?_
          refine T.cond rfl (fun q6 => ?_) (fun q6 => ?_)
          · replace h := condT q6 h
            refine T.skip ?_
            obtain rfl := Option.some.inj h
            exact ⟨((0 : Int), (0 : Int), (0 : Int)), (), ks1, trivial, cutW rfl (weak_cons rfl (weak_cons rfl weak_nil))⟩
          · replace h := condF q6 h
            refine T.seq ?_
            refine T.region ?_
            refine oN (EvN.ieq rfl rfl) ?_
            refine oN (EvN.asg (Bo (x.Op == (5 : Int))) rfl) ?_
            refine TO.nil ?_
            refine T.cond rfl (fun q7 => ?_) (fun q7 => ?_)
            · replace h := condT q7 h
              refine T.clean (H0 := [some ⟨0, 4, 66, [[I x.Op, I (0 : Int), I (0 : Int), I (0 : Int)]]⟩]) (e0 := envOf [(3, .hp 0 0 4 0 0), (1, .fp (Ximpl_Instr.c x) 0)]) rfl (weak_cons rfl (weak_cons rfl weak_nil)) ?_
              refine T.region ?_
              refine oN (EvN.loadfp (.agg (Ximpl_Instr.c x)) ty66 rfl rfl) ?_
              refine oV (EvA.st (cs := [I x.Op, I x.Loc, I x.Reg, I x.Val]) ⟨0, 4, 66, [[I x.Op, I x.Loc, I x.Reg, I x.Val]]⟩ ty66 rfl rfl rfl rfl rfl rfl rfl rfl rfl) ?_
              refine TO.nil ?_
              obtain rfl := Option.some.inj h
              exact ⟨(x.Loc, x.Reg, x.Val), (), ks1, trivial, cutW rfl (weak_cons rfl (weak_cons rfl weak_nil))⟩
            · replace h := condF q7 h
              refine T.seq ?_
              refine T.clean (H0 := [some ⟨0, 4, 66, [[I x.Op, I (0 : Int), I (0 : Int), I (0 : Int)]]⟩]) (e0 := envOf []) rfl weak_nil ?_
              refine T.region ?_
              refine oN (EvN.asg (Bo false) rfl) ?_
              refine TO.nil ?_
              refine T.ret ?_
              obtain rfl := Option.some.inj h
              replace h := congrArg some (show _ = _ from ks1)
              obtain rfl := Option.some.inj h
              repeat first | refine retS ?_ | refine retB ?_
              exact Fin.ret (vs := [Bo false]) (.cons (.tmp rfl) .nil) (.of_isF 9 _ rfl)
    · clear ks2
      refine T.seq ?_
      refine T.clean (H0 := [some ⟨0, 4, 66, [[I x.Op, I (0 : Int), I (0 : Int), I (0 : Int)]]⟩]) (e0 := envOf [(8, I x.Op), (3, .hp 0 0 4 0 0), (1, .fp (Ximpl_Instr.c x) 0)]) rfl (weak_cons rfl (weak_cons rfl (weak_cons rfl weak_nil))) ?_
      refine T.region ?_
      refine oN (EvN.ieq rfl rfl) ?_
      refine oN (EvN.asg (Bo (x.Op == (1 : Int))) rfl) ?_
      refine TO.nil ?_
      refine T.cond rfl (fun q3 => ?_) (fun q3 => ?_)
      · replace h := condT q3 h
        refine T.skip ?_
        obtain rfl := Option.some.inj h
        exact ⟨(), trivial, cutW rfl (weak_cons rfl (weak_cons rfl (weak_cons rfl (weak_cons rfl weak_nil))))⟩
      · replace h := condF q3 h
        refine T.region ?_
        refine oN (EvN.ieq rfl rfl) ?_
        refine oN (EvN.asg (Bo (x.Op == (3 : Int))) rfl) ?_
        refine TO.nil ?_
        obtain rfl := Option.some.inj h
        exact ⟨(), trivial, cutW rfl (weak_cons rfl (weak_cons rfl (weak_cons rfl (weak_cons rfl weak_nil))))⟩

theorem F_impl_Instr_reads_P (x : Ximpl_Instr) {q : Bool} (h : F_impl_Instr_reads x = some q) : PCall Try.prog 73 [.agg (Ximpl_Instr.c x)] (Bo q) := by
  refine PCall.mkT Try.func73 rfl (by kernel_rfl) rfl (by kernel_rfl) (e0 := envOf [(0, .agg (Ximpl_Instr.c x))]) (weak_cons rfl weak_nil) ?_
  refine T.seq ?_
  refine T.region ?_
  refine oN (EvN.bxF [I x.Op, I x.Loc, I x.Reg, I x.Val] rfl rfl rfl) ?_
  refine oN (EvN.asg (Bo false) rfl) ?_
  refine TO.nil ?_
  refine T.seq ?_
  refine T.region ?_
  refine oN (EvN.fafp Try.underlying66 rfl (by kernel_rfl) rfl) ?_
  refine oN (EvN.loadfp (I x.Op) ty3 rfl rfl) ?_
  refine oN (EvN.ieq rfl rfl) ?_
  refine oN (EvN.mv (Bo (x.Op == (1 : Int))) rfl) ?_
  obtain ⟨s1, h, ks1⟩ := bindL h
  refine TO.joinF (G := Unit) 4 (fun _ => True) (fun _ => [(10, Bo s1)]) (fun _ => []) ?_ (fun js1 => ?_)
  rotate_left
  · clear ks1
    rcases bifL h with ⟨q2, h⟩ | ⟨q2, h⟩
    · refine gS rfl q2 ?_
      refine gS rfl q2 ?_
      refine gS rfl q2 ?_
      refine oN (EvN.pickT rfl q2 (Bo true) rfl) ?_
      obtain rfl := Option.some.inj h
      exact js1 _ _ ⟨(), trivial, cutW rfl (weak_cons rfl weak_nil)⟩
    · refine gN rfl q2 (EvN.fafp Try.underlying66 rfl (by kernel_rfl) rfl) ?_
      refine gN rfl q2 (EvN.loadfp (I x.Op) ty3 rfl rfl) ?_
      refine gN rfl q2 (EvN.ieq rfl rfl) ?_
      refine oN (EvN.pickF rfl q2 (Bo (x.Op == (5 : Int))) rfl) ?_
      obtain rfl := Option.some.inj h
      exact js1 _ _ ⟨(), trivial, cutW rfl (weak_cons rfl weak_nil)⟩
  · intro _ _
    replace h := ks1
    clear ks1
    refine oN (EvN.asg (Bo s1) rfl) ?_
    refine TO.nil ?_
    refine T.ret ?_
    obtain rfl := Option.some.inj h
    repeat first | refine retS ?_ | refine retB ?_
    exact Fin.ret (vs := [Bo s1]) (.cons (.tmp rfl) .nil) (.of_isF 9 _ rfl)

theorem F_impl_Instr_writes_P (x : Ximpl_Instr) {q : Bool} (h : F_impl_Instr_writes x = some q) : PCall Try.prog 93 [.agg (Ximpl_Instr.c x)] (Bo q) := by
  refine PCall.mkT Try.func93 rfl (by kernel_rfl) rfl (by kernel_rfl) (e0 := envOf [(0, .agg (Ximpl_Instr.c x))]) (weak_cons rfl weak_nil) ?_
  refine T.seq ?_
  refine T.region ?_
  refine oN (EvN.bxF [I x.Op, I x.Loc, I x.Reg, I x.Val] rfl rfl rfl) ?_
  refine oN (EvN.asg (Bo false) rfl) ?_
  refine TO.nil ?_
  refine T.seq ?_
  refine T.region ?_
  refine oN (EvN.fafp Try.underlying66 rfl (by kernel_rfl) rfl) ?_
  refine oN (EvN.loadfp (I x.Op) ty3 rfl rfl) ?_
  refine oN (EvN.ieq rfl rfl) ?_
  refine oN (EvN.mv (Bo (x.Op == (2 : Int))) rfl) ?_
  obtain ⟨s1, h, ks1⟩ := bindL h
  refine TO.joinF (G := Unit) 4 (fun _ => True) (fun _ => [(10, Bo s1), (1, .fp (Ximpl_Instr.c x) 0)]) (fun _ => []) ?_ (fun js1 => ?_)
  rotate_left
  · clear ks1
    rcases bifL h with ⟨q2, h⟩ | ⟨q2, h⟩
    · refine gS rfl q2 ?_
      refine gS rfl q2 ?_
      refine gS rfl q2 ?_
      refine oN (EvN.pickT rfl q2 (Bo true) rfl) ?_
      obtain rfl := Option.some.inj h
      exact js1 _ _ ⟨(), trivial, cutW rfl (weak_cons rfl (weak_cons rfl weak_nil))⟩
    · refine gN rfl q2 (EvN.fafp Try.underlying66 rfl (by kernel_rfl) rfl) ?_
      refine gN rfl q2 (EvN.loadfp (I x.Op) ty3 rfl rfl) ?_
      refine gN rfl q2 (EvN.ieq rfl rfl) ?_
      refine oN (EvN.pickF rfl q2 (Bo (x.Op == (3 : Int))) rfl) ?_
      obtain rfl := Option.some.inj h
      exact js1 _ _ ⟨(), trivial, cutW rfl (weak_cons rfl (weak_cons rfl weak_nil))⟩
  · intro _ _
    replace h := ks1
    clear ks1
    refine oN (EvN.mv (Bo s1) rfl) ?_
    obtain ⟨s3, h, ks3⟩ := bindL h
    refine TO.joinF (G := Unit) 4 (fun _ => True) (fun _ => [(15, Bo s3)]) (fun _ => []) ?_ (fun js3 => ?_)
    rotate_left
    · clear ks3
      rcases bifL h with ⟨q4, h⟩ | ⟨q4, h⟩
      · refine gS rfl q4 ?_
        refine gS rfl q4 ?_
        refine gS rfl q4 ?_
        refine oN (EvN.pickT rfl q4 (Bo true) rfl) ?_
        obtain rfl := Option.some.inj h
        exact js3 _ _ ⟨(), trivial, cutW rfl (weak_cons rfl weak_nil)⟩
      · refine gN rfl q4 (EvN.fafp Try.underlying66 rfl (by kernel_rfl) rfl) ?_
        refine gN rfl q4 (EvN.loadfp (I x.Op) ty3 rfl rfl) ?_
        refine gN rfl q4 (EvN.ieq rfl rfl) ?_
        refine oN (EvN.pickF rfl q4 (Bo (x.Op == (5 : Int))) rfl) ?_
        obtain rfl := Option.some.inj h
        exact js3 _ _ ⟨(), trivial, cutW rfl (weak_cons rfl weak_nil)⟩
    · intro _ _
      replace h := ks3
      clear ks3
      refine oN (EvN.asg (Bo s3) rfl) ?_
      refine TO.nil ?_
      refine T.ret ?_
      obtain rfl := Option.some.inj h
      repeat first | refine retS ?_ | refine retB ?_
      exact Fin.ret (vs := [Bo s3]) (.cons (.tmp rfl) .nil) (.of_isF 9 _ rfl)

theorem F_impl_execs_1_P (n : Int) (a1 : Int) (ver0 : Nat) {q : Int} (h : F_impl_execs_1 n a1 = some q) : ACall Try.prog 92 [I n, .hp 0 ver0 1 0 0] [some ⟨ver0, 1, 3, [[I a1]]⟩] (.tup []) [some ⟨ver0, 1, 3, [[I q]]⟩] := by
  refine ACall.mkT Try.func92 rfl (by kernel_rfl) rfl (by kernel_rfl) (e0 := envOf [(0, I n), (1, .hp 0 ver0 1 0 0)]) (weak_cons rfl (weak_cons rfl weak_nil)) ?_
  refine T.region ?_
  refine oA (EvA.loadhp (I a1) ty3 rfl rfl rfl rfl rfl rfl) ?_
  refine oN (EvN.mv (I n) rfl) ?_
  obtain ⟨g1, h⟩ := gdW h
  refine oN (EvN.mul rfl rfl g1) ?_
  refine oN (EvN.min rfl rfl) ?_
  refine oV (EvA.st (cs := [I (if (3001 : Int) < (a1 * n) then (3001 : Int) else (a1 * n))]) ⟨ver0, 1, 3, [[I (if (3001 : Int) < (a1 * n) then (3001 : Int) else (a1 * n))]]⟩ ty3 rfl rfl rfl rfl rfl rfl rfl rfl rfl) ?_
  refine TO.nil ?_
  obtain rfl := Option.some.inj h
  repeat first | refine retS ?_ | refine retB ?_
  exact ⟨envOf [], [some ⟨ver0, 1, 3, [[I (if (3001 : Int) < (a1 * n) then (3001 : Int) else (a1 * n))]]⟩], cutW rfl weak_nil, Fin.normal (vs := []) .nil ⟨rfl, rfl⟩⟩

theorem F_impl_execs_P (p : List (List Ximpl_Instr)) {q : Int} (h : F_impl_execs p = some q) : PCall Try.prog 67 [eL (cL Ximpl_Instr.c) p] (I q) := by
  refine PCall.mkT Try.func67 rfl (by kernel_rfl) rfl (by kernel_rfl) (e0 := envOf [(0, eL (cL Ximpl_Instr.c) p)]) (weak_cons rfl weak_nil) ?_
  refine T.seq ?_
  refine T.region ?_
  refine oN (EvN.asg (I (0 : Int)) rfl) ?_
  refine TO.nil ?_
  refine T.seq ?_
  refine T.region ?_
  refine oA (EvA.al zs3 rfl rfl) ?_
  refine oV (EvA.st (cs := [I (1 : Int)]) ⟨0, 1, 3, [[I (1 : Int)]]⟩ ty3 rfl rfl rfl rfl rfl rfl rfl rfl rfl) ?_
  refine TO.nil ?_
  refine T.seq ?_
  refine T.region ?_
  refine oN (EvN.mkfn [.hp 0 0 1 0 0] rfl rfl) ?_
  refine oN (EvN.asg (.fn (.func 92) [.hp 0 0 1 0 0]) rfl) ?_
  refine TO.nil ?_
  obtain ⟨s1, h, ks1⟩ := bindL h
  refine T.joinF (G := Unit) (fun gh => True) (fun gh => [(3, .hp 0 0 1 0 0)]) (fun gh => [some ⟨0, 1, 3, [[I s1]]⟩]) (fun gh hg => ?_) ?_
  · clear h
    have h := ks1
    clear ks1
    refine T.seq ?_
    refine T.region ?_
    refine oA (EvA.loadhp (I s1) ty3 rfl rfl rfl rfl rfl rfl) ?_
    refine oN (EvN.asg (I s1) rfl) ?_
    refine TO.nil ?_
    refine T.ret ?_
    obtain rfl := Option.some.inj h
    repeat first | refine retS ?_ | refine retB ?_
    exact Fin.ret (vs := [I s1]) (.cons (.tmp rfl) .nil) (.of_isF 9 _ rfl)
  · clear ks1
    refine T.seq ?_
    refine T.region ?_
    refine oN (EvN.mv (I (0 : Int)) rfl) ?_
    refine TO.nil ?_
    refine T.block ?_
    refine T.loop (S := Int × Int) (G := Unit) (F_impl_execs_L3 p) (fun s2 gh => True) (fun s2 gh => [(14, I s2.2), (4, .fn (.func 92) [.hp 0 0 1 0 0]), (3, .hp 0 0 1 0 0), (0, eL (cL Ximpl_Instr.c) p)]) (fun s2 gh => [some ⟨0, 1, 3, [[I s2.1]]⟩]) (s0 := ((1 : Int), (0 : Int))) () h trivial (cutW rfl (weak_cons rfl (weak_cons rfl (weak_cons rfl (weak_cons rfl weak_nil))))) (fun s2 gh ws2 h hg => ?_)
    refine T.seq ?_
    refine T.region ?_
    refine oN (EvN.ilt rfl rfl) ?_
    refine TO.nil ?_
    refine T.seq ?_
    refine T.cond rfl (fun q4 => ?_) (fun q4 => ?_)
    · replace h := condT q4 h
      refine T.skip ?_
      obtain ⟨s5, h, ks5⟩ := bindL h
      refine T.joinF (G := Unit) (fun gh => True) (fun gh => [(14, I s2.2), (4, .fn (.func 92) [.hp 0 0 1 0 0]), (3, .hp 0 0 1 0 0), (0, eL (cL Ximpl_Instr.c) p)]) (fun gh => [some ⟨0, 1, 3, [[I s5]]⟩]) (fun gh hg => ?_) ?_
      · clear h
        have h := ks5
        clear ks5
        refine T.region ?_
        obtain ⟨g42, h⟩ := gdW h
        refine oN (EvN.add rfl rfl g42) ?_
        refine oN (EvN.mv (I (s2.2 + (1 : Int))) rfl) ?_
        refine TO.nil ?_
        obtain rfl := Option.some.inj h
        exact ⟨(s5, (s2.2 + (1 : Int))), (), rfl, trivial, cutW rfl (weak_cons rfl (weak_cons rfl (weak_cons rfl (weak_cons rfl weak_nil))))⟩
      · clear ks5
        refine T.block ?_
        refine T.seq ?_
        refine T.region ?_
        refine oN (EvN.mv (I s2.2) rfl) ?_
        refine oN (EvN.asg (I s2.2) rfl) ?_
        refine TO.nil ?_
        refine T.seq ?_
        refine T.region ?_
        refine oN (EvN.asg (I (0 : Int)) rfl) ?_
        refine oN (EvN.asg (I (0 : Int)) rfl) ?_
        refine TO.nil ?_
        obtain ⟨s6, h, ks6⟩ := bindL h
        refine T.joinF (G := Unit) (fun gh => True) (fun gh => [(7, I s6.1), (6, I s6.2), (14, I s2.2), (4, .fn (.func 92) [.hp 0 0 1 0 0]), (3, .hp 0 0 1 0 0), (0, eL (cL Ximpl_Instr.c) p)]) (fun gh => [some ⟨0, 1, 3, [[I s2.1]]⟩]) (fun gh hg => ?_) ?_
        · clear h
          have h := ks6
          clear ks6
          obtain ⟨s30, h, ks30⟩ := bindL h
          refine T.joinF (G := Unit) (fun gh => True) (fun gh => [(7, I s6.1), (14, I s2.2), (4, .fn (.func 92) [.hp 0 0 1 0 0]), (3, .hp 0 0 1 0 0), (0, eL (cL Ximpl_Instr.c) p)]) (fun gh => [some ⟨0, 1, 3, [[I s30]]⟩]) (fun gh hg => ?_) ?_
          · clear h
            have h := ks30
            clear ks30
            refine T.seq ?_
            refine T.region ?_
            refine oN (EvN.mv (I s6.1) rfl) ?_
            refine oN (EvN.mv (I (0 : Int)) rfl) ?_
            refine TO.nil ?_
            refine T.block ?_
            refine T.loop (S := Int × Int) (G := Unit) (F_impl_execs_L38 s6) (fun s37 gh => True) (fun s37 gh => [(60, I s37.2), (59, I s6.1), (14, I s2.2), (4, .fn (.func 92) [.hp 0 0 1 0 0]), (3, .hp 0 0 1 0 0), (0, eL (cL Ximpl_Instr.c) p)]) (fun s37 gh => [some ⟨0, 1, 3, [[I s37.1]]⟩]) (s0 := (s30, (0 : Int))) () h trivial (cutW rfl (weak_cons rfl (weak_cons rfl (weak_cons rfl (weak_cons rfl (weak_cons rfl (weak_cons rfl weak_nil))))))) (fun s37 gh ws37 h hg => ?_)
            refine T.seq ?_
            refine T.region ?_
            refine oN (EvN.ilt rfl rfl) ?_
            refine TO.nil ?_
            refine T.seq ?_
            refine T.cond rfl (fun q39 => ?_) (fun q39 => ?_)
            · replace h := condT q39 h
              refine T.skip ?_
              refine T.seq ?_
              refine T.block ?_
              refine T.seq ?_
              refine T.region ?_
              refine oN (EvN.mv (I s37.2) rfl) ?_
              refine oN (EvN.asg (I s37.2) rfl) ?_
              refine TO.nil ?_
              refine T.region ?_
              refine oN (EvN.mv (.fn (.func 92) [.hp 0 0 1 0 0]) rfl) ?_
              refine oN (EvN.mv (I s37.2) rfl) ?_
              obtain ⟨g40, h⟩ := gdW h
              refine oN (EvN.add rfl rfl g40) ?_
              obtain ⟨v41, cv41, h⟩ := bindL h
              refine oA (EvA.call rfl rfl rfl ((F_impl_execs_1_P (s37.2 + (1 : Int)) s37.1 0 cv41).one 0 rfl (.cons (.pF rfl) (.cons (.hp rfl) .nil)) (rowsF_row rfl) (rowsF_row rfl) rfl)) ?_
              refine TO.nil ?_
              refine T.clean (H0 := [some ⟨0, 1, 3, [[I v41]]⟩]) (e0 := envOf [(60, I s37.2), (59, I s6.1), (14, I s2.2), (4, .fn (.func 92) [.hp 0 0 1 0 0]), (3, .hp 0 0 1 0 0), (0, eL (cL Ximpl_Instr.c) p)]) rfl (weak_cons rfl (weak_cons rfl (weak_cons rfl (weak_cons rfl (weak_cons rfl (weak_cons rfl weak_nil)))))) ?_
              refine T.region ?_
              refine oN (EvN.add rfl rfl g40) ?_
              refine oN (EvN.mv (I (s37.2 + (1 : Int))) rfl) ?_
              refine TO.nil ?_
              obtain rfl := Option.some.inj h
              exact ⟨(v41, (s37.2 + (1 : Int))), (), rfl, trivial, cutW rfl (weak_cons rfl (weak_cons rfl (weak_cons rfl (weak_cons rfl (weak_cons rfl (weak_cons rfl weak_nil))))))⟩
            · replace h := condF q39 h
              refine T.exit ?_
              refine ⟨_, (Option.some.inj h).symm, fun h => ?_⟩
              replace h := congrArg some h
              obtain rfl := Option.some.inj h
              exact ⟨(), trivial, cutW rfl (weak_cons rfl (weak_cons rfl (weak_cons rfl (weak_cons rfl weak_nil))))⟩
          · clear ks30
            refine T.seq ?_
            refine T.region ?_
            refine oN (EvN.mv (I s6.2) rfl) ?_
            refine oN (EvN.mv (I (0 : Int)) rfl) ?_
            refine TO.nil ?_
            refine T.block ?_
            refine T.loop (S := Int × Int) (G := Unit) (F_impl_execs_L32 s6) (fun s31 gh => True) (fun s31 gh => [(52, I s31.2), (51, I s6.2), (7, I s6.1), (14, I s2.2), (4, .fn (.func 92) [.hp 0 0 1 0 0]), (3, .hp 0 0 1 0 0), (0, eL (cL Ximpl_Instr.c) p)]) (fun s31 gh => [some ⟨0, 1, 3, [[I s31.1]]⟩]) (s0 := (s2.1, (0 : Int))) () h trivial (cutW rfl (weak_cons rfl (weak_cons rfl (weak_cons rfl (weak_cons rfl (weak_cons rfl (weak_cons rfl (weak_cons rfl weak_nil)))))))) (fun s31 gh ws31 h hg => ?_)
            refine T.seq ?_
            refine T.region ?_
            refine oN (EvN.ilt rfl rfl) ?_
            refine TO.nil ?_
            refine T.seq ?_
            refine T.cond rfl (fun q33 => ?_) (fun q33 => ?_)
            · replace h := condT q33 h
              refine T.skip ?_
              refine T.seq ?_
              refine T.block ?_
              refine T.region ?_
              refine oN (EvN.mv (.fn (.func 92) [.hp 0 0 1 0 0]) rfl) ?_
              refine oN (EvN.mv (I s6.1) rfl) ?_
              obtain ⟨g34, h⟩ := gdW h
              refine oN (EvN.add rfl rfl g34) ?_
              obtain ⟨v35, cv35, h⟩ := bindL h
              refine oA (EvA.call rfl rfl rfl ((F_impl_execs_1_P (s6.1 + (1 : Int)) s31.1 0 cv35).one 0 rfl (.cons (.pF rfl) (.cons (.hp rfl) .nil)) (rowsF_row rfl) (rowsF_row rfl) rfl)) ?_
              refine TO.nil ?_
              refine T.region ?_
              obtain ⟨g36, h⟩ := gdW h
              refine oN (EvN.add rfl rfl g36) ?_
              refine oN (EvN.mv (I (s31.2 + (1 : Int))) rfl) ?_
              refine TO.nil ?_
              obtain rfl := Option.some.inj h
              exact ⟨(v35, (s31.2 + (1 : Int))), (), rfl, trivial, cutW rfl (weak_cons rfl (weak_cons rfl (weak_cons rfl (weak_cons rfl (weak_cons rfl (weak_cons rfl (weak_cons rfl weak_nil)))))))⟩
            · replace h := condF q33 h
              refine T.exit ?_
              refine ⟨_, (Option.some.inj h).symm, fun h => ?_⟩
              replace h := congrArg some h
              obtain rfl := Option.some.inj h
              exact ⟨(), trivial, cutW rfl (weak_cons rfl (weak_cons rfl (weak_cons rfl (weak_cons rfl (weak_cons rfl weak_nil)))))⟩
        · clear ks6
          refine T.seq ?_
          refine T.region ?_
          refine oN (EvN.mv (eL (cL Ximpl_Instr.c) p) rfl) ?_
          refine oN (EvN.lenL sl24 rfl) ?_
          refine oN (EvN.mv (I (0 : Int)) rfl) ?_
          refine TO.nil ?_
          refine T.block ?_
          refine T.loop (S := Int × Int × Int) (G := Unit) (F_impl_execs_L8 p s2) (fun s7 gh => True) (fun s7 gh => [(19, I s7.1), (18, I (p.length : Int)), (17, eL (cL Ximpl_Instr.c) p), (7, I s7.2.1), (6, I s7.2.2), (5, I s2.2), (14, I s2.2), (4, .fn (.func 92) [.hp 0 0 1 0 0]), (3, .hp 0 0 1 0 0), (0, eL (cL Ximpl_Instr.c) p)]) (fun s7 gh => [some ⟨0, 1, 3, [[I s2.1]]⟩]) (s0 := ((0 : Int), (0 : Int), (0 : Int))) () h trivial (cutW rfl (weak_cons rfl (weak_cons rfl (weak_cons rfl (weak_cons rfl (weak_cons rfl (weak_cons rfl (weak_cons rfl (weak_cons rfl (weak_cons rfl (weak_cons rfl weak_nil))))))))))) (fun s7 gh ws7 h hg => ?_)
          refine T.seq ?_
          refine T.region ?_
          refine oN (EvN.ilt rfl rfl) ?_
          refine TO.nil ?_
          refine T.seq ?_
          refine T.cond rfl (fun q9 => ?_) (fun q9 => ?_)
          · replace h := condT q9 h
            refine T.skip ?_
            obtain ⟨s10, h, ks10⟩ := bindL h
            refine T.joinF (G := Unit) (fun gh => True) (fun gh => [(19, I s7.1), (18, I (p.length : Int)), (17, eL (cL Ximpl_Instr.c) p), (7, I s10.1), (6, I s10.2), (5, I s2.2), (14, I s2.2), (4, .fn (.func 92) [.hp 0 0 1 0 0]), (3, .hp 0 0 1 0 0), (0, eL (cL Ximpl_Instr.c) p)]) (fun gh => [some ⟨0, 1, 3, [[I s2.1]]⟩]) (fun gh hg => ?_) ?_
            · clear h
              have h := ks10
              clear ks10
              refine T.region ?_
              obtain ⟨g29, h⟩ := gdW h
              refine oN (EvN.add rfl rfl g29) ?_
              refine oN (EvN.mv (I (s7.1 + (1 : Int))) rfl) ?_
              refine TO.nil ?_
              obtain rfl := Option.some.inj h
              exact ⟨((s7.1 + (1 : Int)), s10.1, s10.2), (), rfl, trivial, cutW rfl (weak_cons rfl (weak_cons rfl (weak_cons rfl (weak_cons rfl (weak_cons rfl (weak_cons rfl (weak_cons rfl (weak_cons rfl (weak_cons rfl (weak_cons rfl weak_nil))))))))))⟩
            · clear ks10
              refine T.block ?_
              refine T.seq ?_
              refine T.region ?_
              obtain ⟨g11, h⟩ := gdD h
              refine oN (EvN.ixL sl24 rfl rfl g11 (fun _ => rfl)) ?_
              refine oN (EvN.loadfp (eL Ximpl_Instr.c (p.getD s7.1.toNat default)) ty57 rfl rfl) ?_
              refine oN (EvN.asg (eL Ximpl_Instr.c (p.getD s7.1.toNat default)) rfl) ?_
              refine TO.nil ?_
              refine T.seq ?_
              refine T.region ?_
              refine oN (EvN.mv (eL Ximpl_Instr.c (p.getD s7.1.toNat default)) rfl) ?_
              refine oN (EvN.lenL sl57 rfl) ?_
              refine oN (EvN.mv (I (0 : Int)) rfl) ?_
              refine TO.nil ?_
              refine T.block ?_
              refine T.loop (S := Int × Int × Int) (G := Unit) (F_impl_execs_L13 p s2 s7) (fun s12 gh => True) (fun s12 gh => [(25, I s12.1), (24, I ((p.getD s7.1.toNat default).length : Int)), (23, eL Ximpl_Instr.c (p.getD s7.1.toNat default)), (19, I s7.1), (18, I (p.length : Int)), (17, eL (cL Ximpl_Instr.c) p), (7, I s12.2.1), (6, I s12.2.2), (5, I s2.2), (14, I s2.2), (4, .fn (.func 92) [.hp 0 0 1 0 0]), (3, .hp 0 0 1 0 0), (0, eL (cL Ximpl_Instr.c) p)]) (fun s12 gh => [some ⟨0, 1, 3, [[I s2.1]]⟩]) (s0 := ((0 : Int), s7.2.1, s7.2.2)) () h trivial (cutW rfl (weak_cons rfl (weak_cons rfl (weak_cons rfl (weak_cons rfl (weak_cons rfl (weak_cons rfl (weak_cons rfl (weak_cons rfl (weak_cons rfl (weak_cons rfl (weak_cons rfl (weak_cons rfl (weak_cons rfl weak_nil)))))))))))))) (fun s12 gh ws12 h hg => ?_)
              refine T.seq ?_
              refine T.region ?_
              refine oN (EvN.ilt rfl rfl) ?_
              refine TO.nil ?_
              refine T.seq ?_
              refine T.cond rfl (fun q14 => ?_) (fun q14 => ?_)
              · replace h := condT q14 h
                refine T.skip ?_
                obtain ⟨s15, h, ks15⟩ := bindL h
                refine T.joinF (G := Unit) (fun gh => True) (fun gh => [(7, I s15.1), (6, I s15.2), (25, I s12.1), (24, I ((p.getD s7.1.toNat default).length : Int)), (23, eL Ximpl_Instr.c (p.getD s7.1.toNat default)), (19, I s7.1), (18, I (p.length : Int)), (17, eL (cL Ximpl_Instr.c) p), (5, I s2.2), (14, I s2.2), (4, .fn (.func 92) [.hp 0 0 1 0 0]), (3, .hp 0 0 1 0 0), (0, eL (cL Ximpl_Instr.c) p)]) (fun gh => [some ⟨0, 1, 3, [[I s2.1]]⟩]) (fun gh hg => ?_) ?_
                · clear h
                  have h := ks15
                  clear ks15
                  refine T.region ?_
                  obtain ⟨g28, h⟩ := gdW h
                  refine oN (EvN.add rfl rfl g28) ?_
                  refine oN (EvN.mv (I (s12.1 + (1 : Int))) rfl) ?_
                  refine TO.nil ?_
                  obtain rfl := Option.some.inj h
                  exact ⟨((s12.1 + (1 : Int)), s15.1, s15.2), (), rfl, trivial, cutW rfl (weak_cons rfl (weak_cons rfl (weak_cons rfl (weak_cons rfl (weak_cons rfl (weak_cons rfl (weak_cons rfl (weak_cons rfl (weak_cons rfl (weak_cons rfl (weak_cons rfl (weak_cons rfl (weak_cons rfl weak_nil)))))))))))))⟩
                · clear ks15
                  refine T.block ?_
                  refine T.seq ?_
                  refine T.region ?_
                  obtain ⟨g16, h⟩ := gdD h
                  refine oN (EvN.ixL sl57 rfl rfl g16 (fun _ => rfl)) ?_
                  refine oN (EvN.loadfp (.agg (Ximpl_Instr.c ((p.getD s7.1.toNat default).getD s12.1.toNat default))) ty66 rfl rfl) ?_
                  refine oA (EvA.al zs66 rfl rfl) ?_
                  refine oV (EvA.st (cs := [I (((p.getD s7.1.toNat default).getD s12.1.toNat default).Op), I (((p.getD s7.1.toNat default).getD s12.1.toNat default).Loc), I (((p.getD s7.1.toNat default).getD s12.1.toNat default).Reg), I (((p.getD s7.1.toNat default).getD s12.1.toNat default).Val)]) ⟨0, 4, 66, [[I (((p.getD s7.1.toNat default).getD s12.1.toNat default).Op), I (((p.getD s7.1.toNat default).getD s12.1.toNat default).Loc), I (((p.getD s7.1.toNat default).getD s12.1.toNat default).Reg), I (((p.getD s7.1.toNat default).getD s12.1.toNat default).Val)]]⟩ ty66 rfl rfl rfl rfl rfl rfl rfl rfl rfl) ?_
                  refine TO.nil ?_
                  obtain ⟨s17, h, ks17⟩ := bindL h
                  refine T.joinF (G := Unit) (fun gh => True) (fun gh => [(6, I s17), (11, .hp 1 0 4 0 0), (25, I s12.1), (24, I ((p.getD s7.1.toNat default).length : Int)), (23, eL Ximpl_Instr.c (p.getD s7.1.toNat default)), (19, I s7.1), (18, I (p.length : Int)), (17, eL (cL Ximpl_Instr.c) p), (7, I s12.2.1), (5, I s2.2), (14, I s2.2), (4, .fn (.func 92) [.hp 0 0 1 0 0]), (3, .hp 0 0 1 0 0), (0, eL (cL Ximpl_Instr.c) p)]) (fun gh => [some ⟨0, 1, 3, [[I s2.1]]⟩, some ⟨0, 4, 66, [[I (((p.getD s7.1.toNat default).getD s12.1.toNat default).Op), I (((p.getD s7.1.toNat default).getD s12.1.toNat default).Loc), I (((p.getD s7.1.toNat default).getD s12.1.toNat default).Reg), I (((p.getD s7.1.toNat default).getD s12.1.toNat default).Val)]]⟩]) (fun gh hg => ?_) ?_
                  · clear h
                    have h := ks17
                    clear ks17
                    refine T.seq ?_
                    refine T.region ?_
                    refine oN (EvN.fahp Try.underlying66 rfl (by kernel_rfl) rfl) ?_
                    refine oA (EvA.loadhp (I (((p.getD s7.1.toNat default).getD s12.1.toNat default).Loc)) ty3 rfl rfl rfl rfl rfl rfl) ?_
                    refine oN (EvN.mv (I s2.2) rfl) ?_
                    refine oN (EvN.ieq rfl rfl) ?_
                    refine oN (EvN.mv (Bo ((((p.getD s7.1.toNat default).getD s12.1.toNat default).Loc) == s2.2)) rfl) ?_
                    obtain ⟨s23, h, ks23⟩ := bindL h
                    refine TO.joinF (G := Unit) 3 (fun _ => True) (fun _ => [(46, Bo s23), (6, I s17), (25, I s12.1), (24, I ((p.getD s7.1.toNat default).length : Int)), (23, eL Ximpl_Instr.c (p.getD s7.1.toNat default)), (19, I s7.1), (18, I (p.length : Int)), (17, eL (cL Ximpl_Instr.c) p), (7, I s12.2.1), (5, I s2.2), (14, I s2.2), (4, .fn (.func 92) [.hp 0 0 1 0 0]), (3, .hp 0 0 1 0 0), (0, eL (cL Ximpl_Instr.c) p)]) (fun _ => [some ⟨0, 1, 3, [[I s2.1]]⟩, some ⟨0, 4, 66, [[I (((p.getD s7.1.toNat default).getD s12.1.toNat default).Op), I (((p.getD s7.1.toNat default).getD s12.1.toNat default).Loc), I (((p.getD s7.1.toNat default).getD s12.1.toNat default).Reg), I (((p.getD s7.1.toNat default).getD s12.1.toNat default).Val)]]⟩]) ?_ (fun js23 => ?_)
                    rotate_left
                    · clear ks23
                      rcases bifL h with ⟨q24, h⟩ | ⟨q24, h⟩
                      · refine gA rfl q24 (EvA.loadhp (.agg [I (((p.getD s7.1.toNat default).getD s12.1.toNat default).Op), I (((p.getD s7.1.toNat default).getD s12.1.toNat default).Loc), I (((p.getD s7.1.toNat default).getD s12.1.toNat default).Reg), I (((p.getD s7.1.toNat default).getD s12.1.toNat default).Val)]) ty66 rfl rfl rfl rfl rfl rfl) ?_
                        obtain ⟨v25, cv25, h⟩ := bindL h
                        refine gN rfl q24 (EvN.call rfl rfl rfl (F_impl_Instr_writes_P (⟨((p.getD s7.1.toNat default).getD s12.1.toNat default).Op, ((p.getD s7.1.toNat default).getD s12.1.toNat default).Loc, ((p.getD s7.1.toNat default).getD s12.1.toNat default).Reg, ((p.getD s7.1.toNat default).getD s12.1.toNat default).Val⟩ : Ximpl_Instr) cv25) rfl) ?_
                        refine oN (EvN.pickT rfl q24 (Bo v25) rfl) ?_
                        obtain rfl := Option.some.inj h
                        exact js23 _ _ ⟨(), trivial, cutW rfl (weak_cons rfl (weak_cons rfl (weak_cons rfl (weak_cons rfl (weak_cons rfl (weak_cons rfl (weak_cons rfl (weak_cons rfl (weak_cons rfl (weak_cons rfl (weak_cons rfl (weak_cons rfl (weak_cons rfl (weak_cons rfl weak_nil))))))))))))))⟩
                      · refine gS rfl q24 ?_
                        refine gS rfl q24 ?_
                        refine oN (EvN.pickF rfl q24 (Bo false) rfl) ?_
                        obtain rfl := Option.some.inj h
                        exact js23 _ _ ⟨(), trivial, cutW rfl (weak_cons rfl (weak_cons rfl (weak_cons rfl (weak_cons rfl (weak_cons rfl (weak_cons rfl (weak_cons rfl (weak_cons rfl (weak_cons rfl (weak_cons rfl (weak_cons rfl (weak_cons rfl (weak_cons rfl (weak_cons rfl weak_nil))))))))))))))⟩
                    · intro _ _
                      replace h := ks23
                      clear ks23
                      refine TO.nil ?_
                      refine T.cond rfl (fun q26 => ?_) (fun q26 => ?_)
                      · replace h := condT q26 h
                        refine T.region ?_
                        refine oN (EvN.mv (I s12.2.1) rfl) ?_
                        obtain ⟨g27, h⟩ := gdW h
                        refine oN (EvN.add rfl rfl g27) ?_
                        refine oN (EvN.asg (I (s12.2.1 + (1 : Int))) rfl) ?_
                        refine TO.nil ?_
                        obtain rfl := Option.some.inj h
                        exact ⟨(), trivial, cutS rfl (.cons (.row (.cons (.fz (.of_isF 9 _ rfl)) .nil)) .nil) (stl_cons (.fz (.of_isF 9 _ rfl)) (stl_cons (.fz (.of_isF 9 _ rfl)) (stl_cons (.fz (.of_isF 9 _ rfl)) (stl_cons (.fz (.of_isF 9 _ rfl)) (stl_cons (.fz (.of_isF 9 _ rfl)) (stl_cons (.fz (.of_isF 9 _ rfl)) (stl_cons (.fz (.of_isF 9 _ rfl)) (stl_cons (.fz (.of_isF 9 _ rfl)) (stl_cons (.fz (.of_isF 9 _ rfl)) (stl_cons (.fz (.of_isF 9 _ rfl)) (stl_cons (.fnL (.cons (.hp (Nat.le_of_ble_eq_true rfl)) .nil)) (stl_cons (.hp (Nat.le_of_ble_eq_true rfl)) (stl_cons (.fz (.of_isF 9 _ rfl)) stl_nil)))))))))))))⟩
                      · replace h := condF q26 h
                        refine T.skip ?_
                        obtain rfl := Option.some.inj h
                        exact ⟨(), trivial, cutS rfl (.cons (.row (.cons (.fz (.of_isF 9 _ rfl)) .nil)) .nil) (stl_cons (.fz (.of_isF 9 _ rfl)) (stl_cons (.fz (.of_isF 9 _ rfl)) (stl_cons (.fz (.of_isF 9 _ rfl)) (stl_cons (.fz (.of_isF 9 _ rfl)) (stl_cons (.fz (.of_isF 9 _ rfl)) (stl_cons (.fz (.of_isF 9 _ rfl)) (stl_cons (.fz (.of_isF 9 _ rfl)) (stl_cons (.fz (.of_isF 9 _ rfl)) (stl_cons (.fz (.of_isF 9 _ rfl)) (stl_cons (.fz (.of_isF 9 _ rfl)) (stl_cons (.fnL (.cons (.hp (Nat.le_of_ble_eq_true rfl)) .nil)) (stl_cons (.hp (Nat.le_of_ble_eq_true rfl)) (stl_cons (.fz (.of_isF 9 _ rfl)) stl_nil)))))))))))))⟩
                  · clear ks17
                    refine T.seq ?_
                    refine T.region ?_
                    refine oN (EvN.fahp Try.underlying66 rfl (by kernel_rfl) rfl) ?_
                    refine oA (EvA.loadhp (I (((p.getD s7.1.toNat default).getD s12.1.toNat default).Loc)) ty3 rfl rfl rfl rfl rfl rfl) ?_
                    refine oN (EvN.mv (I s2.2) rfl) ?_
                    refine oN (EvN.ieq rfl rfl) ?_
                    refine oN (EvN.mv (Bo ((((p.getD s7.1.toNat default).getD s12.1.toNat default).Loc) == s2.2)) rfl) ?_
                    obtain ⟨s18, h, ks18⟩ := bindL h
                    refine TO.joinF (G := Unit) 3 (fun _ => True) (fun _ => [(36, Bo s18), (11, .hp 1 0 4 0 0), (25, I s12.1), (24, I ((p.getD s7.1.toNat default).length : Int)), (23, eL Ximpl_Instr.c (p.getD s7.1.toNat default)), (19, I s7.1), (18, I (p.length : Int)), (17, eL (cL Ximpl_Instr.c) p), (7, I s12.2.1), (6, I s12.2.2), (5, I s2.2), (14, I s2.2), (4, .fn (.func 92) [.hp 0 0 1 0 0]), (3, .hp 0 0 1 0 0), (0, eL (cL Ximpl_Instr.c) p)]) (fun _ => [some ⟨0, 1, 3, [[I s2.1]]⟩, some ⟨0, 4, 66, [[I (((p.getD s7.1.toNat default).getD s12.1.toNat default).Op), I (((p.getD s7.1.toNat default).getD s12.1.toNat default).Loc), I (((p.getD s7.1.toNat default).getD s12.1.toNat default).Reg), I (((p.getD s7.1.toNat default).getD s12.1.toNat default).Val)]]⟩]) ?_ (fun js18 => ?_)
                    rotate_left
                    · clear ks18
                      rcases bifL h with ⟨q19, h⟩ | ⟨q19, h⟩
                      · refine gA rfl q19 (EvA.loadhp (.agg [I (((p.getD s7.1.toNat default).getD s12.1.toNat default).Op), I (((p.getD s7.1.toNat default).getD s12.1.toNat default).Loc), I (((p.getD s7.1.toNat default).getD s12.1.toNat default).Reg), I (((p.getD s7.1.toNat default).getD s12.1.toNat default).Val)]) ty66 rfl rfl rfl rfl rfl rfl) ?_
                        obtain ⟨v20, cv20, h⟩ := bindL h
                        refine gN rfl q19 (EvN.call rfl rfl rfl (F_impl_Instr_reads_P (⟨((p.getD s7.1.toNat default).getD s12.1.toNat default).Op, ((p.getD s7.1.toNat default).getD s12.1.toNat default).Loc, ((p.getD s7.1.toNat default).getD s12.1.toNat default).Reg, ((p.getD s7.1.toNat default).getD s12.1.toNat default).Val⟩ : Ximpl_Instr) cv20) rfl) ?_
                        refine oN (EvN.pickT rfl q19 (Bo v20) rfl) ?_
                        obtain rfl := Option.some.inj h
                        exact js18 _ _ ⟨(), trivial, cutW rfl (weak_cons rfl (weak_cons rfl (weak_cons rfl (weak_cons rfl (weak_cons rfl (weak_cons rfl (weak_cons rfl (weak_cons rfl (weak_cons rfl (weak_cons rfl (weak_cons rfl (weak_cons rfl (weak_cons rfl (weak_cons rfl (weak_cons rfl weak_nil)))))))))))))))⟩
                      · refine gS rfl q19 ?_
                        refine gS rfl q19 ?_
                        refine oN (EvN.pickF rfl q19 (Bo false) rfl) ?_
                        obtain rfl := Option.some.inj h
                        exact js18 _ _ ⟨(), trivial, cutW rfl (weak_cons rfl (weak_cons rfl (weak_cons rfl (weak_cons rfl (weak_cons rfl (weak_cons rfl (weak_cons rfl (weak_cons rfl (weak_cons rfl (weak_cons rfl (weak_cons rfl (weak_cons rfl (weak_cons rfl (weak_cons rfl (weak_cons rfl weak_nil)))))))))))))))⟩
                    · intro _ _
                      replace h := ks18
                      clear ks18
                      refine TO.nil ?_
                      refine T.cond rfl (fun q21 => ?_) (fun q21 => ?_)
                      · replace h := condT q21 h
                        refine T.region ?_
                        refine oN (EvN.mv (I s12.2.2) rfl) ?_
                        obtain ⟨g22, h⟩ := gdW h
                        refine oN (EvN.add rfl rfl g22) ?_
                        refine oN (EvN.asg (I (s12.2.2 + (1 : Int))) rfl) ?_
                        refine TO.nil ?_
                        obtain rfl := Option.some.inj h
                        exact ⟨(), trivial, cutW rfl (weak_cons rfl (weak_cons rfl (weak_cons rfl (weak_cons rfl (weak_cons rfl (weak_cons rfl (weak_cons rfl (weak_cons rfl (weak_cons rfl (weak_cons rfl (weak_cons rfl (weak_cons rfl (weak_cons rfl (weak_cons rfl weak_nil))))))))))))))⟩
                      · replace h := condF q21 h
                        refine T.skip ?_
                        obtain rfl := Option.some.inj h
                        exact ⟨(), trivial, cutW rfl (weak_cons rfl (weak_cons rfl (weak_cons rfl (weak_cons rfl (weak_cons rfl (weak_cons rfl (weak_cons rfl (weak_cons rfl (weak_cons rfl (weak_cons rfl (weak_cons rfl (weak_cons rfl (weak_cons rfl (weak_cons rfl weak_nil))))))))))))))⟩
              · replace h := condF q14 h
                refine T.exit ?_
                refine ⟨_, (Option.some.inj h).symm, fun h => ?_⟩
                replace h := congrArg some h
                obtain rfl := Option.some.inj h
                exact ⟨(), trivial, cutW rfl (weak_cons rfl (weak_cons rfl (weak_cons rfl (weak_cons rfl (weak_cons rfl (weak_cons rfl (weak_cons rfl (weak_cons rfl (weak_cons rfl (weak_cons rfl weak_nil))))))))))⟩
          · replace h := condF q9 h
            refine T.exit ?_
            refine ⟨_, (Option.some.inj h).symm, fun h => ?_⟩
            replace h := congrArg some h
            obtain rfl := Option.some.inj h
            exact ⟨(), trivial, cutW rfl (weak_cons rfl (weak_cons rfl (weak_cons rfl (weak_cons rfl (weak_cons rfl (weak_cons rfl weak_nil))))))⟩
    · replace h := condF q4 h
      refine T.exit ?_
      refine ⟨_, (Option.some.inj h).symm, fun h => ?_⟩
      replace h := congrArg some h
      obtain rfl := Option.some.inj h
      exact ⟨(), trivial, cutW rfl (weak_cons rfl weak_nil)⟩

theorem F_impl_ProgramValid_P (p : List (List Ximpl_Instr)) {q : Bool} (h : F_impl_ProgramValid p = some q) : PCall Try.prog 28 [eL (cL Ximpl_Instr.c) p] (Bo q) := by
  refine PCall.mkT Try.func28 rfl (by kernel_rfl) rfl (by kernel_rfl) (e0 := envOf [(0, eL (cL Ximpl_Instr.c) p)]) (weak_cons rfl weak_nil) ?_
  refine T.seq ?_
  refine T.region ?_
  refine oN (EvN.asg (Bo false) rfl) ?_
  refine TO.nil ?_
  refine T.seq ?_
  refine T.seq ?_
  refine T.region ?_
  refine oN (EvN.mv (eL (cL Ximpl_Instr.c) p) rfl) ?_
  refine oN (EvN.lenL sl24 rfl) ?_
  obtain ⟨v1, cv1, h⟩ := bindL h
  refine oN (EvN.call rfl rfl rfl (F_impl_within_P (p.length : Int) (1 : Int) (3 : Int) cv1) rfl) ?_
  refine oN (EvN.not rfl) ?_
  refine TO.nil ?_
  refine T.cond rfl (fun q2 => ?_) (fun q2 => ?_)
  · replace h := condT q2 h
    refine T.seq ?_
    refine T.clean (H0 := []) (e0 := envOf []) rfl weak_nil ?_
    refine T.region ?_
    refine oN (EvN.asg (Bo false) rfl) ?_
    refine TO.nil ?_
    refine T.ret ?_
    obtain rfl := Option.some.inj h
    repeat first | refine retS ?_ | refine retB ?_
    exact Fin.ret (vs := [Bo false]) (.cons (.tmp rfl) .nil) (.of_isF 9 _ rfl)
  · replace h := condF q2 h
    refine T.skip ?_
    refine T.seq ?_
    refine T.region ?_
    refine oN (EvN.asg (I (0 : Int)) rfl) ?_
    refine TO.nil ?_
    obtain ⟨Ks3, es3, ws3, h, ks3⟩ := sumL h
    refine T.join (S := Int) (G := Unit) (fun s3 => Ks3 s3 = some q) (fun s3 gh => True) (fun s3 gh => [(3, I s3), (0, eL (cL Ximpl_Instr.c) p)]) (fun s3 gh => []) (fun s3 gh h hg => ?_) ?_
    · clear ks3
      subst es3
      refine T.seq ?_
      refine T.region ?_
      refine oN (EvN.mv (I s3) rfl) ?_
      refine oN (EvN.ile rfl rfl) ?_
      refine oN (EvN.mv (Bo (decide (s3 ≤ (12 : Int)))) rfl) ?_
      obtain ⟨s22, h, ks22⟩ := bindL h
      refine TO.joinF (G := Unit) 4 (fun _ => True) (fun _ => [(43, Bo s22)]) (fun _ => []) ?_ (fun js22 => ?_)
      rotate_left
      · clear ks22
        rcases bifL h with ⟨q23, h⟩ | ⟨q23, h⟩
        · refine gN rfl q23 (EvN.mv (eL (cL Ximpl_Instr.c) p) rfl) ?_
          obtain ⟨v24, cv24, h⟩ := bindL h
          refine gN rfl q23 (EvN.call rfl rfl rfl (F_impl_execs_P p cv24) rfl) ?_
          refine gN rfl q23 (EvN.ile rfl rfl) ?_
          refine oN (EvN.pickT rfl q23 (Bo (decide (v24 ≤ (3000 : Int)))) rfl) ?_
          obtain rfl := Option.some.inj h
          exact js22 _ _ ⟨(), trivial, cutW rfl (weak_cons rfl weak_nil)⟩
        · refine gS rfl q23 ?_
          refine gS rfl q23 ?_
          refine gS rfl q23 ?_
          refine oN (EvN.pickF rfl q23 (Bo false) rfl) ?_
          obtain rfl := Option.some.inj h
          exact js22 _ _ ⟨(), trivial, cutW rfl (weak_cons rfl weak_nil)⟩
      · intro _ _
        replace h := ks22
        clear ks22
        refine oN (EvN.asg (Bo s22) rfl) ?_
        refine TO.nil ?_
        refine T.ret ?_
        obtain rfl := Option.some.inj h
        repeat first | refine retS ?_ | refine retB ?_
        exact Fin.ret (vs := [Bo s22]) (.cons (.tmp rfl) .nil) (.of_isF 9 _ rfl)
    · refine T.seq ?_
      refine T.region ?_
      refine oN (EvN.mv (eL (cL Ximpl_Instr.c) p) rfl) ?_
      refine oN (EvN.lenL sl24 rfl) ?_
      refine oN (EvN.mv (I (0 : Int)) rfl) ?_
      refine TO.nil ?_
      refine T.block ?_
      refine T.loop (S := Int × Int) (G := Unit) (F_impl_ProgramValid_L5 p) (fun s4 gh => True) (fun s4 gh => [(14, I s4.1), (13, I (p.length : Int)), (12, eL (cL Ximpl_Instr.c) p), (3, I s4.2), (0, eL (cL Ximpl_Instr.c) p)]) (fun s4 gh => []) (s0 := ((0 : Int), (0 : Int))) () h trivial (cutW rfl (weak_cons rfl (weak_cons rfl (weak_cons rfl (weak_cons rfl (weak_cons rfl weak_nil)))))) (fun s4 gh ws4 h hg => ?_)
      refine T.seq ?_
      refine T.region ?_
      refine oN (EvN.ilt rfl rfl) ?_
      refine TO.nil ?_
      refine T.seq ?_
      refine T.cond rfl (fun q6 => ?_) (fun q6 => ?_)
      · replace h := condT q6 h
        refine T.skip ?_
        obtain ⟨Ks7, es7, ws7, h, ks7⟩ := sumL h
        refine T.join (S := Int) (G := Unit) (fun s7 => Ks7 s7 = some ws4) (fun s7 gh => True) (fun s7 gh => [(14, I s4.1), (13, I (p.length : Int)), (12, eL (cL Ximpl_Instr.c) p), (3, I s7), (0, eL (cL Ximpl_Instr.c) p)]) (fun s7 gh => []) (fun s7 gh h hg => ?_) ?_
        · clear ks7
          subst es7
          refine T.region ?_
          obtain ⟨g21, h⟩ := gdW h
          refine oN (EvN.add rfl rfl g21) ?_
          refine oN (EvN.mv (I (s4.1 + (1 : Int))) rfl) ?_
          refine TO.nil ?_
          obtain rfl := Option.some.inj h
          exact ⟨((s4.1 + (1 : Int)), s7), (), rfl, trivial, cutW rfl (weak_cons rfl (weak_cons rfl (weak_cons rfl (weak_cons rfl (weak_cons rfl weak_nil)))))⟩
        · refine T.block ?_
          refine T.seq ?_
          refine T.region ?_
          obtain ⟨g8, h⟩ := gdD h
          refine oN (EvN.ixL sl24 rfl rfl g8 (fun _ => rfl)) ?_
          refine oN (EvN.loadfp (eL Ximpl_Instr.c (p.getD s4.1.toNat default)) ty57 rfl rfl) ?_
          refine oN (EvN.asg (eL Ximpl_Instr.c (p.getD s4.1.toNat default)) rfl) ?_
          refine TO.nil ?_
          obtain ⟨Ks9, es9, ws9, h, ks9⟩ := sumL h
          refine T.join (S := Int) (G := Unit) (fun s9 => Ks9 s9 = some ws7) (fun s9 gh => True) (fun s9 gh => [(5, eL Ximpl_Instr.c (p.getD s4.1.toNat default)), (14, I s4.1), (13, I (p.length : Int)), (12, eL (cL Ximpl_Instr.c) p), (3, I s9), (0, eL (cL Ximpl_Instr.c) p)]) (fun s9 gh => []) (fun s9 gh h hg => ?_) ?_
          · clear ks9
            subst es9
            refine T.seq ?_
            refine T.region ?_
            refine oN (EvN.mv (eL Ximpl_Instr.c (p.getD s4.1.toNat default)) rfl) ?_
            refine oN (EvN.lenL sl57 rfl) ?_
            refine oN (EvN.igt rfl rfl) ?_
            refine TO.nil ?_
            refine T.cond rfl (fun q20 => ?_) (fun q20 => ?_)
            · replace h := condT q20 h
              refine T.seq ?_
              refine T.clean (H0 := []) (e0 := envOf []) rfl weak_nil ?_
              refine T.region ?_
              refine oN (EvN.asg (Bo false) rfl) ?_
              refine TO.nil ?_
              refine T.ret ?_
              obtain rfl := Option.some.inj h
              replace h := congrArg some (show _ = _ from ks7)
              refine ⟨_, (Option.some.inj h).symm, fun h => ?_⟩
              replace h := congrArg some h
              obtain rfl := Option.some.inj h
              replace h := congrArg some (show _ = _ from ks3)
              obtain rfl := Option.some.inj h
              repeat first | refine retS ?_ | refine retB ?_
              exact Fin.ret (vs := [Bo false]) (.cons (.tmp rfl) .nil) (.of_isF 9 _ rfl)
            · replace h := condF q20 h
              refine T.skip ?_
              obtain rfl := Option.some.inj h
              exact ⟨s9, (), ks7, trivial, cutW rfl (weak_cons rfl (weak_cons rfl (weak_cons rfl (weak_cons rfl (weak_cons rfl weak_nil)))))⟩
          · refine T.seq ?_
            refine T.region ?_
            refine oN (EvN.mv (eL Ximpl_Instr.c (p.getD s4.1.toNat default)) rfl) ?_
            refine oN (EvN.lenL sl57 rfl) ?_
            refine oN (EvN.mv (I (0 : Int)) rfl) ?_
            refine TO.nil ?_
            refine T.block ?_
            refine T.loop (S := Int × Int) (G := Unit) (F_impl_ProgramValid_L11 p s4) (fun s10 gh => True) (fun s10 gh => [(20, I s10.1), (19, I ((p.getD s4.1.toNat default).length : Int)), (18, eL Ximpl_Instr.c (p.getD s4.1.toNat default)), (5, eL Ximpl_Instr.c (p.getD s4.1.toNat default)), (14, I s4.1), (13, I (p.length : Int)), (12, eL (cL Ximpl_Instr.c) p), (3, I s10.2), (0, eL (cL Ximpl_Instr.c) p)]) (fun s10 gh => []) (s0 := ((0 : Int), s4.2)) () h trivial (cutW rfl (weak_cons rfl (weak_cons rfl (weak_cons rfl (weak_cons rfl (weak_cons rfl (weak_cons rfl (weak_cons rfl (weak_cons rfl (weak_cons rfl weak_nil)))))))))) (fun s10 gh ws10 h hg => ?_)
            refine T.seq ?_
            refine T.region ?_
            refine oN (EvN.ilt rfl rfl) ?_
            refine TO.nil ?_
            refine T.seq ?_
            refine T.cond rfl (fun q12 => ?_) (fun q12 => ?_)
            · replace h := condT q12 h
              refine T.skip ?_
              obtain ⟨Ks13, es13, ws13, h, ks13⟩ := sumL h
              refine T.join (S := Int) (G := Unit) (fun s13 => Ks13 s13 = some ws10) (fun s13 gh => True) (fun s13 gh => [(3, I s13), (20, I s10.1), (19, I ((p.getD s4.1.toNat default).length : Int)), (18, eL Ximpl_Instr.c (p.getD s4.1.toNat default)), (5, eL Ximpl_Instr.c (p.getD s4.1.toNat default)), (14, I s4.1), (13, I (p.length : Int)), (12, eL (cL Ximpl_Instr.c) p), (0, eL (cL Ximpl_Instr.c) p)]) (fun s13 gh => []) (fun s13 gh h hg => ?_) ?_
              · clear ks13
                subst es13
                refine T.region ?_
                obtain ⟨g19, h⟩ := gdW h
                refine oN (EvN.add rfl rfl g19) ?_
                refine oN (EvN.mv (I (s10.1 + (1 : Int))) rfl) ?_
                refine TO.nil ?_
                obtain rfl := Option.some.inj h
                exact ⟨((s10.1 + (1 : Int)), s13), (), rfl, trivial, cutW rfl (weak_cons rfl (weak_cons rfl (weak_cons rfl (weak_cons rfl (weak_cons rfl (weak_cons rfl (weak_cons rfl (weak_cons rfl (weak_cons rfl weak_nil)))))))))⟩
              · refine T.block ?_
                refine T.seq ?_
                refine T.region ?_
                obtain ⟨g14, h⟩ := gdD h
                refine oN (EvN.ixL sl57 rfl rfl g14 (fun _ => rfl)) ?_
                refine oN (EvN.loadfp (.agg (Ximpl_Instr.c ((p.getD s4.1.toNat default).getD s10.1.toNat default))) ty66 rfl rfl) ?_
                refine oA (EvA.al zs66 rfl rfl) ?_
                refine oV (EvA.st (cs := [I (((p.getD s4.1.toNat default).getD s10.1.toNat default).Op), I (((p.getD s4.1.toNat default).getD s10.1.toNat default).Loc), I (((p.getD s4.1.toNat default).getD s10.1.toNat default).Reg), I (((p.getD s4.1.toNat default).getD s10.1.toNat default).Val)]) ⟨0, 4, 66, [[I (((p.getD s4.1.toNat default).getD s10.1.toNat default).Op), I (((p.getD s4.1.toNat default).getD s10.1.toNat default).Loc), I (((p.getD s4.1.toNat default).getD s10.1.toNat default).Reg), I (((p.getD s4.1.toNat default).getD s10.1.toNat default).Val)]]⟩ ty66 rfl rfl rfl rfl rfl rfl rfl rfl rfl) ?_
                refine TO.nil ?_
                refine T.seq ?_
                refine T.seq ?_
                refine T.region ?_
                refine oA (EvA.loadhp (.agg [I (((p.getD s4.1.toNat default).getD s10.1.toNat default).Op), I (((p.getD s4.1.toNat default).getD s10.1.toNat default).Loc), I (((p.getD s4.1.toNat default).getD s10.1.toNat default).Reg), I (((p.getD s4.1.toNat default).getD s10.1.toNat default).Val)]) ty66 rfl rfl rfl rfl rfl rfl) ?_
                obtain ⟨v15, cv15, h⟩ := bindL h
                refine oN (EvN.call rfl rfl rfl (F_impl_InstrValid_P (⟨((p.getD s4.1.toNat default).getD s10.1.toNat default).Op, ((p.getD s4.1.toNat default).getD s10.1.toNat default).Loc, ((p.getD s4.1.toNat default).getD s10.1.toNat default).Reg, ((p.getD s4.1.toNat default).getD s10.1.toNat default).Val⟩ : Ximpl_Instr) cv15) rfl) ?_
                refine oN (EvN.not rfl) ?_
                refine TO.nil ?_
                refine T.cond rfl (fun q16 => ?_) (fun q16 => ?_)
                · replace h := condT q16 h
                  refine T.seq ?_
                  refine T.clean (H0 := [some ⟨0, 4, 66, [[I (((p.getD s4.1.toNat default).getD s10.1.toNat default).Op), I (((p.getD s4.1.toNat default).getD s10.1.toNat default).Loc), I (((p.getD s4.1.toNat default).getD s10.1.toNat default).Reg), I (((p.getD s4.1.toNat default).getD s10.1.toNat default).Val)]]⟩]) (e0 := envOf []) rfl weak_nil ?_
                  refine T.region ?_
                  refine oN (EvN.asg (Bo false) rfl) ?_
                  refine TO.nil ?_
                  refine T.ret ?_
                  obtain rfl := Option.some.inj h
                  replace h := congrArg some (show _ = _ from ks13)
                  refine ⟨_, (Option.some.inj h).symm, fun h => ?_⟩
                  replace h := congrArg some h
                  obtain rfl := Option.some.inj h
                  replace h := congrArg some (show _ = _ from ks9)
                  obtain rfl := Option.some.inj h
                  replace h := congrArg some (show _ = _ from ks7)
                  refine ⟨_, (Option.some.inj h).symm, fun h => ?_⟩
                  replace h := congrArg some h
                  obtain rfl := Option.some.inj h
                  replace h := congrArg some (show _ = _ from ks3)
                  obtain rfl := Option.some.inj h
                  repeat first | refine retS ?_ | refine retB ?_
                  exact Fin.ret (vs := [Bo false]) (.cons (.tmp rfl) .nil) (.of_isF 9 _ rfl)
                · replace h := condF q16 h
                  refine T.skip ?_
                  refine T.seq ?_
                  refine T.clean (H0 := [some ⟨0, 4, 66, [[I (((p.getD s4.1.toNat default).getD s10.1.toNat default).Op), I (((p.getD s4.1.toNat default).getD s10.1.toNat default).Loc), I (((p.getD s4.1.toNat default).getD s10.1.toNat default).Reg), I (((p.getD s4.1.toNat default).getD s10.1.toNat default).Val)]]⟩]) (e0 := envOf [(7, .hp 0 0 4 0 0), (20, I s10.1), (19, I ((p.getD s4.1.toNat default).length : Int)), (18, eL Ximpl_Instr.c (p.getD s4.1.toNat default)), (5, eL Ximpl_Instr.c (p.getD s4.1.toNat default)), (14, I s4.1), (13, I (p.length : Int)), (12, eL (cL Ximpl_Instr.c) p), (3, I s10.2), (0, eL (cL Ximpl_Instr.c) p)]) rfl (weak_cons rfl (weak_cons rfl (weak_cons rfl (weak_cons rfl (weak_cons rfl (weak_cons rfl (weak_cons rfl (weak_cons rfl (weak_cons rfl (weak_cons rfl weak_nil)))))))))) ?_
                  refine T.region ?_
                  refine oN (EvN.fahp Try.underlying66 rfl (by kernel_rfl) rfl) ?_
                  refine oA (EvA.loadhp (I (((p.getD s4.1.toNat default).getD s10.1.toNat default).Op)) ty3 rfl rfl rfl rfl rfl rfl) ?_
                  refine oN (EvN.ine rfl rfl) ?_
                  refine TO.nil ?_
                  refine T.cond rfl (fun q17 => ?_) (fun q17 => ?_)
                  · replace h := condT q17 h
                    refine T.region ?_
                    refine oN (EvN.mv (I s10.2) rfl) ?_
                    obtain ⟨g18, h⟩ := gdW h
                    refine oN (EvN.add rfl rfl g18) ?_
                    refine oN (EvN.asg (I (s10.2 + (1 : Int))) rfl) ?_
                    refine TO.nil ?_
                    obtain rfl := Option.some.inj h
                    exact ⟨(s10.2 + (1 : Int)), (), ks13, trivial, cutS rfl .nil (stl_cons (.fz (.of_isF 9 _ rfl)) (stl_cons (.fz (.of_isF 9 _ rfl)) (stl_cons (.fz (.of_isF 9 _ rfl)) (stl_cons (.fz (.of_isF 9 _ rfl)) (stl_cons (.fz (.of_isF 9 _ rfl)) (stl_cons (.fz (.of_isF 9 _ rfl)) (stl_cons (.fz (.of_isF 9 _ rfl)) (stl_cons (.fz (.of_isF 9 _ rfl)) (stl_cons (.fz (.of_isF 9 _ rfl)) stl_nil)))))))))⟩
                  · replace h := condF q17 h
                    refine T.skip ?_
                    obtain rfl := Option.some.inj h
                    exact ⟨s10.2, (), ks13, trivial, cutS rfl .nil (stl_cons (.fz (.of_isF 9 _ rfl)) (stl_cons (.fz (.of_isF 9 _ rfl)) (stl_cons (.fz (.of_isF 9 _ rfl)) (stl_cons (.fz (.of_isF 9 _ rfl)) (stl_cons (.fz (.of_isF 9 _ rfl)) (stl_cons (.fz (.of_isF 9 _ rfl)) (stl_cons (.fz (.of_isF 9 _ rfl)) (stl_cons (.fz (.of_isF 9 _ rfl)) (stl_cons (.fz (.of_isF 9 _ rfl)) stl_nil)))))))))⟩
            · replace h := condF q12 h
              refine T.exit ?_
              refine ⟨_, (Option.some.inj h).symm, fun h => ?_⟩
              replace h := congrArg some h
              obtain rfl := Option.some.inj h
              exact ⟨s10.2, (), ks9, trivial, cutW rfl (weak_cons rfl (weak_cons rfl (weak_cons rfl (weak_cons rfl (weak_cons rfl (weak_cons rfl weak_nil))))))⟩
      · replace h := condF q6 h
        refine T.exit ?_
        refine ⟨_, (Option.some.inj h).symm, fun h => ?_⟩
        replace h := congrArg some h
        obtain rfl := Option.some.inj h
        exact ⟨s4.2, (), ks3, trivial, cutW rfl (weak_cons rfl (weak_cons rfl weak_nil))⟩

theorem F_laws_FnSmallTest_P (code : List Int) {q : Bool} (h : F_laws_FnSmallTest code = some q) : PCall Try.prog 6 [eL cY code] (Bo q) := by
  refine PCall.mkT Try.func6 rfl (by kernel_rfl) rfl (by kernel_rfl) (e0 := envOf [(0, eL cY code)]) (weak_cons rfl weak_nil) ?_
  refine T.seq ?_
  refine T.region ?_
  refine oN (EvN.asg (Bo false) rfl) ?_
  refine TO.nil ?_
  refine T.seq ?_
  refine T.seq ?_
  refine T.region ?_
  refine oN (EvN.mv (eL cY code) rfl) ?_
  refine oN (EvN.lenL sl36 rfl) ?_
  refine oN (EvN.igt rfl rfl) ?_
  refine TO.nil ?_
  refine T.cond rfl (fun q1 => ?_) (fun q1 => ?_)
  · replace h := condT q1 h
    refine T.seq ?_
    refine T.region ?_
    refine oN (EvN.asg (Bo true) rfl) ?_
    refine TO.nil ?_
    refine T.ret ?_
    obtain rfl := Option.some.inj h
    repeat first | refine retS ?_ | refine retB ?_
    exact Fin.ret (vs := [Bo true]) (.cons (.tmp rfl) .nil) (.of_isF 9 _ rfl)
  · replace h := condF q1 h
    refine T.skip ?_
    refine T.seq ?_
    refine T.region ?_
    refine oN (EvN.mv (eL cY code) rfl) ?_
    obtain ⟨v2, cv2, h⟩ := bindL h
    refine oN (EvN.call rfl rfl rfl (F_spec_DrawSmallTest_P code cv2) rfl) ?_
    refine oN (EvN.asg (I v2) rfl) ?_
    refine TO.nil ?_
    refine T.seq ?_
    refine T.clean (H0 := []) (e0 := envOf [(3, I v2)]) rfl (weak_cons rfl weak_nil) ?_
    refine T.region ?_
    refine oN (EvN.mv (I v2) rfl) ?_
    obtain ⟨v3, cv3, h⟩ := bindL h
    refine oN (EvN.call rfl rfl rfl (F_impl_SmallTest_P v2 cv3) rfl) ?_
    refine oN (EvN.mv (.tup [eL (cL Ximpl_Instr.c) v3.1, Bo v3.2]) rfl) ?_
    refine oN (EvN.ext (eL (cL Ximpl_Instr.c) v3.1) rfl rfl) ?_
    refine oN (EvN.ext (Bo v3.2) rfl rfl) ?_
    refine oN (EvN.asg (eL (cL Ximpl_Instr.c) v3.1) rfl) ?_
    refine oN (EvN.asg (Bo v3.2) rfl) ?_
    refine TO.nil ?_
    refine T.seq ?_
    refine T.region ?_
    refine oN (EvN.mv (I v2) rfl) ?_
    obtain ⟨v4, cv4, h⟩ := bindL h
    refine oN (EvN.call rfl rfl rfl (F_spec_SmallTest_P v2 cv4) rfl) ?_
    refine oN (EvN.mv (.tup [eL (cL Ximpl_Instr.c) v4.1, Bo v4.2]) rfl) ?_
    refine oN (EvN.ext (eL (cL Ximpl_Instr.c) v4.1) rfl rfl) ?_
    refine oN (EvN.ext (Bo v4.2) rfl rfl) ?_
    refine oN (EvN.asg (eL (cL Ximpl_Instr.c) v4.1) rfl) ?_
    refine oN (EvN.asg (Bo v4.2) rfl) ?_
    refine TO.nil ?_
    refine T.seq ?_
    refine T.seq ?_
    refine T.clean (H0 := []) (e0 := envOf [(7, Bo v4.2), (6, eL (cL Ximpl_Instr.c) v4.1), (5, Bo v3.2), (4, eL (cL Ximpl_Instr.c) v3.1), (3, I v2)]) rfl (weak_cons rfl (weak_cons rfl (weak_cons rfl (weak_cons rfl (weak_cons rfl weak_nil))))) ?_
    refine T.region ?_
    refine oN (EvN.mv (Bo v3.2) rfl) ?_
    refine oN (EvN.mv (Bo v4.2) rfl) ?_
    refine oN (EvN.bne bt4 rfl rfl) ?_
    refine oN (EvN.mv (Bo (!(v3.2 == v4.2))) rfl) ?_
    obtain ⟨s5, h, ks5⟩ := bindL h
    refine TO.joinF (G := Unit) 5 (fun _ => True) (fun _ => [(33, Bo s5), (7, Bo v4.2), (6, eL (cL Ximpl_Instr.c) v4.1), (5, Bo v3.2), (4, eL (cL Ximpl_Instr.c) v3.1), (3, I v2)]) (fun _ => []) ?_ (fun js5 => ?_)
    rotate_left
    · clear ks5
      rcases bifL h with ⟨q6, h⟩ | ⟨q6, h⟩
      · refine gS rfl q6 ?_
        refine gS rfl q6 ?_
        refine gS rfl q6 ?_
        refine gS rfl q6 ?_
        refine oN (EvN.pickT rfl q6 (Bo true) rfl) ?_
        obtain rfl := Option.some.inj h
        exact js5 _ _ ⟨(), trivial, cutW rfl (weak_cons rfl (weak_cons rfl (weak_cons rfl (weak_cons rfl (weak_cons rfl (weak_cons rfl weak_nil))))))⟩
      · refine gN rfl q6 (EvN.mv (eL (cL Ximpl_Instr.c) v3.1) rfl) ?_
        refine gN rfl q6 (EvN.mv (eL (cL Ximpl_Instr.c) v4.1) rfl) ?_
        obtain ⟨v7, cv7, h⟩ := bindL h
        refine gN rfl q6 (EvN.call rfl rfl rfl (F_impl_ProgramSame_P v3.1 v4.1 cv7) rfl) ?_
        refine gN rfl q6 (EvN.not rfl) ?_
        refine oN (EvN.pickF rfl q6 (Bo (!v7)) rfl) ?_
        obtain rfl := Option.some.inj h
        exact js5 _ _ ⟨(), trivial, cutW rfl (weak_cons rfl (weak_cons rfl (weak_cons rfl (weak_cons rfl (weak_cons rfl (weak_cons rfl weak_nil))))))⟩
    · intro _ _
      replace h := ks5
      clear ks5
      refine oN (EvN.mv (Bo s5) rfl) ?_
      obtain ⟨s8, h, ks8⟩ := bindL h
      refine TO.joinF (G := Unit) 10 (fun _ => True) (fun _ => [(44, Bo s8), (7, Bo v4.2), (6, eL (cL Ximpl_Instr.c) v4.1), (5, Bo v3.2), (4, eL (cL Ximpl_Instr.c) v3.1), (3, I v2)]) (fun _ => []) ?_ (fun js8 => ?_)
      rotate_left
      · clear ks8
        rcases bifL h with ⟨q9, h⟩ | ⟨q9, h⟩
        · refine gS rfl q9 ?_
          refine gS rfl q9 ?_
          refine gS rfl q9 ?_
          refine gS rfl q9 ?_
          refine gU rfl ?_
          refine gU rfl ?_
          refine gU rfl ?_
          refine gS rfl q9 ?_
          refine gS rfl q9 ?_
          refine oN (EvN.pickT rfl q9 (Bo true) rfl) ?_
          obtain rfl := Option.some.inj h
          exact js8 _ _ ⟨(), trivial, cutW rfl (weak_cons rfl (weak_cons rfl (weak_cons rfl (weak_cons rfl (weak_cons rfl (weak_cons rfl weak_nil))))))⟩
        · refine gN rfl q9 (EvN.mv (Bo v3.2) rfl) ?_
          refine gN rfl q9 (EvN.mv (I v2) rfl) ?_
          refine gN rfl q9 (EvN.ige rfl rfl) ?_
          refine gN rfl q9 (EvN.mv (Bo (decide ((0 : Int) ≤ v2))) rfl) ?_
          obtain ⟨s10, h, ks10⟩ := bindL h
          refine TO.joinF (G := Unit) 4 (fun _ => True) (fun _ => [(42, Bo s10), (35, Bo v3.2), (34, Bo s5), (7, Bo v4.2), (6, eL (cL Ximpl_Instr.c) v4.1), (5, Bo v3.2), (4, eL (cL Ximpl_Instr.c) v3.1), (3, I v2)]) (fun _ => []) ?_ (fun js10 => ?_)
          rotate_left
          · clear ks10
            rcases bifL h with ⟨q11, h⟩ | ⟨q11, h⟩
            · refine gN rfl q11 (EvN.mv (I v2) rfl) ?_
              obtain ⟨v12, cv12, h⟩ := bindL h
              refine gN rfl q11 (EvN.call rfl rfl rfl (F_impl_SmallTests_P  cv12) rfl) ?_
              refine gN rfl q11 (EvN.ilt rfl rfl) ?_
              refine gN rfl q9 (EvN.pickT rfl q11 (Bo (decide (v2 < v12))) rfl) ?_
              obtain rfl := Option.some.inj h
              exact js10 _ _ ⟨(), trivial, cutW rfl (weak_cons rfl (weak_cons rfl (weak_cons rfl (weak_cons rfl (weak_cons rfl (weak_cons rfl (weak_cons rfl (weak_cons rfl weak_nil))))))))⟩
            · refine gS rfl q11 ?_
              refine gS rfl q11 ?_
              refine gS rfl q11 ?_
              refine gN rfl q9 (EvN.pickF rfl q11 (Bo false) rfl) ?_
              obtain rfl := Option.some.inj h
              exact js10 _ _ ⟨(), trivial, cutW rfl (weak_cons rfl (weak_cons rfl (weak_cons rfl (weak_cons rfl (weak_cons rfl (weak_cons rfl (weak_cons rfl (weak_cons rfl weak_nil))))))))⟩
          · intro _ _
            replace h := ks10
            clear ks10
            refine gN rfl q9 (EvN.bne bt4 rfl rfl) ?_
            refine oN (EvN.pickF rfl q9 (Bo (!(v3.2 == s10))) rfl) ?_
            obtain rfl := Option.some.inj h
            exact js8 _ _ ⟨(), trivial, cutW rfl (weak_cons rfl (weak_cons rfl (weak_cons rfl (weak_cons rfl (weak_cons rfl (weak_cons rfl weak_nil))))))⟩
      · intro _ _
        replace h := ks8
        clear ks8
        refine oN (EvN.mv (Bo s8) rfl) ?_
        obtain ⟨s13, h, ks13⟩ := bindL h
        refine TO.joinF (G := Unit) 3 (fun _ => True) (fun _ => [(48, Bo s13), (7, Bo v4.2), (6, eL (cL Ximpl_Instr.c) v4.1), (5, Bo v3.2), (4, eL (cL Ximpl_Instr.c) v3.1), (3, I v2)]) (fun _ => []) ?_ (fun js13 => ?_)
        rotate_left
        · clear ks13
          rcases bifL h with ⟨q14, h⟩ | ⟨q14, h⟩
          · refine gS rfl q14 ?_
            refine gS rfl q14 ?_
            refine oN (EvN.pickT rfl q14 (Bo true) rfl) ?_
            obtain rfl := Option.some.inj h
            exact js13 _ _ ⟨(), trivial, cutW rfl (weak_cons rfl (weak_cons rfl (weak_cons rfl (weak_cons rfl (weak_cons rfl (weak_cons rfl weak_nil))))))⟩
          · refine gN rfl q14 (EvN.mv (Bo v3.2) rfl) ?_
            refine gN rfl q14 (EvN.not rfl) ?_
            refine oN (EvN.pickF rfl q14 (Bo (!v3.2)) rfl) ?_
            obtain rfl := Option.some.inj h
            exact js13 _ _ ⟨(), trivial, cutW rfl (weak_cons rfl (weak_cons rfl (weak_cons rfl (weak_cons rfl (weak_cons rfl (weak_cons rfl weak_nil))))))⟩
        · intro _ _
          replace h := ks13
          clear ks13
          refine TO.nil ?_
          refine T.cond rfl (fun q15 => ?_) (fun q15 => ?_)
          · replace h := condT q15 h
            refine T.seq ?_
            refine T.region ?_
            refine oN (EvN.mv (Bo v3.2) rfl) ?_
            refine oN (EvN.mv (Bo v4.2) rfl) ?_
            refine oN (EvN.beq bt4 rfl rfl) ?_
            refine oN (EvN.mv (Bo (v3.2 == v4.2)) rfl) ?_
            obtain ⟨s16, h, ks16⟩ := bindL h
            refine TO.joinF (G := Unit) 4 (fun _ => True) (fun _ => [(56, Bo s16), (5, Bo v3.2), (3, I v2)]) (fun _ => []) ?_ (fun js16 => ?_)
            rotate_left
            · clear ks16
              rcases bifL h with ⟨q17, h⟩ | ⟨q17, h⟩
              · refine gN rfl q17 (EvN.mv (eL (cL Ximpl_Instr.c) v3.1) rfl) ?_
                refine gN rfl q17 (EvN.mv (eL (cL Ximpl_Instr.c) v4.1) rfl) ?_
                obtain ⟨v18, cv18, h⟩ := bindL h
                refine gN rfl q17 (EvN.call rfl rfl rfl (F_impl_ProgramSame_P v3.1 v4.1 cv18) rfl) ?_
                refine oN (EvN.pickT rfl q17 (Bo v18) rfl) ?_
                obtain rfl := Option.some.inj h
                exact js16 _ _ ⟨(), trivial, cutW rfl (weak_cons rfl (weak_cons rfl (weak_cons rfl weak_nil)))⟩
              · refine gS rfl q17 ?_
                refine gS rfl q17 ?_
                refine gS rfl q17 ?_
                refine oN (EvN.pickF rfl q17 (Bo false) rfl) ?_
                obtain rfl := Option.some.inj h
                exact js16 _ _ ⟨(), trivial, cutW rfl (weak_cons rfl (weak_cons rfl (weak_cons rfl weak_nil)))⟩
            · intro _ _
              replace h := ks16
              clear ks16
              refine oN (EvN.mv (Bo s16) rfl) ?_
              obtain ⟨s19, h, ks19⟩ := bindL h
              refine TO.joinF (G := Unit) 10 (fun _ => True) (fun _ => [(67, Bo s19)]) (fun _ => []) ?_ (fun js19 => ?_)
              rotate_left
              · clear ks19
                rcases bifL h with ⟨q20, h⟩ | ⟨q20, h⟩
                · refine gN rfl q20 (EvN.mv (Bo v3.2) rfl) ?_
                  refine gN rfl q20 (EvN.mv (I v2) rfl) ?_
                  refine gN rfl q20 (EvN.ige rfl rfl) ?_
                  refine gN rfl q20 (EvN.mv (Bo (decide ((0 : Int) ≤ v2))) rfl) ?_
                  obtain ⟨s21, h, ks21⟩ := bindL h
                  refine TO.joinF (G := Unit) 4 (fun _ => True) (fun _ => [(65, Bo s21), (58, Bo v3.2), (57, Bo s16)]) (fun _ => []) ?_ (fun js21 => ?_)
                  rotate_left
                  · clear ks21
                    rcases bifL h with ⟨q22, h⟩ | ⟨q22, h⟩
                    · refine gN rfl q22 (EvN.mv (I v2) rfl) ?_
                      obtain ⟨v23, cv23, h⟩ := bindL h
                      refine gN rfl q22 (EvN.call rfl rfl rfl (F_impl_SmallTests_P  cv23) rfl) ?_
                      refine gN rfl q22 (EvN.ilt rfl rfl) ?_
                      refine gN rfl q20 (EvN.pickT rfl q22 (Bo (decide (v2 < v23))) rfl) ?_
                      obtain rfl := Option.some.inj h
                      exact js21 _ _ ⟨(), trivial, cutW rfl (weak_cons rfl (weak_cons rfl (weak_cons rfl weak_nil)))⟩
                    · refine gS rfl q22 ?_
                      refine gS rfl q22 ?_
                      refine gS rfl q22 ?_
                      refine gN rfl q20 (EvN.pickF rfl q22 (Bo false) rfl) ?_
                      obtain rfl := Option.some.inj h
                      exact js21 _ _ ⟨(), trivial, cutW rfl (weak_cons rfl (weak_cons rfl (weak_cons rfl weak_nil)))⟩
                  · intro _ _
                    replace h := ks21
                    clear ks21
                    refine gN rfl q20 (EvN.beq bt4 rfl rfl) ?_
                    refine oN (EvN.pickT rfl q20 (Bo (v3.2 == s21)) rfl) ?_
                    obtain rfl := Option.some.inj h
                    exact js19 _ _ ⟨(), trivial, cutW rfl (weak_cons rfl weak_nil)⟩
                · refine gS rfl q20 ?_
                  refine gS rfl q20 ?_
                  refine gS rfl q20 ?_
                  refine gS rfl q20 ?_
                  refine gU rfl ?_
                  refine gU rfl ?_
                  refine gU rfl ?_
                  refine gS rfl q20 ?_
                  refine gS rfl q20 ?_
                  refine oN (EvN.pickF rfl q20 (Bo false) rfl) ?_
                  obtain rfl := Option.some.inj h
                  exact js19 _ _ ⟨(), trivial, cutW rfl (weak_cons rfl weak_nil)⟩
              · intro _ _
                replace h := ks19
                clear ks19
                refine oN (EvN.asg (Bo s19) rfl) ?_
                refine TO.nil ?_
                refine T.ret ?_
                obtain rfl := Option.some.inj h
                repeat first | refine retS ?_ | refine retB ?_
                exact Fin.ret (vs := [Bo s19]) (.cons (.tmp rfl) .nil) (.of_isF 9 _ rfl)
          · replace h := condF q15 h
            refine T.skip ?_
            refine T.seq ?_
            refine T.region ?_
            refine oN (EvN.mv (eL (cL Ximpl_Instr.c) v3.1) rfl) ?_
            obtain ⟨v24, cv24, h⟩ := bindL h
            refine oN (EvN.call rfl rfl rfl (F_impl_NumberOfTest_P v3.1 cv24) rfl) ?_
            refine oN (EvN.mv (.tup [I v24.1, Bo v24.2]) rfl) ?_
            refine oN (EvN.ext (I v24.1) rfl rfl) ?_
            refine oN (EvN.ext (Bo v24.2) rfl rfl) ?_
            refine oN (EvN.asg (I v24.1) rfl) ?_
            refine oN (EvN.asg (Bo v24.2) rfl) ?_
            refine TO.nil ?_
            refine T.seq ?_
            refine T.clean (H0 := []) (e0 := envOf [(9, Bo v24.2), (8, I v24.1), (4, eL (cL Ximpl_Instr.c) v3.1), (3, I v2)]) rfl (weak_cons rfl (weak_cons rfl (weak_cons rfl (weak_cons rfl weak_nil)))) ?_
            refine T.region ?_
            refine oN (EvN.mv (Bo v24.2) rfl) ?_
            refine oN (EvN.mv (Bo v24.2) rfl) ?_
            obtain ⟨s25, h, ks25⟩ := bindL h
            refine TO.joinF (G := Unit) 4 (fun _ => True) (fun _ => [(78, Bo s25), (4, eL (cL Ximpl_Instr.c) v3.1), (3, I v2)]) (fun _ => []) ?_ (fun js25 => ?_)
            rotate_left
            · clear ks25
              rcases bifL h with ⟨q26, h⟩ | ⟨q26, h⟩
              · refine gN rfl q26 (EvN.mv (I v24.1) rfl) ?_
                refine gN rfl q26 (EvN.mv (I v2) rfl) ?_
                refine gN rfl q26 (EvN.ieq rfl rfl) ?_
                refine oN (EvN.pickT rfl q26 (Bo (v24.1 == v2)) rfl) ?_
                obtain rfl := Option.some.inj h
                exact js25 _ _ ⟨(), trivial, cutW rfl (weak_cons rfl (weak_cons rfl (weak_cons rfl weak_nil)))⟩
              · refine gS rfl q26 ?_
                refine gS rfl q26 ?_
                refine gS rfl q26 ?_
                refine oN (EvN.pickF rfl q26 (Bo false) rfl) ?_
                obtain rfl := Option.some.inj h
                exact js25 _ _ ⟨(), trivial, cutW rfl (weak_cons rfl (weak_cons rfl (weak_cons rfl weak_nil)))⟩
            · intro _ _
              replace h := ks25
              clear ks25
              refine oN (EvN.mv (Bo s25) rfl) ?_
              obtain ⟨s27, h, ks27⟩ := bindL h
              refine TO.joinF (G := Unit) 8 (fun _ => True) (fun _ => [(87, Bo s27)]) (fun _ => []) ?_ (fun js27 => ?_)
              rotate_left
              · clear ks27
                rcases bifL h with ⟨q28, h⟩ | ⟨q28, h⟩
                · refine gN rfl q28 (EvN.mv (eL (cL Ximpl_Instr.c) v3.1) rfl) ?_
                  obtain ⟨v29, cv29, h⟩ := bindL h
                  refine gN rfl q28 (EvN.call rfl rfl rfl (F_impl_ProgramValid_P v3.1 cv29) rfl) ?_
                  refine gN rfl q28 (EvN.mv (I v2) rfl) ?_
                  obtain ⟨v30, cv30, h⟩ := bindL h
                  refine gN rfl q28 (EvN.call rfl rfl rfl (F_impl_SmallTests_P  cv30) rfl) ?_
                  obtain ⟨g31, h⟩ := gdW h
                  refine gN rfl q28 (EvN.sub rfl rfl g31) ?_
                  refine gN rfl q28 (EvN.ilt rfl rfl) ?_
                  refine gN rfl q28 (EvN.beq bt4 rfl rfl) ?_
                  refine oN (EvN.pickT rfl q28 (Bo (v29 == (decide (v2 < (v30 - (1 : Int)))))) rfl) ?_
                  obtain rfl := Option.some.inj h
                  exact js27 _ _ ⟨(), trivial, cutW rfl (weak_cons rfl weak_nil)⟩
                · refine gS rfl q28 ?_
                  refine gS rfl q28 ?_
                  refine gS rfl q28 ?_
                  refine gS rfl q28 ?_
                  refine gS rfl q28 ?_
                  refine gS rfl q28 ?_
                  refine gS rfl q28 ?_
                  refine oN (EvN.pickF rfl q28 (Bo false) rfl) ?_
                  obtain rfl := Option.some.inj h
                  exact js27 _ _ ⟨(), trivial, cutW rfl (weak_cons rfl weak_nil)⟩
              · intro _ _
                replace h := ks27
                clear ks27
                refine oN (EvN.asg (Bo s27) rfl) ?_
                refine TO.nil ?_
                refine T.ret ?_
                obtain rfl := Option.some.inj h
                repeat first | refine retS ?_ | refine retB ?_
                exact Fin.ret (vs := [Bo s27]) (.cons (.tmp rfl) .nil) (.of_isF 9 _ rfl)
end Go.Proofs.Ytjjkgemgomfmdaa
