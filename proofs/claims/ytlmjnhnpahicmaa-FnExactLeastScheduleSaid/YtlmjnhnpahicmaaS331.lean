/-
 The program's code computes the functions over plain values; printed by lift.py. No conditions.
-/
import Derived.Test.YtlmjnhnpahicmaaS33d
import Derived.Test.YtlmjnhnpahicmaaSf
import Derived.Test.YtlmjnhnpahicmaaL15
import Derived.Test.YtlmjnhnpahicmaaGH
import Derived.Test.YtlmjnhnpahicmaaL26
import Derived.Test.YtlmjnhnpahicmaaBrV
import Derived.Test.YtlmjnhnpahicmaaS263
import Derived.Test.YtlmjnhnpahicmaaS271
namespace Go.Proofs.Ytlmjnhnpahicmaa
open Go.RowKit
set_option maxRecDepth 100000
theorem F_impl_tracer_last_P (s : ZTv) (pc : Z3i) (loc : Int) {q : Int} (h : F_impl_tracer_last s pc loc = some q) : PCall Try.prog 178 [.fp (ZTv.c s) 0,.agg (Z3i.c pc),I loc] (I q) := by
 refine PCall.mkT Try.func178 rfl (by kernel_rfl) rfl (by kernel_rfl) (e0:=envOf [(0,.fp (ZTv.c s) 0),(1,.agg (Z3i.c pc)),(2,I loc)]) (wkC rfl (wkC rfl (wkC rfl wkN))) (T.seq (T.region (oN (EvN.bxF [I pc.x0,I pc.x1,I pc.x2] rfl rfl rfl) (oN (EvN.asg (I (0 : Int)) rfl) (TO.nil (T.seq (T.region ?_)))))))
 refine oN (EvN.asg (I (0 : Int)) rfl) (TO.nil ?_)
 obtain ⟨s1,h,ks1⟩ := bindL h
 refine T.joinF (G:=Unit) (fun gh => True) (fun gh => [(7,I s1)]) (fun gh => []) (fun gh hg => ?_) ?_
 ·clear h
  have h := ks1
  clear ks1
  refine T.seq (T.region (oN (EvN.mv (I s1) rfl) (oN (EvN.asg (I s1) rfl) (TO.nil (T.ret ?_)))))
  obtain rfl := osi h
  repeat (first|refine retS ?_|refine retB ?_)
  exact Fin.ret (vs:=[I s1]) (.cons (.tmp rfl) .nil) (.of_isF 9 _ rfl)
 ·clear ks1
  refine T.seq (T.region (oN (EvN.mv (.fp (ZTv.c s) 0) rfl) (oN (EvN.nilfp rfl) (oN (EvN.fafp Try.underlying125 rfl (by kernel_rfl) rfl) (oN (EvN.loadfp (eL (cL ZIn.c) s.p) ty27 rfl rfl) (oN (EvN.lenL sl27 rfl) (oN (EvN.mv (I (0 : Int)) rfl) ?_)))))))
  refine TO.nil (T.block ?_)
  refine T.loop (S:=Int × Int) (G:=Unit) (F_impl_tracer_last_L5 s pc loc) (fun s4 gh => True) (fun s4 gh => [(16,I s4.1),(15,I (s.p.length : Int)),(7,I s4.2),(4,.fp (Z3i.c pc) 0),(0,.fp (ZTv.c s) 0),(2,I loc)]) (fun s4 gh => []) (s0:=((0 : Int),(0 : Int))) () h trivial (cutW rfl (wkC rfl (wkC rfl (wkC rfl (wkC rfl (wkC rfl (wkC rfl wkN))))))) (fun s4 gh ws4 h hg => ?_)
  let d0 := s.p.getD s4.1.toNat default
  refine T.seq (T.region (oN (EvN.ilt rfl rfl) (TO.nil (T.seq ?_))))
  refine T.cond rfl (fun q6 => ?_) (fun q6 => ?_)
  ·replace h := condT q6 h
   refine T.skip ?_
   obtain ⟨s7,h,ks7⟩ := bindL h
   refine T.joinF (G:=Unit) (fun gh => True) (fun gh => [(16,I s4.1),(15,I (s.p.length : Int)),(7,I s7),(4,.fp (Z3i.c pc) 0),(0,.fp (ZTv.c s) 0),(2,I loc)]) (fun gh => []) (fun gh hg => ?_) ?_
   ·clear h
    have h := ks7
    clear ks7
    refine T.region ?_
    obtain ⟨g24,h⟩ := gdW h
    refine oN (EvN.add rfl rfl g24) (oN (EvN.mv (I (s4.1 + (1 : Int))) rfl) (TO.nil ?_))
    obtain rfl := osi h
    exact ⟨((s4.1 + (1 : Int)),s7),(),rfl,trivial,cutW rfl (wkC rfl (wkC rfl (wkC rfl (wkC rfl (wkC rfl (wkC rfl wkN))))))⟩
   ·clear ks7
    refine T.block (T.seq (T.region (oN (EvN.mv (I s4.1) rfl) (oN (EvN.asg (I s4.1) rfl) (TO.nil (T.seq (T.drawF (fun _ => ([],false)) (by kernel_rfl) (by kernel_rfl) ?_)))))))
    refine fN rfl (EvN.mv (.fp (ZTv.c s) 0) rfl) (fN rfl (EvN.nilfp rfl) (fN rfl (EvN.fafp Try.underlying125 rfl (by kernel_rfl) rfl) (fN rfl (EvN.loadfp (eL (cL ZIn.c) s.p) ty27 rfl rfl) (fN rfl (EvN.mv (I s4.1) rfl) ?_))))
    obtain ⟨g8,h⟩ := gdD h
    refine fN rfl (EvN.ixL sl27 rfl rfl g8 (fun _ => rfl)) (fN rfl (EvN.loadfp (eL ZIn.c d0) ty57 rfl rfl) (fN rfl (EvN.mv (I s4.1) rfl) ?_))
    obtain ⟨g9,h⟩ := gdD h
    refine fN rfl (EvN.ixafp Try.underlying127 ty3 rfl rfl g9) (fN rfl (EvN.loadfp (I (Z3i.get pc s4.1)) ty3 rfl (sel3 (P:=fun (z0 : Int) => partV false 1 (Z3i.c pc) (0 + z0.toNat * 1) = some (I (Z3i.get pc z0))) g9 rfl rfl rfl)) ?_)
    obtain ⟨g10,h⟩ := gdD h
    refine fN rfl (EvN.slL sl57 rfl .no (.yes rfl) g10 (fun _ => rfl)) (fN rfl (EvN.lenL sl57 rfl) (fN rfl (EvN.mv (I (0 : Int)) rfl) (TF.nil (T.block ?_))))
    refine T.loop (S:=Int × Int) (G:=Unit) (F_impl_tracer_last_L14 s pc loc s4) (fun s13 gh => True) (fun s13 gh => [(31,I s13.1),(30,I (((d0.drop (0 : Int).toNat).take ((Z3i.get pc s4.1).toNat - (0 : Int).toNat)).length : Int)),(29,eL ZIn.c ((d0.drop (0 : Int).toNat).take ((Z3i.get pc s4.1).toNat - (0 : Int).toNat))),(16,I s4.1),(15,I (s.p.length : Int)),(7,I s13.2),(4,.fp (Z3i.c pc) 0),(0,.fp (ZTv.c s) 0),(2,I loc)]) (fun s13 gh => []) (s0:=((0 : Int),s4.2)) () h trivial (cutW rfl (wkC rfl (wkC rfl (wkC rfl (wkC rfl (wkC rfl (wkC rfl (wkC rfl (wkC rfl (wkC rfl wkN)))))))))) (fun s13 gh ws13 h hg => ?_)
    refine T.seq (T.region (oN (EvN.ilt rfl rfl) (TO.nil (T.seq ?_))))
    refine T.cond rfl (fun q15 => ?_) (fun q15 => ?_)
    ·replace h := condT q15 h
     refine T.skip ?_
     obtain ⟨s16,h,ks16⟩ := bindL h
     refine T.joinF (G:=Unit) (fun gh => True) (fun gh => [(7,I s16),(31,I s13.1),(30,I (((d0.drop (0 : Int).toNat).take ((Z3i.get pc s4.1).toNat - (0 : Int).toNat)).length : Int)),(29,eL ZIn.c ((d0.drop (0 : Int).toNat).take ((Z3i.get pc s4.1).toNat - (0 : Int).toNat))),(16,I s4.1),(15,I (s.p.length : Int)),(4,.fp (Z3i.c pc) 0),(0,.fp (ZTv.c s) 0),(2,I loc)]) (fun gh => []) (fun gh hg => ?_) ?_
     ·clear h
      have h := ks16
      clear ks16
      refine T.region ?_
      obtain ⟨g23,h⟩ := gdW h
      refine oN (EvN.add rfl rfl g23) (oN (EvN.mv (I (s13.1 + (1 : Int))) rfl) (TO.nil ?_))
      obtain rfl := osi h
      exact ⟨((s13.1 + (1 : Int)),s16),(),rfl,trivial,cutW rfl (wkC rfl (wkC rfl (wkC rfl (wkC rfl (wkC rfl (wkC rfl (wkC rfl (wkC rfl (wkC rfl wkN)))))))))⟩
     ·clear ks16
      refine T.block (T.seq (T.region ?_))
      obtain ⟨g17,h⟩ := gdD h
      refine oN (EvN.ixL sl57 rfl rfl g17 (fun _ => rfl)) (oN (EvN.loadfp (.agg (ZIn.c (((d0.drop (0 : Int).toNat).take ((Z3i.get pc s4.1).toNat - (0 : Int).toNat)).getD s13.1.toNat default))) ty56 rfl rfl) (oA (EvA.al zs56 rfl rfl) (oV (EvA.st (cs:=[I ((((d0.drop (0 : Int).toNat).take ((Z3i.get pc s4.1).toNat - (0 : Int).toNat)).getD s13.1.toNat default).Op),I ((((d0.drop (0 : Int).toNat).take ((Z3i.get pc s4.1).toNat - (0 : Int).toNat)).getD s13.1.toNat default).Loc),I ((((d0.drop (0 : Int).toNat).take ((Z3i.get pc s4.1).toNat - (0 : Int).toNat)).getD s13.1.toNat default).Reg),I ((((d0.drop (0 : Int).toNat).take ((Z3i.get pc s4.1).toNat - (0 : Int).toNat)).getD s13.1.toNat default).Val)]) ⟨0,4,56,[[I ((((d0.drop (0 : Int).toNat).take ((Z3i.get pc s4.1).toNat - (0 : Int).toNat)).getD s13.1.toNat default).Op),I ((((d0.drop (0 : Int).toNat).take ((Z3i.get pc s4.1).toNat - (0 : Int).toNat)).getD s13.1.toNat default).Loc),I ((((d0.drop (0 : Int).toNat).take ((Z3i.get pc s4.1).toNat - (0 : Int).toNat)).getD s13.1.toNat default).Reg),I ((((d0.drop (0 : Int).toNat).take ((Z3i.get pc s4.1).toNat - (0 : Int).toNat)).getD s13.1.toNat default).Val)]]⟩ ty56 rfl rfl rfl rfl rfl rfl rfl rfl rfl) (TO.nil (T.seq (T.region (oA (EvA.loadhp (.agg [I ((((d0.drop (0 : Int).toNat).take ((Z3i.get pc s4.1).toNat - (0 : Int).toNat)).getD s13.1.toNat default).Op),I ((((d0.drop (0 : Int).toNat).take ((Z3i.get pc s4.1).toNat - (0 : Int).toNat)).getD s13.1.toNat default).Loc),I ((((d0.drop (0 : Int).toNat).take ((Z3i.get pc s4.1).toNat - (0 : Int).toNat)).getD s13.1.toNat default).Reg),I ((((d0.drop (0 : Int).toNat).take ((Z3i.get pc s4.1).toNat - (0 : Int).toNat)).getD s13.1.toNat default).Val)]) ty56 rfl rfl rfl rfl rfl rfl) ?_)))))))
      obtain ⟨v18,cv18,h⟩ := bindL h
      refine oN (EvN.call rfl rfl rfl (F_impl_Instr_writes_P (⟨(((d0.drop (0 : Int).toNat).take ((Z3i.get pc s4.1).toNat - (0 : Int).toNat)).getD s13.1.toNat default).Op,(((d0.drop (0 : Int).toNat).take ((Z3i.get pc s4.1).toNat - (0 : Int).toNat)).getD s13.1.toNat default).Loc,(((d0.drop (0 : Int).toNat).take ((Z3i.get pc s4.1).toNat - (0 : Int).toNat)).getD s13.1.toNat default).Reg,(((d0.drop (0 : Int).toNat).take ((Z3i.get pc s4.1).toNat - (0 : Int).toNat)).getD s13.1.toNat default).Val⟩ : ZIn) cv18) rfl) (oN (EvN.mv (Bo v18) rfl) ?_)
      obtain ⟨s19,h,ks19⟩ := bindL h
      refine TO.joinF (G:=Unit) 5 (fun _ => True) (fun _ => [(42,Bo s19),(31,I s13.1),(30,I (((d0.drop (0 : Int).toNat).take ((Z3i.get pc s4.1).toNat - (0 : Int).toNat)).length : Int)),(29,eL ZIn.c ((d0.drop (0 : Int).toNat).take ((Z3i.get pc s4.1).toNat - (0 : Int).toNat))),(16,I s4.1),(15,I (s.p.length : Int)),(7,I s13.2),(4,.fp (Z3i.c pc) 0),(0,.fp (ZTv.c s) 0),(2,I loc)]) (fun _ => [some ⟨0,4,56,[[I ((((d0.drop (0 : Int).toNat).take ((Z3i.get pc s4.1).toNat - (0 : Int).toNat)).getD s13.1.toNat default).Op),I ((((d0.drop (0 : Int).toNat).take ((Z3i.get pc s4.1).toNat - (0 : Int).toNat)).getD s13.1.toNat default).Loc),I ((((d0.drop (0 : Int).toNat).take ((Z3i.get pc s4.1).toNat - (0 : Int).toNat)).getD s13.1.toNat default).Reg),I ((((d0.drop (0 : Int).toNat).take ((Z3i.get pc s4.1).toNat - (0 : Int).toNat)).getD s13.1.toNat default).Val)]]⟩]) ?_ (fun js19 => ?_)
      rotate_left
      ·clear ks19
       rcases bifL h with ⟨q20,h⟩ | ⟨q20,h⟩
       ·refine gN rfl q20 (EvN.fahp Try.underlying56 rfl (by kernel_rfl) rfl) (gA rfl q20 (EvA.loadhp (I ((((d0.drop (0 : Int).toNat).take ((Z3i.get pc s4.1).toNat - (0 : Int).toNat)).getD s13.1.toNat default).Loc)) ty3 rfl rfl rfl rfl rfl rfl) (gN rfl q20 (EvN.mv (I loc) rfl) (gN rfl q20 (EvN.ieq rfl rfl) (oN (EvN.pickT rfl q20 (Bo (((((d0.drop (0 : Int).toNat).take ((Z3i.get pc s4.1).toNat - (0 : Int).toNat)).getD s13.1.toNat default).Loc) == loc)) rfl) ?_))))
        obtain rfl := osi h
        exact js19 _ _ ⟨(),trivial,cutW rfl (wkC rfl (wkC rfl (wkC rfl (wkC rfl (wkC rfl (wkC rfl (wkC rfl (wkC rfl (wkC rfl (wkC rfl wkN))))))))))⟩
       ·refine gS rfl q20 (gS rfl q20 (gS rfl q20 (gS rfl q20 (oN (EvN.pickF rfl q20 (Bo false) rfl) ?_))))
        obtain rfl := osi h
        exact js19 _ _ ⟨(),trivial,cutW rfl (wkC rfl (wkC rfl (wkC rfl (wkC rfl (wkC rfl (wkC rfl (wkC rfl (wkC rfl (wkC rfl (wkC rfl wkN))))))))))⟩
      ·intro _ _
       replace h := ks19
       clear ks19
       refine TO.nil ?_
       refine T.cond rfl (fun q21 => ?_) (fun q21 => ?_)
       ·replace h := condT q21 h
        refine T.region (oN (EvN.mv (I s13.2) rfl) ?_)
        obtain ⟨g22,h⟩ := gdW h
        refine oN (EvN.add rfl rfl g22) (oN (EvN.asg (I (s13.2 + (1 : Int))) rfl) (TO.nil ?_))
        obtain rfl := osi h
        exact ⟨(),trivial,cutS rfl .nil (stl_cons (.fz (.of_isF 9 _ rfl)) (stl_cons (.fz (.of_isF 9 _ rfl)) (stl_cons (.fz (.of_isF 9 _ rfl)) (stl_cons (.fz (.of_isF 9 _ rfl)) (stl_cons (.fz (.of_isF 9 _ rfl)) (stl_cons (.fz (.of_isF 9 _ rfl)) (stl_cons (.fz (.of_isF 9 _ rfl)) (stl_cons (.fz (.of_isF 9 _ rfl)) (stl_cons (.fz (.of_isF 9 _ rfl)) stl_nil)))))))))⟩
       ·replace h := condF q21 h
        refine T.skip ?_
        obtain rfl := osi h
        exact ⟨(),trivial,cutS rfl .nil (stl_cons (.fz (.of_isF 9 _ rfl)) (stl_cons (.fz (.of_isF 9 _ rfl)) (stl_cons (.fz (.of_isF 9 _ rfl)) (stl_cons (.fz (.of_isF 9 _ rfl)) (stl_cons (.fz (.of_isF 9 _ rfl)) (stl_cons (.fz (.of_isF 9 _ rfl)) (stl_cons (.fz (.of_isF 9 _ rfl)) (stl_cons (.fz (.of_isF 9 _ rfl)) (stl_cons (.fz (.of_isF 9 _ rfl)) stl_nil)))))))))⟩
    ·replace h := condF q15 h
     refine T.exit ?_
     refine ⟨_,(osi h).symm,fun h => ?_⟩
     replace h := congrArg some h
     obtain rfl := osi h
     exact ⟨(),trivial,cutW rfl (wkC rfl (wkC rfl (wkC rfl (wkC rfl (wkC rfl (wkC rfl wkN))))))⟩
  ·replace h := condF q6 h
   refine T.exit ?_
   refine ⟨_,(osi h).symm,fun h => ?_⟩
   replace h := congrArg some h
   obtain rfl := osi h
   exact ⟨(),trivial,cutW rfl (wkC rfl wkN)⟩
theorem F_impl_tracer_can_P (s : ZTv) (pc : Z3i) (t : Int) {q : Bool} (h : F_impl_tracer_can s pc t = some q) : PCall Try.prog 151 [.fp (ZTv.c s) 0,.agg (Z3i.c pc),I t] (Bo q) := by
 refine PCall.mkT Try.func151 rfl (by kernel_rfl) rfl (by kernel_rfl) (e0:=envOf [(0,.fp (ZTv.c s) 0),(1,.agg (Z3i.c pc)),(2,I t)]) (wkC rfl (wkC rfl (wkC rfl wkN))) ?_
 let d0 := s.number.getD t.toNat default
 refine T.seq (T.region (oN (EvN.bxF [I pc.x0,I pc.x1,I pc.x2] rfl rfl rfl) (oN (EvN.asg (Bo false) rfl) (TO.nil (T.seq (T.seq (T.drawF (fun _ => ([],false)) (by kernel_rfl) (by kernel_rfl) ?_)))))))
 refine fN rfl (EvN.mv (I t) rfl) ?_
 obtain ⟨g1,h⟩ := gdD h
 refine fN rfl (EvN.ixafp Try.underlying127 ty3 rfl rfl g1) (fN rfl (EvN.loadfp (I (Z3i.get pc t)) ty3 rfl (sel3 (P:=fun (z0 : Int) => partV false 1 (Z3i.c pc) (0 + z0.toNat * 1) = some (I (Z3i.get pc z0))) g1 rfl rfl rfl)) (fN rfl (EvN.mv (.fp (ZTv.c s) 0) rfl) (fN rfl (EvN.nilfp rfl) (fN rfl (EvN.fafp Try.underlying125 rfl (by kernel_rfl) rfl) (fN rfl (EvN.loadfp (eL (cL ZIn.c) s.p) ty27 rfl rfl) (fN rfl (EvN.mv (I t) rfl) ?_))))))
 obtain ⟨g2,h⟩ := gdD h
 refine fN rfl (EvN.ixL sl27 rfl rfl g2 (fun _ => rfl)) (fN rfl (EvN.loadfp (eL ZIn.c (s.p.getD t.toNat default)) ty57 rfl rfl) (fN rfl (EvN.lenL sl57 rfl) (fN rfl (EvN.ieq rfl rfl) (TF.nil ?_))))
 refine T.cond rfl (fun q3 => ?_) (fun q3 => ?_)
 ·replace h := condT q3 h
  refine T.seq (T.clean (H0:=[]) (e0:=envOf []) rfl wkN (T.region (oN (EvN.asg (Bo false) rfl) (TO.nil (T.ret ?_)))))
  obtain rfl := osi h
  repeat (first|refine retS ?_|refine retB ?_)
  exact Fin.ret (vs:=[Bo false]) (.cons (.tmp rfl) .nil) (.of_isF 9 _ rfl)
 ·replace h := condF q3 h
  refine T.skip (T.seq (T.clean (H0:=[]) (e0:=envOf [(4,.fp (Z3i.c pc) 0),(0,.fp (ZTv.c s) 0),(2,I t)]) rfl (wkC rfl (wkC rfl (wkC rfl wkN))) (T.reserve (T.drawF (fun i => [([],false),([],false),([],false),([],false),([],false),([],false),([],false),([],false),([],false),([],false),([],false),([],false),([],false),([],false),([],false),([],false),([],false),([],false),([],false),([],false),([],false),([],false),([],false),([],false),([0],true),([0],true),([],false)].getD i ([],false)) (by kernel_rfl) (by kernel_rfl) (fN rfl (EvN.mv (.fp (ZTv.c s) 0) rfl) (fN rfl (EvN.nilfp rfl) (fN rfl (EvN.fafp Try.underlying125 rfl (by kernel_rfl) rfl) ?_)))))))
  refine fN rfl (EvN.loadfp (eL (cL ZIn.c) s.p) ty27 rfl rfl) (fN rfl (EvN.mv (I t) rfl) (fN rfl (EvN.ixL sl27 rfl rfl g2 (fun _ => rfl)) (fN rfl (EvN.loadfp (eL ZIn.c (s.p.getD t.toNat default)) ty57 rfl rfl) (fN rfl (EvN.mv (I t) rfl) (fN rfl (EvN.ixafp Try.underlying127 ty3 rfl rfl g1) (fN rfl (EvN.loadfp (I (Z3i.get pc t)) ty3 rfl (sel3 (P:=fun (z0 : Int) => partV false 1 (Z3i.c pc) (0 + z0.toNat * 1) = some (I (Z3i.get pc z0))) g1 rfl rfl rfl)) ?_))))))
  obtain ⟨g4,h⟩ := gdD h
  refine fN rfl (EvN.ixL sl57 rfl rfl g4 (fun _ => rfl)) (fN rfl (EvN.loadfp (.agg (ZIn.c ((s.p.getD t.toNat default).getD (Z3i.get pc t).toNat default))) ty56 rfl rfl) (fN rfl (EvN.mv (.fp (ZTv.c s) 0) rfl) (fN rfl (EvN.nilfp rfl) (fN rfl (EvN.fafp Try.underlying125 rfl (by kernel_rfl) rfl) (fN rfl (EvN.loadfp (eL (cL cI) s.number) ty37 rfl rfl) (fN rfl (EvN.mv (I t) rfl) ?_))))))
  obtain ⟨g5,h⟩ := gdD h
  refine fN rfl (EvN.ixL sl37 rfl rfl g5 (fun _ => rfl)) (fN rfl (EvN.loadfp (eL cI d0) ty23 rfl rfl) (fN rfl (EvN.mv (I t) rfl) (fN rfl (EvN.ixafp Try.underlying127 ty3 rfl rfl g1) (fN rfl (EvN.loadfp (I (Z3i.get pc t)) ty3 rfl (sel3 (P:=fun (z0 : Int) => partV false 1 (Z3i.c pc) (0 + z0.toNat * 1) = some (I (Z3i.get pc z0))) g1 rfl rfl rfl)) ?_))))
  obtain ⟨g6,h⟩ := gdD h
  refine fN rfl (EvN.ixL sl23 rfl rfl g6 (fun _ => rfl)) (fN rfl (EvN.loadfp (I (d0.getD (Z3i.get pc t).toNat default)) ty3 rfl rfl) (fW 0 [] rfl rfl (fun G hG => EvA.alR 0 zs56 rfl rfl (hG.a0 rfl)) (fV 0 [] rfl rfl (fun G hG => EvA.st (cs:=[I (((s.p.getD t.toNat default).getD (Z3i.get pc t).toNat default).Op),I (((s.p.getD t.toNat default).getD (Z3i.get pc t).toNat default).Loc),I (((s.p.getD t.toNat default).getD (Z3i.get pc t).toNat default).Reg),I (((s.p.getD t.toNat default).getD (Z3i.get pc t).toNat default).Val)]) ⟨0,4,56,[[I (((s.p.getD t.toNat default).getD (Z3i.get pc t).toNat default).Op),I (((s.p.getD t.toNat default).getD (Z3i.get pc t).toNat default).Loc),I (((s.p.getD t.toNat default).getD (Z3i.get pc t).toNat default).Reg),I (((s.p.getD t.toNat default).getD (Z3i.get pc t).toNat default).Val)]]⟩ ty56 rfl rfl (hG.a0 rfl) rfl rfl rfl rfl rfl rfl) (fN rfl (EvN.asg (I (d0.getD (Z3i.get pc t).toNat default)) rfl) (TF.nil (T.seq (T.seq ?_)))))))
  refine T.clean (H0:=[some ⟨0,4,56,[[I (((s.p.getD t.toNat default).getD (Z3i.get pc t).toNat default).Op),I (((s.p.getD t.toNat default).getD (Z3i.get pc t).toNat default).Loc),I (((s.p.getD t.toNat default).getD (Z3i.get pc t).toNat default).Reg),I (((s.p.getD t.toNat default).getD (Z3i.get pc t).toNat default).Val)]]⟩]) (e0:=envOf [(8,I (d0.getD (Z3i.get pc t).toNat default)),(7,.hp 0 0 4 0 0),(4,.fp (Z3i.c pc) 0),(0,.fp (ZTv.c s) 0)]) rfl (wkC rfl (wkC rfl (wkC rfl (wkC rfl wkN)))) (T.region (oN (EvN.fahp Try.underlying56 rfl (by kernel_rfl) rfl) (oA (EvA.loadhp (I (((s.p.getD t.toNat default).getD (Z3i.get pc t).toNat default).Op)) ty3 rfl rfl rfl rfl rfl rfl) (oN (EvN.ieq rfl rfl) (TO.nil ?_)))))
  refine T.cond rfl (fun q7 => ?_) (fun q7 => ?_)
  ·replace h := condT q7 h
   refine T.seq (T.clean (H0:=[some ⟨0,4,56,[[I (((s.p.getD t.toNat default).getD (Z3i.get pc t).toNat default).Op),I (((s.p.getD t.toNat default).getD (Z3i.get pc t).toNat default).Loc),I (((s.p.getD t.toNat default).getD (Z3i.get pc t).toNat default).Reg),I (((s.p.getD t.toNat default).getD (Z3i.get pc t).toNat default).Val)]]⟩]) (e0:=envOf []) rfl wkN (T.region (oN (EvN.asg (Bo true) rfl) (TO.nil (T.ret ?_)))))
   obtain rfl := osi h
   repeat (first|refine retS ?_|refine retB ?_)
   exact Fin.ret (vs:=[Bo true]) (.cons (.tmp rfl) .nil) (.of_isF 9 _ rfl)
  ·replace h := condF q7 h
   refine T.skip (T.seq (T.drawF (fun i => [([],false),([],false),([],false),([],false),([],false),([],false),([0],false),([],false),([],false),([],false)].getD i ([],false)) (by kernel_rfl) (by kernel_rfl) (fN rfl (EvN.mv (.fp (ZTv.c s) 0) rfl) (fN rfl (EvN.nilfp rfl) (fN rfl (EvN.fafpS 2 Try.underlying125 rfl (by kernel_rfl) rfl rfl (row2:=ZEx.c s.x)) (fN rfl (EvN.fafp Try.underlying43 rfl (by kernel_rfl) rfl) (fN rfl (EvN.loadfp (eL (cL cI) s.x.Order) ty37 rfl rfl) ?_)))))))
   refine fN rfl (EvN.fahp Try.underlying56 rfl (by kernel_rfl) rfl) (fR [0] rfl (fun G hG => EvA.loadhp (I (((s.p.getD t.toNat default).getD (Z3i.get pc t).toNat default).Loc)) ty3 rfl (hG.a0 rfl) rfl rfl rfl rfl) ?_)
   obtain ⟨g8,h⟩ := gdD h
   refine fN rfl (EvN.ixL sl37 rfl rfl g8 (fun _ => rfl)) (fN rfl (EvN.loadfp (eL cI (s.x.Order.getD (((s.p.getD t.toNat default).getD (Z3i.get pc t).toNat default).Loc).toNat default)) ty23 rfl rfl) (fN rfl (EvN.asg (eL cI (s.x.Order.getD (((s.p.getD t.toNat default).getD (Z3i.get pc t).toNat default).Loc).toNat default)) rfl) (TF.nil (T.seq (T.clean (H0:=[some ⟨0,4,56,[[I (((s.p.getD t.toNat default).getD (Z3i.get pc t).toNat default).Op),I (((s.p.getD t.toNat default).getD (Z3i.get pc t).toNat default).Loc),I (((s.p.getD t.toNat default).getD (Z3i.get pc t).toNat default).Reg),I (((s.p.getD t.toNat default).getD (Z3i.get pc t).toNat default).Val)]]⟩]) (e0:=envOf [(9,eL cI (s.x.Order.getD (((s.p.getD t.toNat default).getD (Z3i.get pc t).toNat default).Loc).toNat default)),(8,I (d0.getD (Z3i.get pc t).toNat default)),(7,.hp 0 0 4 0 0),(4,.fp (Z3i.c pc) 0),(0,.fp (ZTv.c s) 0)]) rfl (wkC rfl (wkC rfl (wkC rfl (wkC rfl (wkC rfl wkN))))) (T.region (oN (EvN.mv (.fp (ZTv.c s) 0) rfl) ?_)))))))
   refine oN (EvN.loadfp (.agg (Z3i.c pc)) ty127 rfl rfl) (oN (EvN.fahp Try.underlying56 rfl (by kernel_rfl) rfl) (oA (EvA.loadhp (I (((s.p.getD t.toNat default).getD (Z3i.get pc t).toNat default).Loc)) ty3 rfl rfl rfl rfl rfl rfl) ?_))
   obtain ⟨v9,cv9,h⟩ := bindL h
   refine oN (EvN.call rfl rfl rfl (F_impl_tracer_last_P s pc (((s.p.getD t.toNat default).getD (Z3i.get pc t).toNat default).Loc) cv9) rfl) (oN (EvN.asg (I v9) rfl) (TO.nil ?_))
   obtain ⟨s10,h,ks10⟩ := bindL h
   refine T.joinF (G:=Unit) (fun gh => True) (fun gh => [(6,Bo s10)]) (fun gh => [some ⟨0,4,56,[[I (((s.p.getD t.toNat default).getD (Z3i.get pc t).toNat default).Op),I (((s.p.getD t.toNat default).getD (Z3i.get pc t).toNat default).Loc),I (((s.p.getD t.toNat default).getD (Z3i.get pc t).toNat default).Reg),I (((s.p.getD t.toNat default).getD (Z3i.get pc t).toNat default).Val)]]⟩]) (fun gh hg => ?_) ?_
   ·clear h
    have h := ks10
    clear ks10
    refine T.ret ?_
    obtain rfl := osi h
    repeat (first|refine retS ?_|refine retB ?_)
    exact Fin.ret (vs:=[Bo s10]) (.cons (.tmp rfl) .nil) (.of_isF 9 _ rfl)
   ·clear ks10
    refine T.clean (H0:=[some ⟨0,4,56,[[I (((s.p.getD t.toNat default).getD (Z3i.get pc t).toNat default).Op),I (((s.p.getD t.toNat default).getD (Z3i.get pc t).toNat default).Loc),I (((s.p.getD t.toNat default).getD (Z3i.get pc t).toNat default).Reg),I (((s.p.getD t.toNat default).getD (Z3i.get pc t).toNat default).Val)]]⟩]) (e0:=envOf [(10,I v9),(9,eL cI (s.x.Order.getD (((s.p.getD t.toNat default).getD (Z3i.get pc t).toNat default).Loc).toNat default)),(8,I (d0.getD (Z3i.get pc t).toNat default)),(7,.hp 0 0 4 0 0),(0,.fp (ZTv.c s) 0)]) rfl (wkC rfl (wkC rfl (wkC rfl (wkC rfl (wkC rfl wkN))))) (T.drawG (fun i => [([0],false),([],false),([],false),([],false),([],false),([],false),([],false),([],false),([],false),([],false),([],false),([],false),([],false),([],false),([],false),([],false),([],false),([],false),([],false),([0],false),([],false),([],false),([],false),([],false),([],false),([],false),([],false),([],false),([],false),([],false),([],false),([],false),([],false)].getD i ([],false)) (by kernel_rfl) (by kernel_rfl) (tR [0] rfl (fun G hG => EvA.loadhp (.agg [I (((s.p.getD t.toNat default).getD (Z3i.get pc t).toNat default).Op),I (((s.p.getD t.toNat default).getD (Z3i.get pc t).toNat default).Loc),I (((s.p.getD t.toNat default).getD (Z3i.get pc t).toNat default).Reg),I (((s.p.getD t.toNat default).getD (Z3i.get pc t).toNat default).Val)]) ty56 rfl (hG.a0 rfl) rfl rfl rfl rfl) ?_))
    obtain ⟨v11,cv11,h⟩ := bindL h
    refine tN rfl (EvN.call rfl rfl rfl (F_impl_Instr_reads_P (⟨((s.p.getD t.toNat default).getD (Z3i.get pc t).toNat default).Op,((s.p.getD t.toNat default).getD (Z3i.get pc t).toNat default).Loc,((s.p.getD t.toNat default).getD (Z3i.get pc t).toNat default).Reg,((s.p.getD t.toNat default).getD (Z3i.get pc t).toNat default).Val⟩ : ZIn) cv11) rfl) (tN rfl (EvN.not rfl) (tN rfl (EvN.mv (Bo (!v11)) rfl) ?_))
    rcases bifL h with ⟨q12,h⟩ | ⟨q12,h⟩
    ·refine tgS rfl q12 (tgS rfl q12 (tgS rfl q12 (tgS rfl q12 (tgS rfl q12 (tgS rfl q12 (tgS rfl q12 (tgS rfl q12 ?_)))))))
     refine tgS rfl q12 (tgS rfl q12 (tgS rfl q12 (tgS rfl q12 (tgS rfl q12 (tN rfl (EvN.pickT rfl q12 (Bo true) rfl) (tN rfl (EvN.mv (Bo true) rfl) (tgR rfl rfl [0] rfl (fun G hG => EvA.loadhp (.agg [I (((s.p.getD t.toNat default).getD (Z3i.get pc t).toNat default).Op),I (((s.p.getD t.toNat default).getD (Z3i.get pc t).toNat default).Loc),I (((s.p.getD t.toNat default).getD (Z3i.get pc t).toNat default).Reg),I (((s.p.getD t.toNat default).getD (Z3i.get pc t).toNat default).Val)]) ty56 rfl (hG.a0 rfl) rfl rfl rfl rfl) ?_)))))))
     obtain ⟨v13,cv13,h⟩ := bindL h
     refine tgN rfl rfl rfl (EvN.call rfl rfl rfl (F_impl_Instr_writes_P (⟨((s.p.getD t.toNat default).getD (Z3i.get pc t).toNat default).Op,((s.p.getD t.toNat default).getD (Z3i.get pc t).toNat default).Loc,((s.p.getD t.toNat default).getD (Z3i.get pc t).toNat default).Reg,((s.p.getD t.toNat default).getD (Z3i.get pc t).toNat default).Val⟩ : ZIn) cv13) rfl) (tgN rfl rfl rfl (EvN.not rfl) (tgN rfl rfl rfl (EvN.mv (Bo (!v13)) rfl) ?_))
     rcases bifL h with ⟨q14,h⟩ | ⟨q14,h⟩
     ·refine tgS rfl q14 (tgS rfl q14 (tgS rfl q14 (tgS rfl q14 (tgS rfl q14 (tgS rfl q14 (tgS rfl q14 (tgN rfl rfl rfl (EvN.pickT rfl q14 (Bo true) rfl) ?_)))))))
      refine tN rfl (EvN.pickT rfl rfl (Bo true) rfl) (tN rfl (EvN.asg (Bo true) rfl) (TG.nil ?_))
      obtain rfl := osi h
      exact ⟨(),trivial,cutW rfl (wkC rfl wkN)⟩
     ·refine tgN rfl q14 rfl (EvN.mv (eL cI (s.x.Order.getD (((s.p.getD t.toNat default).getD (Z3i.get pc t).toNat default).Loc).toNat default)) rfl) (tgN rfl q14 rfl (EvN.mv (I v9) rfl) ?_)
      obtain ⟨g15,h⟩ := gdW h
      refine tgN rfl q14 rfl (EvN.add rfl rfl g15) ?_
      obtain ⟨g16,h⟩ := gdD h
      refine tgN rfl q14 rfl (EvN.ixL sl23 rfl rfl g16 (fun _ => rfl)) (tgN rfl q14 rfl (EvN.loadfp (I ((s.x.Order.getD (((s.p.getD t.toNat default).getD (Z3i.get pc t).toNat default).Loc).toNat default).getD (v9 + (1 : Int)).toNat default)) ty3 rfl rfl) (tgN rfl q14 rfl (EvN.mv (I (d0.getD (Z3i.get pc t).toNat default)) rfl) (tgN rfl q14 rfl (EvN.ieq rfl rfl) (tgN rfl rfl rfl (EvN.pickF rfl q14 (Bo (((s.x.Order.getD (((s.p.getD t.toNat default).getD (Z3i.get pc t).toNat default).Loc).toNat default).getD (v9 + (1 : Int)).toNat default) == (d0.getD (Z3i.get pc t).toNat default))) rfl) (tN rfl (EvN.pickT rfl rfl (Bo (((s.x.Order.getD (((s.p.getD t.toNat default).getD (Z3i.get pc t).toNat default).Loc).toNat default).getD (v9 + (1 : Int)).toNat default) == (d0.getD (Z3i.get pc t).toNat default))) rfl) (tN rfl (EvN.asg (Bo (((s.x.Order.getD (((s.p.getD t.toNat default).getD (Z3i.get pc t).toNat default).Loc).toNat default).getD (v9 + (1 : Int)).toNat default) == (d0.getD (Z3i.get pc t).toNat default))) rfl) (TG.nil ?_)))))))
      obtain rfl := osi h
      exact ⟨(),trivial,cutW rfl (wkC rfl wkN)⟩
    ·refine tgN rfl q12 rfl (EvN.mv (.fp (ZTv.c s) 0) rfl) (tgN rfl q12 rfl (EvN.nilfp rfl) (tgN rfl q12 rfl (EvN.fafpS 2 Try.underlying125 rfl (by kernel_rfl) rfl rfl (row2:=ZEx.c s.x)) (tgN rfl q12 rfl (EvN.fafp Try.underlying43 rfl (by kernel_rfl) rfl) (tgN rfl q12 rfl (EvN.loadfp (eL cI s.x.From) ty23 rfl rfl) (tgN rfl q12 rfl (EvN.mv (I (d0.getD (Z3i.get pc t).toNat default)) rfl) ?_)))))
     obtain ⟨g17,h⟩ := gdD h
     refine tgN rfl q12 rfl (EvN.ixL sl23 rfl rfl g17 (fun _ => rfl)) (tgN rfl q12 rfl (EvN.loadfp (I (s.x.From.getD (d0.getD (Z3i.get pc t).toNat default).toNat default)) ty3 rfl rfl) (tgN rfl q12 rfl (EvN.mv (eL cI (s.x.Order.getD (((s.p.getD t.toNat default).getD (Z3i.get pc t).toNat default).Loc).toNat default)) rfl) (tgN rfl q12 rfl (EvN.mv (I v9) rfl) ?_)))
     obtain ⟨g18,h⟩ := gdD h
     refine tgN rfl q12 rfl (EvN.ixL sl23 rfl rfl g18 (fun _ => rfl)) (tgN rfl q12 rfl (EvN.loadfp (I ((s.x.Order.getD (((s.p.getD t.toNat default).getD (Z3i.get pc t).toNat default).Loc).toNat default).getD v9.toNat default)) ty3 rfl rfl) (tgN rfl q12 rfl (EvN.ieq rfl rfl) (tN rfl (EvN.pickF rfl q12 (Bo ((s.x.From.getD (d0.getD (Z3i.get pc t).toNat default).toNat default) == ((s.x.Order.getD (((s.p.getD t.toNat default).getD (Z3i.get pc t).toNat default).Loc).toNat default).getD v9.toNat default))) rfl) (tN rfl (EvN.mv (Bo ((s.x.From.getD (d0.getD (Z3i.get pc t).toNat default).toNat default) == ((s.x.Order.getD (((s.p.getD t.toNat default).getD (Z3i.get pc t).toNat default).Loc).toNat default).getD v9.toNat default))) rfl) ?_))))
     rcases bifL h with ⟨q19,h⟩ | ⟨q19,h⟩
     ·refine tgR rfl q19 [0] rfl (fun G hG => EvA.loadhp (.agg [I (((s.p.getD t.toNat default).getD (Z3i.get pc t).toNat default).Op),I (((s.p.getD t.toNat default).getD (Z3i.get pc t).toNat default).Loc),I (((s.p.getD t.toNat default).getD (Z3i.get pc t).toNat default).Reg),I (((s.p.getD t.toNat default).getD (Z3i.get pc t).toNat default).Val)]) ty56 rfl (hG.a0 rfl) rfl rfl rfl rfl) ?_
      obtain ⟨v20,cv20,h⟩ := bindL h
      refine tgN rfl q19 rfl (EvN.call rfl rfl rfl (F_impl_Instr_writes_P (⟨((s.p.getD t.toNat default).getD (Z3i.get pc t).toNat default).Op,((s.p.getD t.toNat default).getD (Z3i.get pc t).toNat default).Loc,((s.p.getD t.toNat default).getD (Z3i.get pc t).toNat default).Reg,((s.p.getD t.toNat default).getD (Z3i.get pc t).toNat default).Val⟩ : ZIn) cv20) rfl) (tgN rfl q19 rfl (EvN.not rfl) (tgN rfl q19 rfl (EvN.mv (Bo (!v20)) rfl) ?_))
      rcases bifL h with ⟨q21,h⟩ | ⟨q21,h⟩
      ·refine tgS rfl q21 (tgS rfl q21 (tgS rfl q21 (tgS rfl q21 (tgS rfl q21 (tgS rfl q21 (tgS rfl q21 (tgN rfl q19 rfl (EvN.pickT rfl q21 (Bo true) rfl) ?_)))))))
       refine tN rfl (EvN.pickT rfl q19 (Bo true) rfl) (tN rfl (EvN.asg (Bo true) rfl) (TG.nil ?_))
       obtain rfl := osi h
       exact ⟨(),trivial,cutW rfl (wkC rfl wkN)⟩
      ·refine tgN rfl q21 rfl (EvN.mv (eL cI (s.x.Order.getD (((s.p.getD t.toNat default).getD (Z3i.get pc t).toNat default).Loc).toNat default)) rfl) (tgN rfl q21 rfl (EvN.mv (I v9) rfl) ?_)
       obtain ⟨g22,h⟩ := gdW h
       refine tgN rfl q21 rfl (EvN.add rfl rfl g22) ?_
       obtain ⟨g23,h⟩ := gdD h
       refine tgN rfl q21 rfl (EvN.ixL sl23 rfl rfl g23 (fun _ => rfl)) (tgN rfl q21 rfl (EvN.loadfp (I ((s.x.Order.getD (((s.p.getD t.toNat default).getD (Z3i.get pc t).toNat default).Loc).toNat default).getD (v9 + (1 : Int)).toNat default)) ty3 rfl rfl) (tgN rfl q21 rfl (EvN.mv (I (d0.getD (Z3i.get pc t).toNat default)) rfl) (tgN rfl q21 rfl (EvN.ieq rfl rfl) (tgN rfl q19 rfl (EvN.pickF rfl q21 (Bo (((s.x.Order.getD (((s.p.getD t.toNat default).getD (Z3i.get pc t).toNat default).Loc).toNat default).getD (v9 + (1 : Int)).toNat default) == (d0.getD (Z3i.get pc t).toNat default))) rfl) (tN rfl (EvN.pickT rfl q19 (Bo (((s.x.Order.getD (((s.p.getD t.toNat default).getD (Z3i.get pc t).toNat default).Loc).toNat default).getD (v9 + (1 : Int)).toNat default) == (d0.getD (Z3i.get pc t).toNat default))) rfl) (tN rfl (EvN.asg (Bo (((s.x.Order.getD (((s.p.getD t.toNat default).getD (Z3i.get pc t).toNat default).Loc).toNat default).getD (v9 + (1 : Int)).toNat default) == (d0.getD (Z3i.get pc t).toNat default))) rfl) (TG.nil ?_)))))))
       obtain rfl := osi h
       exact ⟨(),trivial,cutW rfl (wkC rfl wkN)⟩
     ·refine tgS rfl q19 (tgS rfl q19 (tgS rfl q19 (tgS rfl q19 (tgU rfl (tgU rfl (tgU rfl (tgU rfl ?_)))))))
      refine tgU rfl (tgU rfl (tgU rfl (tgS rfl q19 (tN rfl (EvN.pickF rfl q19 (Bo false) rfl) (tN rfl (EvN.asg (Bo false) rfl) (TG.nil ?_))))))
      obtain rfl := osi h
      exact ⟨(),trivial,cutW rfl (wkC rfl wkN)⟩
theorem F_impl_tracer_from_PN : ∀ (nf : Nat) (s : ZTr) (pc : Z3i) (ver0 : Nat) (ver1 : Nat) {q : ZTr × Bool} (h : F_impl_tracer_from_N nf s pc = some q),BCall Try.prog 115 [.hp 0 ver0 6 0 0,.agg (Z3i.c pc)] [some ⟨ver0,6,125,[[eL (cL ZIn.c) s.p,eL cI s.x.From,eL (cL cI) s.x.Order,eL (cL cI) s.number,hS false 1 ver1 1 s.schedule.length,.mp 2 4]]⟩,bE false ver1 1 3 (s.schedule.map cI),(some (mB 3 1 kI3 cB s.failed))] (OutV (Bo q.2) fun ver => [some ⟨ver0,6,125,[[eL (cL ZIn.c) q.1.p,eL cI q.1.x.From,eL (cL cI) q.1.x.Order,eL (cL cI) q.1.number,hS false 1 ver 1 q.1.schedule.length,.mp 2 4]]⟩,bE false ver 1 3 (q.1.schedule.map cI),(some (mB 3 1 kI3 cB q.1.failed))]) := by
 intro nf
 induction nf with
 | zero => intros; rename_i h; cases h
 | succ nf ih =>
  intro s pc ver0 ver1 q h
  replace h : F_impl_tracer_from_B (F_impl_tracer_from_N nf) s pc = some q := h
  refine BCall.mkS Try.func115 rfl (by kernel_rfl) rfl (by kernel_rfl) (e0:=envOf [(0,.hp 0 ver0 6 0 0),(1,.agg (Z3i.c pc))]) (wkC rfl (wkC rfl wkN)) (T.seq (T.region (oN (EvN.bxF [I pc.x0,I pc.x1,I pc.x2] rfl rfl rfl) (oN (EvN.asg (Bo false) rfl) (TO.nil (T.seq (T.seq ?_)))))))
  refine T.drawF (fun i => [([],false),([],false),([],false),([0],false),([],false),([2],false)].getD i ([],false)) (by kernel_rfl) (by kernel_rfl) (fN rfl (EvN.mv (.hp 0 ver0 6 0 0) rfl) (fN rfl (EvN.nilhp rfl) (fN rfl (EvN.fahp Try.underlying125 rfl (by kernel_rfl) rfl) (fR [0] rfl (fun G hG => EvA.loadhp (.mp 2 4) ty123 rfl (hG.a0 rfl) rfl rfl rfl rfl) (fN rfl (EvN.loadfp (.agg (Z3i.c pc)) ty127 rfl rfl) (fR [2] rfl (fun G hG => EvA.lookB (l:=s.failed) km123 Try.underlying123 (by kernel_rfl) (pc.x0,pc.x1,pc.x2) rfl rfl (hG.a0 rfl)) (TF.nil ?_)))))))
  refine T.cond rfl (fun q1 => ?_) (fun q1 => ?_)
  ·replace h := condT q1 h
   refine T.seq (T.clean (H0:=[some ⟨ver0,6,125,[[eL (cL ZIn.c) s.p,eL cI s.x.From,eL (cL cI) s.x.Order,eL (cL cI) s.number,hS false 1 ver1 1 s.schedule.length,.mp 2 4]]⟩,bE false ver1 1 3 (s.schedule.map cI),(some (mB 3 1 kI3 cB s.failed))]) (e0:=envOf []) rfl wkN (T.region (oN (EvN.asg (Bo false) rfl) (TO.nil (T.ret ?_)))))
   obtain rfl := osi h
   repeat (first|refine retS ?_|refine retB ?_)
   exact ⟨envOf [(4,Bo false)],[some ⟨ver0,6,125,[[eL (cL ZIn.c) s.p,eL cI s.x.From,eL (cL cI) s.x.Order,eL (cL cI) s.number,hS false 1 ver1 1 s.schedule.length,.mp 2 4]]⟩,bE false ver1 1 3 (s.schedule.map cI),(some (mB 3 1 kI3 cB s.failed))],cutW rfl (wkC rfl wkN),Fin.ret (vs:=[Bo false]) (.cons (.tmp rfl) .nil) ⟨ver1,rfl,rfl⟩⟩
  ·replace h := condF q1 h
   refine T.skip (T.seq (T.clean (H0:=[some ⟨ver0,6,125,[[eL (cL ZIn.c) s.p,eL cI s.x.From,eL (cL cI) s.x.Order,eL (cL cI) s.number,hS false 1 ver1 1 s.schedule.length,.mp 2 4]]⟩,bE false ver1 1 3 (s.schedule.map cI),(some (mB 3 1 kI3 cB s.failed))]) (e0:=envOf [(3,.fp (Z3i.c pc) 0),(0,.hp 0 ver0 6 0 0)]) rfl (wkC rfl (wkC rfl wkN)) (T.region (oN (EvN.asg (Bo true) rfl) (TO.nil ?_)))))
   obtain ⟨s2,h,ks2⟩ := bindL h
   refine T.joinF (G:=Unit) (fun gh => True) (fun gh => [(5,Bo s2),(3,.fp (Z3i.c pc) 0),(0,.hp 0 ver0 6 0 0)]) (fun gh => [some ⟨ver0,6,125,[[eL (cL ZIn.c) s.p,eL cI s.x.From,eL (cL cI) s.x.Order,eL (cL cI) s.number,hS false 1 ver1 1 s.schedule.length,.mp 2 4]]⟩,bE false ver1 1 3 (s.schedule.map cI),(some (mB 3 1 kI3 cB s.failed))]) (fun gh hg => ?_) ?_
   ·clear h
    have h := ks2
    clear ks2
    refine T.seq (T.seq (T.region (oN (EvN.mv (Bo s2) rfl) (TO.nil ?_))))
    refine T.cond rfl (fun q13 => ?_) (fun q13 => ?_)
    ·replace h := condT q13 h
     refine T.seq (T.region (oN (EvN.asg (Bo true) rfl) (TO.nil (T.ret ?_))))
     obtain rfl := osi h
     repeat (first|refine retS ?_|refine retB ?_)
     exact ⟨envOf [(4,Bo true)],[some ⟨ver0,6,125,[[eL (cL ZIn.c) s.p,eL cI s.x.From,eL (cL cI) s.x.Order,eL (cL cI) s.number,hS false 1 ver1 1 s.schedule.length,.mp 2 4]]⟩,bE false ver1 1 3 (s.schedule.map cI),(some (mB 3 1 kI3 cB s.failed))],cutW rfl (wkC rfl wkN),Fin.ret (vs:=[Bo true]) (.cons (.tmp rfl) .nil) ⟨ver1,rfl,rfl⟩⟩
    ·replace h := condF q13 h
     refine T.skip ?_
     obtain ⟨Ks14,es14,ws14,h,ks14⟩ := sumL h
     refine T.join (S:=(List (List ZIn)) × (List Int) × (List (List Int)) × (List (List Int)) × (List Int) × (List ((Int × Int × Int) × Bool))) (G:=Nat) (fun s14 => Ks14 s14 = some q) (fun s14 gh => True) (fun s14 gh => [(3,.fp (Z3i.c pc) 0),(0,.hp 0 ver0 6 0 0)]) (fun s14 gh => [some ⟨ver0,6,125,[[eL (cL ZIn.c) s14.1,eL cI s14.2.1,eL (cL cI) s14.2.2.1,eL (cL cI) s14.2.2.2.1,hS false 1 gh 1 s14.2.2.2.2.1.length,.mp 2 4]]⟩,bE false gh 1 3 (s14.2.2.2.2.1.map cI),(some (mB 3 1 kI3 cB s14.2.2.2.2.2))]) (fun s14 u35 h hg => ?_) ?_
     ·clear ks14
      subst es14
      refine T.seq (T.drawF (fun i => [([],false),([],false),([],false),([0],false),([],false),([2],true)].getD i ([],false)) (by kernel_rfl) (by kernel_rfl) (fN rfl (EvN.mv (.hp 0 ver0 6 0 0) rfl) (fN rfl (EvN.nilhp rfl) (fN rfl (EvN.fahp Try.underlying125 rfl (by kernel_rfl) rfl) (fR [0] rfl (fun G hG => EvA.loadhp (.mp 2 4) ty123 rfl (hG.a0 rfl) rfl rfl rfl rfl) (fN rfl (EvN.loadfp (.agg (Z3i.c pc)) ty127 rfl rfl) (fV 2 [] rfl rfl (fun G hG => EvA.msetB (l:=s14.2.2.2.2.2) km123 Try.underlying123 (pc.x0,pc.x1,pc.x2) true rfl rfl rfl (hG.a0 rfl)) ?_)))))))
      refine TF.nil (T.seq (T.clean (H0:=[some ⟨ver0,6,125,[[eL (cL ZIn.c) s14.1,eL cI s14.2.1,eL (cL cI) s14.2.2.1,eL (cL cI) s14.2.2.2.1,hS false 1 u35 1 s14.2.2.2.2.1.length,.mp 2 4]]⟩,bE false u35 1 3 (s14.2.2.2.2.1.map cI),(some (mB 3 1 kI3 cB (mput s14.2.2.2.2.2 (pc.x0,pc.x1,pc.x2) true)))]) (e0:=envOf []) rfl wkN (T.region (oN (EvN.asg (Bo false) rfl) (TO.nil (T.ret ?_))))))
      obtain rfl := osi h
      repeat (first|refine retS ?_|refine retB ?_)
      exact ⟨envOf [(4,Bo false)],[some ⟨ver0,6,125,[[eL (cL ZIn.c) s14.1,eL cI s14.2.1,eL (cL cI) s14.2.2.1,eL (cL cI) s14.2.2.2.1,hS false 1 u35 1 s14.2.2.2.2.1.length,.mp 2 4]]⟩,bE false u35 1 3 (s14.2.2.2.2.1.map cI),(some (mB 3 1 kI3 cB (mput s14.2.2.2.2.2 (pc.x0,pc.x1,pc.x2) true)))],cutW rfl (wkC rfl wkN),Fin.ret (vs:=[Bo false]) (.cons (.tmp rfl) .nil) ⟨u35,rfl,rfl⟩⟩
     ·refine T.seq (T.region (oN (EvN.mv (.hp 0 ver0 6 0 0) rfl) (oN (EvN.nilhp rfl) (oN (EvN.fahp Try.underlying125 rfl (by kernel_rfl) rfl) (oA (EvA.loadhp (eL (cL ZIn.c) s.p) ty27 rfl rfl rfl rfl rfl rfl) (oN (EvN.lenL sl27 rfl) (oN (EvN.mv (I (0 : Int)) rfl) ?_)))))))
      refine TO.nil (T.block ?_)
      refine T.loop (S:=(List (List ZIn)) × (List Int) × (List (List Int)) × (List (List Int)) × (List Int) × (List ((Int × Int × Int) × Bool)) × Int) (G:=Nat) (F_impl_tracer_from_L19 (F_impl_tracer_from_N nf) s pc) (fun s18 gh => True) (fun s18 gh => [(45,I s18.2.2.2.2.2.2),(44,I (s.p.length : Int)),(3,.fp (Z3i.c pc) 0),(0,.hp 0 ver0 6 0 0)]) (fun s18 gh => [some ⟨ver0,6,125,[[eL (cL ZIn.c) s18.1,eL cI s18.2.1,eL (cL cI) s18.2.2.1,eL (cL cI) s18.2.2.2.1,hS false 1 gh 1 s18.2.2.2.2.1.length,.mp 2 4]]⟩,bE false gh 1 3 (s18.2.2.2.2.1.map cI),(some (mB 3 1 kI3 cB s18.2.2.2.2.2.1))]) (s0:=(s.p,s.x.From,s.x.Order,s.number,s.schedule,s.failed,(0 : Int))) ver1 h trivial (cutW rfl (wkC rfl (wkC rfl (wkC rfl (wkC rfl wkN))))) (fun s18 u20 ws18 h hg => ?_)
      let d2 := ((Z3i.get pc s18.2.2.2.2.2.2) + (1 : Int))
      let d0 := (Z3i.set pc s18.2.2.2.2.2.2 d2)
      refine T.seq (T.region (oN (EvN.ilt rfl rfl) (TO.nil (T.seq ?_))))
      refine T.cond rfl (fun q21 => ?_) (fun q21 => ?_)
      ·replace h := condT q21 h
       refine T.skip ?_
       obtain ⟨Ks22,es22,ws22,h,ks22⟩ := sumL h
       refine T.join (S:=(List (List ZIn)) × (List Int) × (List (List Int)) × (List (List Int)) × (List Int) × (List ((Int × Int × Int) × Bool))) (G:=Nat) (fun s22 => Ks22 s22 = some ws18) (fun s22 gh => True) (fun s22 gh => [(45,I s18.2.2.2.2.2.2),(44,I (s.p.length : Int)),(3,.fp (Z3i.c pc) 0),(0,.hp 0 ver0 6 0 0)]) (fun s22 gh => [some ⟨ver0,6,125,[[eL (cL ZIn.c) s22.1,eL cI s22.2.1,eL (cL cI) s22.2.2.1,eL (cL cI) s22.2.2.2.1,hS false 1 gh 1 s22.2.2.2.2.1.length,.mp 2 4]]⟩,bE false gh 1 3 (s22.2.2.2.2.1.map cI),(some (mB 3 1 kI3 cB s22.2.2.2.2.2))]) (fun s22 u33 h hg => ?_) ?_
       ·clear ks22
        subst es22
        refine T.region ?_
        obtain ⟨g34,h⟩ := gdW h
        refine oN (EvN.add rfl rfl g34) (oN (EvN.mv (I (s18.2.2.2.2.2.2 + (1 : Int))) rfl) (TO.nil ?_))
        obtain rfl := osi h
        exact ⟨(s22.1,s22.2.1,s22.2.2.1,s22.2.2.2.1,s22.2.2.2.2.1,s22.2.2.2.2.2,(s18.2.2.2.2.2.2 + (1 : Int))),u33,rfl,trivial,cutW rfl (wkC rfl (wkC rfl (wkC rfl (wkC rfl wkN))))⟩
       ·refine T.block (T.seq (T.region (oN (EvN.mv (I s18.2.2.2.2.2.2) rfl) (oN (EvN.asg (I s18.2.2.2.2.2.2) rfl) (TO.nil (T.seq (T.seq ?_)))))))
        refine T.region (oN (EvN.mv (.hp 0 ver0 6 0 0) rfl) (oN (EvN.loadfp (.agg (Z3i.c pc)) ty127 rfl rfl) (oN (EvN.mv (I s18.2.2.2.2.2.2) rfl) ?_)))
        obtain ⟨v23,cv23,h⟩ := bindL h
        refine oA (EvA.callTP rfl rfl (F_impl_tracer_can_P (⟨s18.1,(⟨s18.2.1,s18.2.2.1⟩ : ZEx),s18.2.2.2.1⟩ : ZTv) pc s18.2.2.2.2.2.2 cv23) (.cons (.hp (ver:=ver0) (s:=6) (ty:=125) (r:=[eL (cL ZIn.c) s18.1,eL cI s18.2.1,eL (cL cI) s18.2.2.1,eL (cL cI) s18.2.2.2.1]) (x:=[hS false 1 u20 1 s18.2.2.2.2.1.length,.mp 2 4]) rfl (.cons (.of_isF 9 _ rfl) (.cons (.of_isF 9 _ rfl) (.cons (.of_isF 9 _ rfl) (.cons (.of_isF 9 _ rfl) .nil))))) (.cons (.fz (.of_isF 9 _ rfl)) (.cons (.fz (.of_isF 9 _ rfl)) .nil))) rfl) (oN (EvN.not rfl) (TO.nil ?_))
        refine T.cond rfl (fun q24 => ?_) (fun q24 => ?_)
        ·replace h := condT q24 h
         refine T.exit ?_
         obtain rfl := osi h
         exact ⟨(s18.1,s18.2.1,s18.2.2.1,s18.2.2.2.1,s18.2.2.2.2.1,s18.2.2.2.2.2.1),u20,ks22,trivial,cutW rfl (wkC rfl (wkC rfl (wkC rfl (wkC rfl wkN))))⟩
        ·replace h := condF q24 h
         refine T.skip (T.seq (T.clean (H0:=[some ⟨ver0,6,125,[[eL (cL ZIn.c) s18.1,eL cI s18.2.1,eL (cL cI) s18.2.2.1,eL (cL cI) s18.2.2.2.1,hS false 1 u20 1 s18.2.2.2.2.1.length,.mp 2 4]]⟩,bE false u20 1 3 (s18.2.2.2.2.1.map cI),(some (mB 3 1 kI3 cB s18.2.2.2.2.2.1))]) (e0:=envOf [(7,I s18.2.2.2.2.2.2),(45,I s18.2.2.2.2.2.2),(44,I (s.p.length : Int)),(3,.fp (Z3i.c pc) 0),(0,.hp 0 ver0 6 0 0)]) rfl (wkC rfl (wkC rfl (wkC rfl (wkC rfl (wkC rfl wkN))))) (T.region (oN (EvN.loadfp (.agg (Z3i.c pc)) ty127 rfl rfl) (oA (EvA.al zs127 rfl rfl) (oV (EvA.st (cs:=[I pc.x0,I pc.x1,I pc.x2]) ⟨0,3,127,[[I pc.x0,I pc.x1,I pc.x2]]⟩ ty127 rfl rfl rfl rfl rfl rfl rfl rfl rfl) (TO.nil ?_)))))))
         refine T.seq (T.region (oN (EvN.mv (I s18.2.2.2.2.2.2) rfl) ?_))
         obtain ⟨g25,h⟩ := gdD h
         refine oN (EvN.ixahp Try.underlying127 ty3 rfl rfl g25) (oA (EvA.loadhp (I (Z3i.get pc s18.2.2.2.2.2.2)) ty3 rfl rfl rfl rfl rfl (sel3 (P:=fun (z0 : Int) => partV false 1 [I pc.x0,I pc.x1,I pc.x2] (0 + z0.toNat * 1) = some (I (Z3i.get pc z0))) g25 rfl rfl rfl)) ?_)
         obtain ⟨g26,h⟩ := gdW h
         refine oN (EvN.add rfl rfl g26) (oN (EvN.ixahp Try.underlying127 ty3 rfl rfl g25) (oV (EvA.st (cs:=[I d2]) ⟨0,3,127,[[I (d0.x0),I (d0.x1),I (d0.x2)]]⟩ ty3 rfl rfl rfl rfl rfl rfl rfl (sel3 (P:=fun (z0 : Int) => Nat.ble ((0 + z0.toNat * 1) + 1) 3 = true) g25 rfl rfl rfl) (sel3 (P:=fun (z0 : Int) => (ABlk.mk 0 3 127 [splice [I pc.x0,I pc.x1,I pc.x2] (0 + z0.toNat * 1) [I d2]]) = ABlk.mk 0 3 127 [[I ((Z3i.set pc z0 d2).x0),I ((Z3i.set pc z0 d2).x1),I ((Z3i.set pc z0 d2).x2)]]) g25 rfl rfl rfl)) (TO.nil (T.seq (T.clean (H0:=[some ⟨ver0,6,125,[[eL (cL ZIn.c) s18.1,eL cI s18.2.1,eL (cL cI) s18.2.2.1,eL (cL cI) s18.2.2.2.1,hS false 1 u20 1 s18.2.2.2.2.1.length,.mp 2 4]]⟩,bE false u20 1 3 (s18.2.2.2.2.1.map cI),(some (mB 3 1 kI3 cB s18.2.2.2.2.2.1)),some ⟨0,3,127,[[I (d0.x0),I (d0.x1),I (d0.x2)]]⟩]) (e0:=envOf [(8,.hp 3 0 3 0 0),(7,I s18.2.2.2.2.2.2),(45,I s18.2.2.2.2.2.2),(44,I (s.p.length : Int)),(3,.fp (Z3i.c pc) 0),(0,.hp 0 ver0 6 0 0)]) rfl (wkC rfl (wkC rfl (wkC rfl (wkC rfl (wkC rfl (wkC rfl wkN)))))) (T.region (oN (EvN.mv (.hp 0 ver0 6 0 0) rfl) ?_)))))))
         refine oN (EvN.mv (.hp 0 ver0 6 0 0) rfl) (oN (EvN.nilhp rfl) (oN (EvN.fahp Try.underlying125 rfl (by kernel_rfl) rfl) (oA (EvA.loadhp (hS false 1 u20 1 s18.2.2.2.2.1.length) ty23 rfl rfl rfl rfl rfl rfl) (oN (EvN.mv (I s18.2.2.2.2.2.2) rfl) (oN (EvN.mkF (c:=cI) ([s18.2.2.2.2.2.2] : List Int) [[I s18.2.2.2.2.2.2]] sl23 rfl rfl rfl (fun _ => rfl) (fun _ => rfl) rfl) ?_)))))
         obtain ⟨g27,h⟩ := gdL h
         refine oA (EvA.app1 (g:=false) (l:=s18.2.2.2.2.1) s18.2.2.2.2.2.2 sl23 (by kernel_rfl) rfl rfl rfl nofun (SrcOk.fz (l:=([s18.2.2.2.2.2.2] : List Int)) rfl (fun _ => rfl)) g27) (oN (EvN.nilhp rfl) (oN (EvN.fahp Try.underlying125 rfl (by kernel_rfl) rfl) (oV (EvA.st (cs:=[hS false 1 (u20 + 1) 1 ((s18.2.2.2.2.1 ++ [s18.2.2.2.2.2.2]).length)]) ⟨ver0,6,125,[[eL (cL ZIn.c) s18.1,eL cI s18.2.1,eL (cL cI) s18.2.2.1,eL (cL cI) s18.2.2.2.1,hS false 1 (u20 + 1) 1 ((s18.2.2.2.2.1 ++ [s18.2.2.2.2.2.2]).length),.mp 2 4]]⟩ ty23 rfl rfl rfl rfl rfl rfl rfl rfl rfl) (TO.nil (T.seq (T.seq (T.clean (H0:=[some ⟨ver0,6,125,[[eL (cL ZIn.c) s18.1,eL cI s18.2.1,eL (cL cI) s18.2.2.1,eL (cL cI) s18.2.2.2.1,hS false 1 (u20 + 1) 1 ((s18.2.2.2.2.1 ++ [s18.2.2.2.2.2.2]).length),.mp 2 4]]⟩,bE false (u20 + 1) 1 3 ((s18.2.2.2.2.1 ++ [s18.2.2.2.2.2.2]).map cI),(some (mB 3 1 kI3 cB s18.2.2.2.2.2.1)),some ⟨0,3,127,[[I (d0.x0),I (d0.x1),I (d0.x2)]]⟩]) (e0:=envOf [(8,.hp 3 0 3 0 0),(45,I s18.2.2.2.2.2.2),(44,I (s.p.length : Int)),(3,.fp (Z3i.c pc) 0),(0,.hp 0 ver0 6 0 0)]) rfl (wkC rfl (wkC rfl (wkC rfl (wkC rfl (wkC rfl wkN))))) ?_)))))))
         refine T.region (oN (EvN.mv (.hp 0 ver0 6 0 0) rfl) (oA (EvA.loadhp (.agg [I (d0.x0),I (d0.x1),I (d0.x2)]) ty127 rfl rfl rfl rfl rfl rfl) ?_))
         obtain ⟨v28,cv28,h⟩ := bindL h
         let d1 := ((v28.1.schedule.length : Int) - (1 : Int))
         refine oW rfl rfl rfl (BCall.outAt (ih (⟨s18.1,(⟨s18.2.1,s18.2.2.1⟩ : ZEx),s18.2.2.2.1,(s18.2.2.2.2.1 ++ [s18.2.2.2.2.2.2]),s18.2.2.2.2.2.1⟩ : ZTr) d0 ver0 (u20 + 1) cv28) [0,1,2] (by decide) (.cons rfl (.rowL (.cons (ren_isF 9 _ rfl) (.cons (ren_isF 9 _ rfl) (.cons (ren_isF 9 _ rfl) (.cons (ren_isF 9 _ rfl) (.cons (ren_hSg rfl) (.cons (.mp rfl) .nil))))))) (.cons rfl (RenK.bE' (fun _ => rfl)) (.cons rfl (RenK.mB _ (fun _ => rfl)) .nil))) (.cons (.hp rfl) (.cons (ren_isF 9 _ rfl) .nil)) (G:=fun v_ => [some ⟨ver0,6,125,[[eL (cL ZIn.c) v28.1.p,eL cI v28.1.x.From,eL (cL cI) v28.1.x.Order,eL (cL cI) v28.1.number,hS false 1 v_ 1 v28.1.schedule.length,.mp 2 4]]⟩,bE false v_ 1 3 (v28.1.schedule.map cI),(some (mB 3 1 kI3 cB v28.1.failed))]) (G' := fun v_ => [some ⟨ver0,6,125,[[eL (cL ZIn.c) v28.1.p,eL cI v28.1.x.From,eL (cL cI) v28.1.x.Order,eL (cL cI) v28.1.number,hS false 1 v_ 1 v28.1.schedule.length,.mp 2 4]]⟩,bE false v_ 1 3 (v28.1.schedule.map cI),(some (mB 3 1 kI3 cB v28.1.failed)),some ⟨0,3,127,[[I (d0.x0),I (d0.x1),I (d0.x2)]]⟩]) 4 rfl (fun v_ => .some (.rowL (.cons (ren_isF 9 _ rfl) (.cons (ren_isF 9 _ rfl) (.cons (ren_isF 9 _ rfl) (.cons (ren_isF 9 _ rfl) (.cons (ren_hSg (.inl rfl)) (.cons (.mp (.inl rfl)) .nil))))))) (.some (RenK.bE' (fun _ => rfl)) (.some (RenK.mB _ (fun _ => rfl)) .nil))) (fun _ => rfl) (r:=Bo v28.2) (ren_isF 9 _ rfl) (fun _ => rfl)) (fun u29 => ?_)
         refine TO.nil ?_
         refine T.cond rfl (fun q30 => ?_) (fun q30 => ?_)
         ·replace h := condT q30 h
          refine T.seq (T.clean (H0:=[some ⟨ver0,6,125,[[eL (cL ZIn.c) v28.1.p,eL cI v28.1.x.From,eL (cL cI) v28.1.x.Order,eL (cL cI) v28.1.number,hS false 1 u29 1 v28.1.schedule.length,.mp 2 4]]⟩,bE false u29 1 3 (v28.1.schedule.map cI),(some (mB 3 1 kI3 cB v28.1.failed)),some ⟨0,3,127,[[I (d0.x0),I (d0.x1),I (d0.x2)]]⟩]) (e0:=envOf []) rfl wkN (T.region (oN (EvN.asg (Bo true) rfl) (TO.nil (T.ret ?_)))))
          obtain rfl := osi h
          replace h := congrArg some (show _ = _ from ks22)
          refine ⟨_,(osi h).symm,fun h => ?_⟩
          replace h := congrArg some h
          obtain rfl := osi h
          replace h := congrArg some (show _ = _ from ks14)
          obtain rfl := osi h
          repeat (first|refine retS ?_|refine retB ?_)
          exact ⟨envOf [(4,Bo true)],[some ⟨ver0,6,125,[[eL (cL ZIn.c) v28.1.p,eL cI v28.1.x.From,eL (cL cI) v28.1.x.Order,eL (cL cI) v28.1.number,hS false 1 u29 1 v28.1.schedule.length,.mp 2 4]]⟩,bE false u29 1 3 (v28.1.schedule.map cI),(some (mB 3 1 kI3 cB v28.1.failed))],cutS rfl (.cons (.row (.cons (.fz (.of_isF 9 _ rfl)) (.cons (.fz (.of_isF 9 _ rfl)) (.cons (.fz (.of_isF 9 _ rfl)) (.cons (.fz (.of_isF 9 _ rfl)) (.cons (.hS (g:=false) (b:=1) (ver:=u29) (s:=1) (n:=v28.1.schedule.length) rfl) (.cons (.mp (Nat.le_of_ble_eq_true rfl)) .nil))))))) (.cons (.list (g:=false) (ver:=u29) (l:=v28.1.schedule) (fun _ => rfl)) (.cons (.mp (fun _ => rfl)) .nil))) (stl_cons (.fz (.of_isF 9 _ rfl)) stl_nil),Fin.ret (vs:=[Bo true]) (.cons (.tmp rfl) .nil) ⟨u29,rfl,rfl⟩⟩
         ·replace h := condF q30 h
          refine T.skip (T.drawH (fun i => [([],false),([],false),([],false),([],false),([0],false),([],false),([],false),([],false),([0],false),([],false),([],false),([1],true),([],false),([],false),([0],true)].getD i ([],false)) (by kernel_rfl) (by kernel_rfl) (fN rfl (EvN.mv (.hp 0 ver0 6 0 0) rfl) (fN rfl (EvN.mv (.hp 0 ver0 6 0 0) rfl) (fN rfl (EvN.nilhp rfl) (fN rfl (EvN.fahp Try.underlying125 rfl (by kernel_rfl) rfl) (fR [0] rfl (fun G hG => EvA.loadhp (hS false 1 u29 1 v28.1.schedule.length) ty23 rfl (hG.a0 rfl) rfl rfl rfl rfl) (fN rfl (EvN.mv (.hp 0 ver0 6 0 0) rfl) ?_)))))))
          refine fN rfl (EvN.nilhp rfl) (fN rfl (EvN.fahp Try.underlying125 rfl (by kernel_rfl) rfl) (fR [0] rfl (fun G hG => EvA.loadhp (hS false 1 u29 1 v28.1.schedule.length) ty23 rfl (hG.a0 rfl) rfl rfl rfl rfl) (fN rfl (EvN.lenO (g:=false) sl23 rfl nofun) ?_)))
          obtain ⟨g31,h⟩ := gdW h
          refine fN rfl (EvN.sub rfl rfl g31) ?_
          obtain ⟨g32,h⟩ := gdD h
          refine fW 1 [] rfl rfl (fun G hG => EvA.cutO (l:=v28.1.schedule) (zl:=(0 : Int)) (zh:=d1) (EvN.slhs Try.underlying23 ty3 (l:=(0 : Int)) (h:=d1) rfl .no (.yes rfl) g32) (hG.a0 rfl) rfl g32) (fN rfl (EvN.nilhp rfl) (fN rfl (EvN.fahp Try.underlying125 rfl (by kernel_rfl) rfl) (fV 0 [] rfl rfl (fun G hG => EvA.st (cs:=[hS false 1 (u29 + 1) 1 (((v28.1.schedule.drop (0 : Int).toNat).take (d1.toNat - (0 : Int).toNat)).length)]) ⟨ver0,6,125,[[eL (cL ZIn.c) v28.1.p,eL cI v28.1.x.From,eL (cL cI) v28.1.x.Order,eL (cL cI) v28.1.number,hS false 1 (u29 + 1) 1 (((v28.1.schedule.drop (0 : Int).toNat).take (d1.toNat - (0 : Int).toNat)).length),.mp 2 4]]⟩ ty23 rfl rfl (hG.a0 rfl) rfl rfl rfl rfl rfl rfl) (TF.nil ?_))))
          obtain rfl := osi h
          exact ⟨(v28.1.p,v28.1.x.From,v28.1.x.Order,v28.1.number,((v28.1.schedule.drop (0 : Int).toNat).take (d1.toNat - (0 : Int).toNat)),v28.1.failed),u29 + 1,ks22,trivial,cutS rfl (.cons (.row (.cons (.fz (.of_isF 9 _ rfl)) (.cons (.fz (.of_isF 9 _ rfl)) (.cons (.fz (.of_isF 9 _ rfl)) (.cons (.fz (.of_isF 9 _ rfl)) (.cons (.hS (g:=false) (b:=1) (ver:=u29 + 1) (s:=1) (n:=((v28.1.schedule.drop (0 : Int).toNat).take (d1.toNat - (0 : Int).toNat)).length) rfl) (.cons (.mp (Nat.le_of_ble_eq_true rfl)) .nil))))))) (.cons (.list (g:=false) (ver:=u29 + 1) (l:=((v28.1.schedule.drop (0 : Int).toNat).take (d1.toNat - (0 : Int).toNat))) (fun _ => rfl)) (.cons (.mp (fun _ => rfl)) .nil))) (stl_cons (.fz (.of_isF 9 _ rfl)) (stl_cons (.fz (.of_isF 9 _ rfl)) (stl_cons (.fz (.of_isF 9 _ rfl)) (stl_cons (.hp (Nat.le_of_ble_eq_true rfl)) stl_nil))))⟩
      ·replace h := condF q21 h
       refine T.exit ?_
       refine ⟨_,(osi h).symm,fun h => ?_⟩
       replace h := congrArg some h
       obtain rfl := osi h
       exact ⟨(s18.1,s18.2.1,s18.2.2.1,s18.2.2.2.1,s18.2.2.2.2.1,s18.2.2.2.2.2.1),u20,ks14,trivial,cutW rfl (wkC rfl (wkC rfl wkN))⟩
   ·clear ks2
    refine T.seq (T.region (oN (EvN.mv (.hp 0 ver0 6 0 0) rfl) (oN (EvN.nilhp rfl) (oN (EvN.fahp Try.underlying125 rfl (by kernel_rfl) rfl) (oA (EvA.loadhp (eL (cL ZIn.c) s.p) ty27 rfl rfl rfl rfl rfl rfl) (oN (EvN.lenL sl27 rfl) (oN (EvN.mv (I (0 : Int)) rfl) ?_)))))))
    refine TO.nil (T.block ?_)
    refine T.loop (S:=Int × Bool) (G:=Unit) (F_impl_tracer_from_L6 s pc) (fun s5 gh => True) (fun s5 gh => [(20,I s5.1),(19,I (s.p.length : Int)),(5,Bo s5.2),(3,.fp (Z3i.c pc) 0),(0,.hp 0 ver0 6 0 0)]) (fun s5 gh => [some ⟨ver0,6,125,[[eL (cL ZIn.c) s.p,eL cI s.x.From,eL (cL cI) s.x.Order,eL (cL cI) s.number,hS false 1 ver1 1 s.schedule.length,.mp 2 4]]⟩,bE false ver1 1 3 (s.schedule.map cI),(some (mB 3 1 kI3 cB s.failed))]) (s0:=((0 : Int),true)) () h trivial (cutW rfl (wkC rfl (wkC rfl (wkC rfl (wkC rfl (wkC rfl wkN)))))) (fun s5 gh ws5 h hg => ?_)
    refine T.seq (T.region (oN (EvN.ilt rfl rfl) (TO.nil (T.seq ?_))))
    refine T.cond rfl (fun q7 => ?_) (fun q7 => ?_)
    ·replace h := condT q7 h
     refine T.skip ?_
     obtain ⟨s8,h,ks8⟩ := bindL h
     refine T.joinF (G:=Unit) (fun gh => True) (fun gh => [(5,Bo s8),(20,I s5.1),(19,I (s.p.length : Int)),(3,.fp (Z3i.c pc) 0),(0,.hp 0 ver0 6 0 0)]) (fun gh => [some ⟨ver0,6,125,[[eL (cL ZIn.c) s.p,eL cI s.x.From,eL (cL cI) s.x.Order,eL (cL cI) s.number,hS false 1 ver1 1 s.schedule.length,.mp 2 4]]⟩,bE false ver1 1 3 (s.schedule.map cI),(some (mB 3 1 kI3 cB s.failed))]) (fun gh hg => ?_) ?_
     ·clear h
      have h := ks8
      clear ks8
      refine T.region ?_
      obtain ⟨g12,h⟩ := gdW h
      refine oN (EvN.add rfl rfl g12) (oN (EvN.mv (I (s5.1 + (1 : Int))) rfl) (TO.nil ?_))
      obtain rfl := osi h
      exact ⟨((s5.1 + (1 : Int)),s8),(),rfl,trivial,cutW rfl (wkC rfl (wkC rfl (wkC rfl (wkC rfl (wkC rfl wkN)))))⟩
     ·clear ks8
      refine T.block (T.seq (T.region (oN (EvN.mv (I s5.1) rfl) (oN (EvN.asg (I s5.1) rfl) (TO.nil (T.drawG (fun i => [([],false),([],false),([],false),([],false),([],false),([],false),([],false),([],false),([0],false),([],false),([],false),([],false),([],false),([],false),([],false),([],false)].getD i ([],false)) (by kernel_rfl) (by kernel_rfl) (tN rfl (EvN.mv (Bo s5.2) rfl) ?_)))))))
      refine tN rfl (EvN.mv (Bo s5.2) rfl) ?_
      rcases bifL h with ⟨q9,h⟩ | ⟨q9,h⟩
      ·refine tgN rfl q9 rfl (EvN.mv (I s5.1) rfl) ?_
       obtain ⟨g10,h⟩ := gdD h
       refine tgN rfl q9 rfl (EvN.ixafp Try.underlying127 ty3 rfl rfl g10) (tgN rfl q9 rfl (EvN.loadfp (I (Z3i.get pc s5.1)) ty3 rfl (sel3 (P:=fun (z0 : Int) => partV false 1 (Z3i.c pc) (0 + z0.toNat * 1) = some (I (Z3i.get pc z0))) g10 rfl rfl rfl)) (tgN rfl q9 rfl (EvN.mv (.hp 0 ver0 6 0 0) rfl) (tgN rfl q9 rfl (EvN.nilhp rfl) (tgN rfl q9 rfl (EvN.fahp Try.underlying125 rfl (by kernel_rfl) rfl) (tgR rfl q9 [0] rfl (fun G hG => EvA.loadhp (eL (cL ZIn.c) s.p) ty27 rfl (hG.a0 rfl) rfl rfl rfl rfl) (tgN rfl q9 rfl (EvN.mv (I s5.1) rfl) ?_))))))
       obtain ⟨g11,h⟩ := gdD h
       refine tgN rfl q9 rfl (EvN.ixL sl27 rfl rfl g11 (fun _ => rfl)) (tgN rfl q9 rfl (EvN.loadfp (eL ZIn.c (s.p.getD s5.1.toNat default)) ty57 rfl rfl) (tgN rfl q9 rfl (EvN.lenL sl57 rfl) (tgN rfl q9 rfl (EvN.ieq rfl rfl) (tN rfl (EvN.pickT rfl q9 (Bo ((Z3i.get pc s5.1) == ((s.p.getD s5.1.toNat default).length : Int))) rfl) (tN rfl (EvN.asg (Bo ((Z3i.get pc s5.1) == ((s.p.getD s5.1.toNat default).length : Int))) rfl) (TG.nil ?_))))))
       obtain rfl := osi h
       exact ⟨(),trivial,cutW rfl (wkC rfl (wkC rfl (wkC rfl (wkC rfl (wkC rfl wkN)))))⟩
      ·refine tgS rfl q9 (tgS rfl q9 (tgS rfl q9 (tgS rfl q9 (tgS rfl q9 (tgS rfl q9 (tgS rfl q9 (tgS rfl q9 ?_)))))))
       refine tgS rfl q9 (tgS rfl q9 (tgS rfl q9 (tgS rfl q9 (tN rfl (EvN.pickF rfl q9 (Bo false) rfl) (tN rfl (EvN.asg (Bo false) rfl) (TG.nil ?_))))))
       obtain rfl := osi h
       exact ⟨(),trivial,cutW rfl (wkC rfl (wkC rfl (wkC rfl (wkC rfl (wkC rfl wkN)))))⟩
    ·replace h := condF q7 h
     refine T.exit ?_
     refine ⟨_,(osi h).symm,fun h => ?_⟩
     replace h := congrArg some h
     obtain rfl := osi h
     exact ⟨(),trivial,cutW rfl (wkC rfl (wkC rfl (wkC rfl wkN)))⟩
theorem F_impl_tracer_from_P (s : ZTr) (pc : Z3i) (ver0 : Nat) (ver1 : Nat) {q : ZTr × Bool} (h : F_impl_tracer_from s pc = some q) : BCall Try.prog 115 [.hp 0 ver0 6 0 0,.agg (Z3i.c pc)] [some ⟨ver0,6,125,[[eL (cL ZIn.c) s.p,eL cI s.x.From,eL (cL cI) s.x.Order,eL (cL cI) s.number,hS false 1 ver1 1 s.schedule.length,.mp 2 4]]⟩,bE false ver1 1 3 (s.schedule.map cI),(some (mB 3 1 kI3 cB s.failed))] (OutV (Bo q.2) fun ver => [some ⟨ver0,6,125,[[eL (cL ZIn.c) q.1.p,eL cI q.1.x.From,eL (cL cI) q.1.x.Order,eL (cL cI) q.1.number,hS false 1 ver 1 q.1.schedule.length,.mp 2 4]]⟩,bE false ver 1 3 (q.1.schedule.map cI),(some (mB 3 1 kI3 cB q.1.failed))]) := by
 obtain ⟨nf,h⟩ := fixC_is h
 exact F_impl_tracer_from_PN nf s pc ver0 ver1 h
theorem F_impl_scheduleOf_OP (p : List (List ZIn)) (x : ZEx) {q : (List Int) × Bool} (h : F_impl_scheduleOf p x = some q) : BCall Try.prog 64 [eL (cL ZIn.c) p,.agg (ZEx.c x)] [] (OwnR 1 3 (fun x => .tup [x,Bo q.2]) q.1.length (q.1.map cI) 0 []) := by
 refine BCall.mkO Try.func64 rfl (by kernel_rfl) rfl (by kernel_rfl) (e0:=envOf [(0,eL (cL ZIn.c) p),(1,.agg (ZEx.c x))]) (wkC rfl (wkC rfl wkN)) (ren_t1 rfl) (rowsM (fun _ => rfl)) (T.seq (T.region (oN (EvN.bxF [eL cI x.From,eL (cL cI) x.Order] rfl rfl rfl) (oN (EvN.asg (.nil) rfl) (oN (EvN.asg (Bo false) rfl) (TO.nil (T.seq ?_)))))))
 refine T.reserve (T.reserve (T.reserve (T.drawF (fun i => [([],false),([],false),([],false),([],false),([0],true),([1],true),([],false),([2],true),([],false)].getD i ([],false)) (by kernel_rfl) (by kernel_rfl) (fN rfl (EvN.mv (eL (cL ZIn.c) p) rfl) (fN rfl (EvN.loadfp (.agg (ZEx.c x)) ty43 rfl rfl) (fN rfl (EvN.mv (eL (cL ZIn.c) p) rfl) ?_))))))
 obtain ⟨v1,cv1,h⟩ := bindL h
 refine fN rfl (EvN.call rfl rfl rfl (F_impl_numbers_P p cv1) rfl) (fW 0 [] rfl rfl (fun G hG => EvA.mkOR (c:=cI) 0 ([] : List Int) [] sl23 rfl rfl rfl (fun _ => rfl) (fun _ => rfl) rfl (hG.a0 rfl)) (fW 1 [] rfl rfl (fun G hG => EvA.mmkA (kn:=3) kI3 1 (hG.a0 rfl)) (fN rfl (EvN.build [eL (cL ZIn.c) p,eL cI x.From,eL (cL cI) x.Order,eL (cL cI) v1,hS false 0 0 1 (([] : List Int).length),.mp 1 4] Try.underlying125 zs125 fs125 rfl rfl) (fW 2 [] rfl rfl (fun G hG => EvA.bxA (cs:=[eL (cL ZIn.c) p,eL cI x.From,eL (cL cI) x.Order,eL (cL cI) v1,hS false 0 0 1 (([] : List Int).length),.mp 1 4]) 2 rfl rfl (hG.a0 rfl)) (fN rfl (EvN.asg (.hp 2 0 6 0 0) rfl) (TF.nil (T.seq ?_)))))))
 refine T.seq (T.clean (H0:=[bE false 0 1 3 (([] : List Int).map cI),(some (mB 3 1 kI3 cB ([] : List ((Int × Int × Int) × Bool)))),some ⟨0,6,125,[[eL (cL ZIn.c) p,eL cI x.From,eL (cL cI) x.Order,eL (cL cI) v1,hS false 0 0 1 (([] : List Int).length),.mp 1 4]]⟩]) (e0:=envOf [(6,.hp 2 0 6 0 0)]) rfl (wkC rfl wkN) (T.region (oN (EvN.mv (.hp 2 0 6 0 0) rfl) (oN (EvN.buildZ Try.underlying127 zs127 ty3) ?_))))
 obtain ⟨v2,cv2,h⟩ := bindL h
 refine oW rfl rfl rfl (BCall.outAt (F_impl_tracer_from_P (⟨p,(⟨x.From,x.Order⟩ : ZEx),v1,([] : List Int),([] : List ((Int × Int × Int) × Bool))⟩ : ZTr) (⟨(0 : Int),(0 : Int),(0 : Int)⟩ : Z3i) 0 0 cv2) [2,0,1] (by decide) (.cons rfl (.rowL (.cons (ren_isF 9 _ rfl) (.cons (ren_isF 9 _ rfl) (.cons (ren_isF 9 _ rfl) (.cons (ren_isF 9 _ rfl) (.cons (ren_hSg rfl) (.cons (.mp rfl) .nil))))))) (.cons rfl (RenK.bE' (fun _ => rfl)) (.cons rfl (RenK.mB _ (fun _ => rfl)) .nil))) (.cons (.hp rfl) (.cons (ren_isF 9 _ rfl) .nil)) (G:=fun v_ => [some ⟨0,6,125,[[eL (cL ZIn.c) v2.1.p,eL cI v2.1.x.From,eL (cL cI) v2.1.x.Order,eL (cL cI) v2.1.number,hS false 0 v_ 1 v2.1.schedule.length,.mp 1 4]]⟩,bE false v_ 1 3 (v2.1.schedule.map cI),(some (mB 3 1 kI3 cB v2.1.failed))]) (G' := fun v_ => [bE false v_ 1 3 (v2.1.schedule.map cI),(some (mB 3 1 kI3 cB v2.1.failed)),some ⟨0,6,125,[[eL (cL ZIn.c) v2.1.p,eL cI v2.1.x.From,eL (cL cI) v2.1.x.Order,eL (cL cI) v2.1.number,hS false 0 v_ 1 v2.1.schedule.length,.mp 1 4]]⟩]) 3 rfl (fun v_ => .some (.rowL (.cons (ren_isF 9 _ rfl) (.cons (ren_isF 9 _ rfl) (.cons (ren_isF 9 _ rfl) (.cons (ren_isF 9 _ rfl) (.cons (ren_hSg (.inl rfl)) (.cons (.mp (.inl rfl)) .nil))))))) (.some (RenK.bE' (fun _ => rfl)) (.some (RenK.mB _ (fun _ => rfl)) .nil))) (fun _ => rfl) (r:=Bo v2.2) (ren_isF 9 _ rfl) (fun _ => rfl)) (fun u3 => ?_)
 refine oN (EvN.not rfl) (TO.nil ?_)
 refine T.cond rfl (fun q4 => ?_) (fun q4 => ?_)
 ·replace h := condT q4 h
  refine T.seq (T.region (oN (EvN.asg (.nil) rfl) (oN (EvN.asg (Bo false) rfl) (TO.nil (T.ret ?_)))))
  obtain rfl := osi h
  repeat (first|refine retS ?_|refine retB ?_)
  exact Fin.ret (vs:=[.nil,Bo false]) (.cons (.tmp rfl) (.cons (.tmp rfl) .nil)) ⟨0,true,0,fun _ => rfl,rfl,nofun⟩
 ·replace h := condF q4 h
  refine T.skip (T.seq (T.region (oN (EvN.mv (.hp 2 0 6 0 0) rfl) (oN (EvN.nilhp rfl) (oN (EvN.fahp Try.underlying125 rfl (by kernel_rfl) rfl) (oA (EvA.loadhp (hS false 0 u3 1 v2.1.schedule.length) ty23 rfl rfl rfl rfl rfl rfl) (oN (EvN.asg (hS false 0 u3 1 v2.1.schedule.length) rfl) ?_)))))))
  refine oN (EvN.asg (Bo true) rfl) (TO.nil (T.ret ?_))
  obtain rfl := osi h
  repeat (first|refine retS ?_|refine retB ?_)
  exact Fin.ret (vs:=[hS false 0 u3 1 v2.1.schedule.length,Bo true]) (.cons (.tmp rfl) (.cons (.tmp rfl) .nil)) ⟨0,false,u3,nofun,rfl,ownB rfl⟩
theorem F_impl_LeastSchedule_OP (p : List (List ZIn)) (schedule : List Int) {q : (List Int) × Bool} (h : F_impl_LeastSchedule p schedule = some q) : BCall Try.prog 38 [eL (cL ZIn.c) p,eL cI schedule] [] (OwnR 1 3 (fun x => .tup [x,Bo q.2]) q.1.length (q.1.map cI) 0 []) := by
 refine BCall.mkO Try.func38 rfl (by kernel_rfl) rfl (by kernel_rfl) (e0:=envOf [(0,eL (cL ZIn.c) p),(1,eL cI schedule)]) (wkC rfl (wkC rfl wkN)) (ren_t1 rfl) (rowsM (fun _ => rfl)) (T.seq (T.region (oN (EvN.asg (.nil) rfl) (oN (EvN.asg (Bo false) rfl) (TO.nil (T.seq (T.region ?_)))))))
 refine oN (EvN.mv (eL (cL ZIn.c) p) rfl) (oN (EvN.mv (eL cI schedule) rfl) ?_)
 obtain ⟨v1,cv1,h⟩ := bindL h
 refine oN (EvN.call rfl rfl rfl (F_impl_ExecOf_P p schedule cv1) rfl) (oN (EvN.mv (.tup [.agg (ZEx.c v1.1),Bo v1.2]) rfl) (oN (EvN.ext (.agg (ZEx.c v1.1)) rfl rfl) (oN (EvN.ext (Bo v1.2) rfl rfl) (oA (EvA.al zs43 rfl rfl) (oV (EvA.st (cs:=[eL cI v1.1.From,eL (cL cI) v1.1.Order]) ⟨0,2,43,[[eL cI v1.1.From,eL (cL cI) v1.1.Order]]⟩ ty43 rfl rfl rfl rfl rfl rfl rfl rfl rfl) (oN (EvN.asg (Bo v1.2) rfl) (TO.nil ?_)))))))
 refine T.seq (T.seq (T.clean (H0:=[some ⟨0,2,43,[[eL cI v1.1.From,eL (cL cI) v1.1.Order]]⟩]) (e0:=envOf [(7,Bo v1.2),(6,.hp 0 0 2 0 0),(0,eL (cL ZIn.c) p)]) rfl (wkC rfl (wkC rfl (wkC rfl wkN))) (T.region (oN (EvN.mv (Bo v1.2) rfl) (oN (EvN.not rfl) (TO.nil ?_))))))
 refine T.cond rfl (fun q2 => ?_) (fun q2 => ?_)
 ·replace h := condT q2 h
  refine T.seq (T.region (oN (EvN.asg (.nil) rfl) (oN (EvN.asg (Bo false) rfl) (TO.nil (T.ret ?_)))))
  obtain rfl := osi h
  repeat (first|refine retS ?_|refine retB ?_)
  exact Fin.ret (vs:=[.nil,Bo false]) (.cons (.tmp rfl) (.cons (.tmp rfl) .nil)) ⟨0,true,0,fun _ => rfl,rfl,nofun⟩
 ·replace h := condF q2 h
  refine T.skip (T.seq (T.region (oN (EvN.mv (eL (cL ZIn.c) p) rfl) (oA (EvA.loadhp (.agg [eL cI v1.1.From,eL (cL cI) v1.1.Order]) ty43 rfl rfl rfl rfl rfl rfl) ?_))))
  obtain ⟨v3,cv3,h⟩ := bindL h
  refine oG rfl rfl rfl ((F_impl_scheduleOf_OP p (⟨v1.1.From,v1.1.Order⟩ : ZEx) cv3).own rfl (rowsM (fun _ => rfl)) (ren_t1 rfl) 1 rfl) (fun g4 v5 n6 => ?_)
  refine oN (EvN.ext (hS g4 1 v5 1 v3.1.length) rfl rfl) (oN (EvN.ext (Bo v3.2) rfl rfl) (oN (EvN.asg (hS g4 1 v5 1 v3.1.length) rfl) (oN (EvN.asg (Bo v3.2) rfl) (TO.nil (T.ret ?_)))))
  obtain rfl := osi h
  repeat (first|refine retS ?_|refine retB ?_)
  exact Fin.ret (vs:=[hS g4 1 v5 1 v3.1.length,Bo v3.2]) (.cons (.tmp rfl) (.cons (.tmp rfl) .nil)) ⟨1,g4,v5,(nil_len (fun x => List.eq_nil_of_length_eq_zero (n6 x)) rfl),rfl,ownB rfl⟩
theorem F_spec_l6Writers_P (events : List ZEv) (loc : Int) {q : (List Int)} (h : F_spec_l6Writers events loc = some q) : PCall Try.prog 104 [eL ZEv.c events,I loc] (eL cI q) := by
 refine PCall.mkT Try.func104 rfl (by kernel_rfl) rfl (by kernel_rfl) (e0:=envOf [(0,eL ZEv.c events),(1,I loc)]) (wkC rfl (wkC rfl wkN)) (T.seq (T.region (oN (EvN.asg (.nil) rfl) (TO.nil (T.seq (T.region (oA (EvA.mkO (c:=cI) ([] : List Int) [] sl23 rfl rfl rfl (fun _ => rfl) rfl rfl) ?_)))))))
 refine oN (EvN.asg (hS false 0 0 1 (([] : List Int).length)) rfl) (TO.nil ?_)
 obtain ⟨s1,h,ks1⟩ := bindL h
 refine T.joinF (G:=Nat) (fun gh => True) (fun gh => [(5,hS false 0 gh 1 s1.length)]) (fun gh => [bE false gh 1 3 (s1.map cI)]) (fun u17 hg => ?_) ?_
 ·clear h
  have h := ks1
  clear ks1
  refine T.seq (T.region (oN (EvN.mv (hS false 0 u17 1 s1.length) rfl) (oN (EvN.asg (hS false 0 u17 1 s1.length) rfl) (TO.nil (T.ret ?_)))))
  obtain rfl := osi h
  repeat (first|refine retS ?_|refine retB ?_)
  exact Fin.ret (vs:=[hS false 0 u17 1 s1.length]) (.cons (.tmp rfl) .nil) (Fz.own (g:=false) (ver:=u17) (l:=s1) rfl rfl rfl nofun (fun _ => rfl))
 ·clear ks1
  refine T.seq (T.region (oN (EvN.asg (I (0 : Int)) rfl) (TO.nil (T.block ?_))))
  refine T.loop (S:=(List Int) × Int) (G:=Nat) (F_spec_l6Writers_L6 events loc) (fun s5 gh => True) (fun s5 gh => [(6,I s5.2),(5,hS false 0 gh 1 s5.1.length),(0,eL ZEv.c events),(1,I loc)]) (fun s5 gh => [bE false gh 1 3 (s5.1.map cI)]) (s0:=(([] : List Int),(0 : Int))) 0 h trivial (cutW rfl (wkC rfl (wkC rfl (wkC rfl (wkC rfl wkN))))) (fun s5 u7 ws5 h hg => ?_)
  refine T.seq (T.seq (T.region (oN (EvN.mv (I s5.2) rfl) (oN (EvN.mv (eL ZEv.c events) rfl) (oN (EvN.lenL sl98 rfl) (oN (EvN.ilt rfl rfl) (TO.nil ?_)))))))
  refine T.cond rfl (fun q8 => ?_) (fun q8 => ?_)
  ·replace h := condT q8 h
   refine T.skip ?_
   obtain ⟨s9,h,ks9⟩ := bindL h
   refine T.joinF (G:=Nat) (fun gh => True) (fun gh => [(5,hS false 0 gh 1 s9.length),(6,I s5.2),(0,eL ZEv.c events),(1,I loc)]) (fun gh => [bE false gh 1 3 (s9.map cI)]) (fun u15 hg => ?_) ?_
   ·clear h
    have h := ks9
    clear ks9
    refine T.region (oN (EvN.mv (I s5.2) rfl) ?_)
    obtain ⟨g16,h⟩ := gdW h
    refine oN (EvN.add rfl rfl g16) (oN (EvN.asg (I (s5.2 + (1 : Int))) rfl) (TO.nil ?_))
    obtain rfl := osi h
    exact ⟨(s9,(s5.2 + (1 : Int))),u15,rfl,trivial,cutW rfl (wkC rfl (wkC rfl (wkC rfl (wkC rfl wkN))))⟩
   ·clear ks9
    refine T.block (T.seq (T.region (oN (EvN.mv (eL ZEv.c events) rfl) (oN (EvN.mv (I s5.2) rfl) ?_))))
    obtain ⟨g10,h⟩ := gdD h
    refine oN (EvN.ixL sl98 rfl rfl g10 (fun _ => rfl)) (oN (EvN.fafp Try.underlying101 rfl (by kernel_rfl) rfl) (oN (EvN.loadfp (Bo ((events.getD s5.2.toNat default).Writes)) ty4 rfl rfl) (oN (EvN.mv (Bo ((events.getD s5.2.toNat default).Writes)) rfl) ?_)))
    obtain ⟨s11,h,ks11⟩ := bindL h
    refine TO.joinF (G:=Unit) 8 (fun _ => True) (fun _ => [(27,Bo s11),(6,I s5.2),(5,hS false 0 u7 1 s5.1.length),(0,eL ZEv.c events),(1,I loc)]) (fun _ => [bE false u7 1 3 (s5.1.map cI)]) ?_ (fun js11 => ?_)
    rotate_left
    ·clear ks11
     rcases bifL h with ⟨q12,h⟩ | ⟨q12,h⟩
     ·refine gN rfl q12 (EvN.mv (eL ZEv.c events) rfl) (gN rfl q12 (EvN.mv (I s5.2) rfl) (gN rfl q12 (EvN.ixL sl98 rfl rfl g10 (fun _ => rfl)) (gN rfl q12 (EvN.fafp Try.underlying101 rfl (by kernel_rfl) rfl) (gN rfl q12 (EvN.loadfp (I ((events.getD s5.2.toNat default).Loc)) ty3 rfl rfl) (gN rfl q12 (EvN.mv (I loc) rfl) (gN rfl q12 (EvN.ieq rfl rfl) (oN (EvN.pickT rfl q12 (Bo (((events.getD s5.2.toNat default).Loc) == loc)) rfl) ?_)))))))
      obtain rfl := osi h
      exact js11 _ _ ⟨(),trivial,cutW rfl (wkC rfl (wkC rfl (wkC rfl (wkC rfl (wkC rfl wkN)))))⟩
     ·refine gS rfl q12 (gS rfl q12 (gS rfl q12 (gS rfl q12 (gS rfl q12 (gS rfl q12 (gS rfl q12 (oN (EvN.pickF rfl q12 (Bo false) rfl) ?_)))))))
      obtain rfl := osi h
      exact js11 _ _ ⟨(),trivial,cutW rfl (wkC rfl (wkC rfl (wkC rfl (wkC rfl (wkC rfl wkN)))))⟩
    ·intro _ _
     replace h := ks11
     clear ks11
     refine TO.nil ?_
     refine T.cond rfl (fun q13 => ?_) (fun q13 => ?_)
     ·replace h := condT q13 h
      refine T.region (oN (EvN.mv (hS false 0 u7 1 s5.1.length) rfl) (oN (EvN.mv (I s5.2) rfl) (oN (EvN.mkF (c:=cI) ([s5.2] : List Int) [[I s5.2]] sl23 rfl rfl rfl (fun _ => rfl) (fun _ => rfl) rfl) ?_)))
      obtain ⟨g14,h⟩ := gdL h
      refine oA (EvA.app1 (g:=false) (l:=s5.1) s5.2 sl23 (by kernel_rfl) rfl rfl rfl nofun (SrcOk.fz (l:=([s5.2] : List Int)) rfl (fun _ => rfl)) g14) (oN (EvN.asg (hS false 0 (u7 + 1) 1 ((s5.1 ++ [s5.2]).length)) rfl) (TO.nil ?_))
      obtain rfl := osi h
      exact ⟨u7 + 1,trivial,cutW rfl (wkC rfl (wkC rfl (wkC rfl (wkC rfl wkN))))⟩
     ·replace h := condF q13 h
      refine T.skip ?_
      obtain rfl := osi h
      exact ⟨u7,trivial,cutW rfl (wkC rfl (wkC rfl (wkC rfl (wkC rfl wkN))))⟩
  ·replace h := condF q8 h
   refine T.exit ?_
   refine ⟨_,(osi h).symm,fun h => ?_⟩
   replace h := congrArg some h
   obtain rfl := osi h
   exact ⟨u7,trivial,cutW rfl (wkC rfl wkN)⟩
theorem F_spec_l6Place_P (list : List Int) (n : Int) {q : Int} (h : F_spec_l6Place list n = some q) : PCall Try.prog 103 [eL cI list,I n] (I q) := by
 refine PCall.mkT Try.func103 rfl (by kernel_rfl) rfl (by kernel_rfl) (e0:=envOf [(0,eL cI list),(1,I n)]) (wkC rfl (wkC rfl wkN)) (T.seq (T.region (oN (EvN.asg (I (0 : Int)) rfl) (TO.nil ?_))))
 obtain ⟨Ks1,es1,ws1,h,ks1⟩ := sumL h
 refine T.join (S:=Unit) (G:=Unit) (fun s1 => Ks1 s1 = some q) (fun s1 gh => True) (fun s1 gh => []) (fun s1 gh => []) (fun s1 gh h hg => ?_) ?_
 ·clear ks1
  subst es1
  refine T.seq (T.region (oN (EvN.asg (I (-1 : Int)) rfl) (TO.nil (T.ret ?_))))
  obtain rfl := osi h
  repeat (first|refine retS ?_|refine retB ?_)
  exact Fin.ret (vs:=[I (-1 : Int)]) (.cons (.tmp rfl) .nil) (.of_isF 9 _ rfl)
 ·refine T.seq (T.region (oN (EvN.asg (I (0 : Int)) rfl) (TO.nil (T.block ?_))))
  refine T.loop (S:=Int) (G:=Unit) (F_spec_l6Place_L5 list n) (fun s4 gh => True) (fun s4 gh => [(5,I s4),(0,eL cI list),(1,I n)]) (fun s4 gh => []) (s0:=(0 : Int)) () h trivial (cutW rfl (wkC rfl (wkC rfl (wkC rfl wkN)))) (fun s4 gh ws4 h hg => ?_)
  refine T.seq (T.seq (T.region (oN (EvN.mv (I s4) rfl) (oN (EvN.mv (eL cI list) rfl) (oN (EvN.lenL sl23 rfl) (oN (EvN.ilt rfl rfl) (TO.nil ?_)))))))
  refine T.cond rfl (fun q6 => ?_) (fun q6 => ?_)
  ·replace h := condT q6 h
   refine T.skip (T.seq (T.block (T.seq (T.region (oN (EvN.mv (eL cI list) rfl) (oN (EvN.mv (I s4) rfl) ?_))))))
   obtain ⟨g7,h⟩ := gdD h
   refine oN (EvN.ixL sl23 rfl rfl g7 (fun _ => rfl)) (oN (EvN.loadfp (I (list.getD s4.toNat default)) ty3 rfl rfl) (oN (EvN.mv (I n) rfl) (oN (EvN.ieq rfl rfl) (TO.nil ?_))))
   refine T.cond rfl (fun q8 => ?_) (fun q8 => ?_)
   ·replace h := condT q8 h
    refine T.seq (T.clean (H0:=[]) (e0:=envOf [(5,I s4)]) rfl (wkC rfl wkN) (T.region (oN (EvN.mv (I s4) rfl) (oN (EvN.asg (I s4) rfl) (TO.nil (T.ret ?_))))))
    refine ⟨_,(osi h).symm,fun h => ?_⟩
    replace h := congrArg some h
    obtain rfl := osi h
    replace h := congrArg some (show _ = _ from ks1)
    obtain rfl := osi h
    repeat (first|refine retS ?_|refine retB ?_)
    exact Fin.ret (vs:=[I s4]) (.cons (.tmp rfl) .nil) (.of_isF 9 _ rfl)
   ·replace h := condF q8 h
    refine T.skip (T.clean (H0:=[]) (e0:=envOf [(5,I s4),(0,eL cI list),(1,I n)]) rfl (wkC rfl (wkC rfl (wkC rfl wkN))) (T.region (oN (EvN.mv (I s4) rfl) ?_)))
    obtain ⟨g9,h⟩ := gdW h
    refine oN (EvN.add rfl rfl g9) (oN (EvN.asg (I (s4 + (1 : Int))) rfl) (TO.nil ?_))
    obtain rfl := osi h
    exact ⟨(s4 + (1 : Int)),(),rfl,trivial,cutW rfl (wkC rfl (wkC rfl (wkC rfl wkN)))⟩
  ·replace h := condF q6 h
   refine T.exit ?_
   refine ⟨_,(osi h).symm,fun h => ?_⟩
   replace h := congrArg some h
   obtain rfl := osi h
   exact ⟨(),(),ks1,trivial,cutW rfl wkN⟩
theorem F_spec_l6Order_P (list : List Int) (writers : List Int) {q : Bool} (h : F_spec_l6Order list writers = some q) : PCall Try.prog 105 [eL cI list,eL cI writers] (Bo q) := by
 refine PCall.mkT Try.func105 rfl (by kernel_rfl) rfl (by kernel_rfl) (e0:=envOf [(0,eL cI list),(1,eL cI writers)]) (wkC rfl (wkC rfl wkN)) (T.seq (T.region (oN (EvN.asg (Bo false) rfl) (TO.nil ?_))))
 obtain ⟨Ks1,es1,ws1,h,ks1⟩ := sumL h
 refine T.join (S:=Unit) (G:=Unit) (fun s1 => Ks1 s1 = some q) (fun s1 gh => True) (fun s1 gh => [(0,eL cI list),(1,eL cI writers)]) (fun s1 gh => []) (fun s1 gh h hg => ?_) ?_
 ·clear ks1
  subst es1
  obtain ⟨Ks7,es7,ws7,h,ks7⟩ := sumL h
  refine T.join (S:=Unit) (G:=Unit) (fun s7 => Ks7 s7 = some q) (fun s7 gh => True) (fun s7 gh => []) (fun s7 gh => []) (fun s7 gh h hg => ?_) ?_
  ·clear ks7
   subst es7
   refine T.seq (T.region (oN (EvN.asg (Bo true) rfl) (TO.nil (T.ret ?_))))
   obtain rfl := osi h
   repeat (first|refine retS ?_|refine retB ?_)
   exact Fin.ret (vs:=[Bo true]) (.cons (.tmp rfl) .nil) (.of_isF 9 _ rfl)
  ·refine T.seq (T.region (oN (EvN.asg (I (0 : Int)) rfl) (TO.nil (T.block ?_))))
   refine T.loop (S:=Int) (G:=Unit) (F_spec_l6Order_L11 list writers) (fun s10 gh => True) (fun s10 gh => [(5,I s10),(0,eL cI list),(1,eL cI writers)]) (fun s10 gh => []) (s0:=(0 : Int)) () h trivial (cutW rfl (wkC rfl (wkC rfl (wkC rfl wkN)))) (fun s10 gh ws10 h hg => ?_)
   refine T.seq (T.seq (T.region (oN (EvN.mv (I s10) rfl) (oN (EvN.mv (eL cI writers) rfl) (oN (EvN.lenL sl23 rfl) (oN (EvN.ilt rfl rfl) (TO.nil ?_)))))))
   refine T.cond rfl (fun q12 => ?_) (fun q12 => ?_)
   ·replace h := condT q12 h
    refine T.skip (T.seq (T.block (T.seq (T.region (oN (EvN.mv (eL cI list) rfl) (oN (EvN.mv (eL cI writers) rfl) (oN (EvN.mv (I s10) rfl) ?_)))))))
    obtain ⟨g13,h⟩ := gdD h
    refine oN (EvN.ixL sl23 rfl rfl g13 (fun _ => rfl)) (oN (EvN.loadfp (I (writers.getD s10.toNat default)) ty3 rfl rfl) ?_)
    obtain ⟨v14,cv14,h⟩ := bindL h
    refine oN (EvN.call rfl rfl rfl (F_spec_l6Place_P list (writers.getD s10.toNat default) cv14) rfl) (oN (EvN.ilt rfl rfl) (TO.nil ?_))
    refine T.cond rfl (fun q15 => ?_) (fun q15 => ?_)
    ·replace h := condT q15 h
     refine T.seq (T.clean (H0:=[]) (e0:=envOf []) rfl wkN (T.region (oN (EvN.asg (Bo false) rfl) (TO.nil (T.ret ?_)))))
     refine ⟨_,(osi h).symm,fun h => ?_⟩
     replace h := congrArg some h
     obtain rfl := osi h
     replace h := congrArg some (show _ = _ from ks7)
     obtain rfl := osi h
     repeat (first|refine retS ?_|refine retB ?_)
     exact Fin.ret (vs:=[Bo false]) (.cons (.tmp rfl) .nil) (.of_isF 9 _ rfl)
    ·replace h := condF q15 h
     refine T.skip (T.clean (H0:=[]) (e0:=envOf [(5,I s10),(0,eL cI list),(1,eL cI writers)]) rfl (wkC rfl (wkC rfl (wkC rfl wkN))) (T.region (oN (EvN.mv (I s10) rfl) ?_)))
     obtain ⟨g16,h⟩ := gdW h
     refine oN (EvN.add rfl rfl g16) (oN (EvN.asg (I (s10 + (1 : Int))) rfl) (TO.nil ?_))
     obtain rfl := osi h
     exact ⟨(s10 + (1 : Int)),(),rfl,trivial,cutW rfl (wkC rfl (wkC rfl (wkC rfl wkN)))⟩
   ·replace h := condF q12 h
    refine T.exit ?_
    refine ⟨_,(osi h).symm,fun h => ?_⟩
    replace h := congrArg some h
    obtain rfl := osi h
    exact ⟨(),(),ks7,trivial,cutW rfl wkN⟩
 ·obtain ⟨s2,h,ks2⟩ := bindL h
  refine T.joinF (G:=Unit) (fun gh => True) (fun gh => [(19,Bo s2),(0,eL cI list),(1,eL cI writers)]) (fun gh => []) (fun gh hg => ?_) ?_
  ·clear h
   have h := ks2
   clear ks2
   refine T.cond rfl (fun q6 => ?_) (fun q6 => ?_)
   ·replace h := condT q6 h
    refine T.seq (T.region (oN (EvN.asg (Bo false) rfl) (TO.nil (T.ret ?_))))
    obtain rfl := osi h
    replace h := congrArg some (show _ = _ from ks1)
    obtain rfl := osi h
    repeat (first|refine retS ?_|refine retB ?_)
    exact Fin.ret (vs:=[Bo false]) (.cons (.tmp rfl) .nil) (.of_isF 9 _ rfl)
   ·replace h := condF q6 h
    refine T.skip ?_
    obtain rfl := osi h
    exact ⟨(),(),ks1,trivial,cutW rfl (wkC rfl (wkC rfl wkN))⟩
  ·clear ks2
   refine T.drawG (fun _ => ([],false)) (by kernel_rfl) (by kernel_rfl) (tN rfl (EvN.mv (eL cI list) rfl) (tN rfl (EvN.lenL sl23 rfl) (tN rfl (EvN.mv (eL cI writers) rfl) (tN rfl (EvN.lenL sl23 rfl) (tN rfl (EvN.ine rfl rfl) (tN rfl (EvN.mv (Bo ((list.length : Int) != (writers.length : Int))) rfl) ?_))))))
   rcases bifL h with ⟨q3,h⟩ | ⟨q3,h⟩
   ·refine tgS rfl q3 (tgS rfl q3 (tgS rfl q3 (tgS rfl q3 (tgS rfl q3 (tgS rfl q3 (tgS rfl q3 (tN rfl (EvN.pickT rfl q3 (Bo true) rfl) ?_)))))))
    refine TG.nil ?_
    obtain rfl := osi h
    exact ⟨(),trivial,cutW rfl (wkC rfl (wkC rfl (wkC rfl wkN)))⟩
   ·refine tgN rfl q3 rfl (EvN.mv (eL cI list) rfl) ?_
    obtain ⟨g4,h⟩ := gdD h
    refine tgN rfl q3 rfl (EvN.ixL sl23 rfl rfl g4 (fun _ => rfl)) (tgN rfl q3 rfl (EvN.loadfp (I (list.getD (0 : Int).toNat default)) ty3 rfl rfl) (tgN rfl q3 rfl (EvN.mv (eL cI writers) rfl) ?_))
    obtain ⟨g5,h⟩ := gdD h
    refine tgN rfl q3 rfl (EvN.ixL sl23 rfl rfl g5 (fun _ => rfl)) (tgN rfl q3 rfl (EvN.loadfp (I (writers.getD (0 : Int).toNat default)) ty3 rfl rfl) (tgN rfl q3 rfl (EvN.ine rfl rfl) (tN rfl (EvN.pickF rfl q3 (Bo ((list.getD (0 : Int).toNat default) != (writers.getD (0 : Int).toNat default))) rfl) (TG.nil ?_))))
    obtain rfl := osi h
    exact ⟨(),trivial,cutW rfl (wkC rfl (wkC rfl (wkC rfl wkN)))⟩
theorem F_spec_ExecValid_P (p : List (List ZIn)) (x : ZEx) {q : Bool} (h : F_spec_ExecValid p x = some q) : PCall Try.prog 59 [eL (cL ZIn.c) p,.agg (ZEx.c x)] (Bo q) := by
 refine PCall.mkT Try.func59 rfl (by kernel_rfl) rfl (by kernel_rfl) (e0:=envOf [(0,eL (cL ZIn.c) p),(1,.agg (ZEx.c x))]) (wkC rfl (wkC rfl wkN)) (T.seq (T.region (oN (EvN.bxF [eL cI x.From,eL (cL cI) x.Order] rfl rfl rfl) (oN (EvN.asg (Bo false) rfl) (TO.nil (T.seq (T.seq ?_)))))))
 refine T.region (oN (EvN.mv (eL (cL ZIn.c) p) rfl) ?_)
 obtain ⟨v1,cv1,h⟩ := bindL h
 refine oN (EvN.call rfl rfl rfl (F_spec_ProgramValid_P p cv1) rfl) (oN (EvN.not rfl) (TO.nil ?_))
 refine T.cond rfl (fun q2 => ?_) (fun q2 => ?_)
 ·replace h := condT q2 h
  refine T.seq (T.clean (H0:=[]) (e0:=envOf []) rfl wkN (T.region (oN (EvN.asg (Bo false) rfl) (TO.nil (T.ret ?_)))))
  obtain rfl := osi h
  repeat (first|refine retS ?_|refine retB ?_)
  exact Fin.ret (vs:=[Bo false]) (.cons (.tmp rfl) .nil) (.of_isF 9 _ rfl)
 ·replace h := condF q2 h
  refine T.skip (T.seq (T.region (oN (EvN.mv (eL (cL ZIn.c) p) rfl) ?_)))
  obtain ⟨v3,cv3,h⟩ := bindL h
  refine oN (EvN.call rfl rfl rfl (F_spec_l6Events_P p cv3) rfl) (oN (EvN.asg (eL ZEv.c v3) rfl) (TO.nil (T.seq (T.seq (T.clean (H0:=[]) (e0:=envOf [(5,eL ZEv.c v3),(3,.fp (ZEx.c x) 0)]) rfl (wkC rfl (wkC rfl wkN)) (T.region (oN (EvN.fafp Try.underlying43 rfl (by kernel_rfl) rfl) ?_)))))))
  refine oN (EvN.loadfp (eL cI x.From) ty23 rfl rfl) (oN (EvN.lenL sl23 rfl) (oN (EvN.mv (eL ZEv.c v3) rfl) (oN (EvN.lenL sl98 rfl) (oN (EvN.ine rfl rfl) (oN (EvN.mv (Bo ((x.From.length : Int) != (v3.length : Int))) rfl) ?_)))))
  obtain ⟨s4,h,ks4⟩ := bindL h
  refine TO.joinF (G:=Unit) 5 (fun _ => True) (fun _ => [(24,Bo s4),(5,eL ZEv.c v3),(3,.fp (ZEx.c x) 0)]) (fun _ => []) ?_ (fun js4 => ?_)
  rotate_left
  ·clear ks4
   rcases bifL h with ⟨q5,h⟩ | ⟨q5,h⟩
   ·refine gS rfl q5 (gS rfl q5 (gS rfl q5 (gS rfl q5 (oN (EvN.pickT rfl q5 (Bo true) rfl) ?_))))
    obtain rfl := osi h
    exact js4 _ _ ⟨(),trivial,cutW rfl (wkC rfl (wkC rfl (wkC rfl wkN)))⟩
   ·refine gN rfl q5 (EvN.fafp Try.underlying43 rfl (by kernel_rfl) rfl) (gN rfl q5 (EvN.loadfp (eL (cL cI) x.Order) ty37 rfl rfl) (gN rfl q5 (EvN.lenL sl37 rfl) (gN rfl q5 (EvN.ine rfl rfl) (oN (EvN.pickF rfl q5 (Bo ((x.Order.length : Int) != (3 : Int))) rfl) ?_))))
    obtain rfl := osi h
    exact js4 _ _ ⟨(),trivial,cutW rfl (wkC rfl (wkC rfl (wkC rfl wkN)))⟩
  ·intro _ _
   replace h := ks4
   clear ks4
   refine TO.nil ?_
   refine T.cond rfl (fun q6 => ?_) (fun q6 => ?_)
   ·replace h := condT q6 h
    refine T.seq (T.region (oN (EvN.asg (Bo false) rfl) (TO.nil (T.ret ?_))))
    obtain rfl := osi h
    repeat (first|refine retS ?_|refine retB ?_)
    exact Fin.ret (vs:=[Bo false]) (.cons (.tmp rfl) .nil) (.of_isF 9 _ rfl)
   ·replace h := condF q6 h
    refine T.skip ?_
    obtain ⟨Ks7,es7,ws7,h,ks7⟩ := sumL h
    refine T.join (S:=Unit) (G:=Unit) (fun s7 => Ks7 s7 = some q) (fun s7 gh => True) (fun s7 gh => [(5,eL ZEv.c v3),(3,.fp (ZEx.c x) 0)]) (fun s7 gh => []) (fun s7 gh h hg => ?_) ?_
    ·clear ks7
     subst es7
     obtain ⟨Ks31,es31,ws31,h,ks31⟩ := sumL h
     refine T.join (S:=Unit) (G:=Unit) (fun s31 => Ks31 s31 = some q) (fun s31 gh => True) (fun s31 gh => []) (fun s31 gh => []) (fun s31 gh h hg => ?_) ?_
     ·clear ks31
      subst es31
      refine T.seq (T.region (oN (EvN.asg (Bo true) rfl) (TO.nil (T.ret ?_))))
      obtain rfl := osi h
      repeat (first|refine retS ?_|refine retB ?_)
      exact Fin.ret (vs:=[Bo true]) (.cons (.tmp rfl) .nil) (.of_isF 9 _ rfl)
     ·refine T.seq (T.region (oN (EvN.asg (I (0 : Int)) rfl) (TO.nil (T.block ?_))))
      refine T.loop (S:=Int) (G:=Unit) (F_spec_ExecValid_L35 x v3) (fun s34 gh => True) (fun s34 gh => [(7,I s34),(5,eL ZEv.c v3),(3,.fp (ZEx.c x) 0)]) (fun s34 gh => []) (s0:=(0 : Int)) () h trivial (cutW rfl (wkC rfl (wkC rfl (wkC rfl wkN)))) (fun s34 gh ws34 h hg => ?_)
      refine T.seq (T.seq (T.region (oN (EvN.mv (I s34) rfl) (oN (EvN.ile rfl rfl) (TO.nil ?_)))))
      refine T.cond rfl (fun q36 => ?_) (fun q36 => ?_)
      ·replace h := condT q36 h
       refine T.skip (T.seq (T.block (T.seq (T.drawF (fun _ => ([],false)) (by kernel_rfl) (by kernel_rfl) (fN rfl (EvN.fafp Try.underlying43 rfl (by kernel_rfl) rfl) (fN rfl (EvN.loadfp (eL (cL cI) x.Order) ty37 rfl rfl) (fN rfl (EvN.mv (I s34) rfl) ?_)))))))
       obtain ⟨g37,h⟩ := gdD h
       refine fN rfl (EvN.ixL sl37 rfl rfl g37 (fun _ => rfl)) (fN rfl (EvN.loadfp (eL cI (x.Order.getD s34.toNat default)) ty23 rfl rfl) (fN rfl (EvN.mv (eL ZEv.c v3) rfl) (fN rfl (EvN.mv (I s34) rfl) ?_)))
       obtain ⟨v38,cv38,h⟩ := bindL h
       refine fN rfl (EvN.call rfl rfl rfl (F_spec_l6Writers_P v3 s34 cv38) rfl) ?_
       obtain ⟨v39,cv39,h⟩ := bindL h
       refine fN rfl (EvN.call rfl rfl rfl (F_spec_l6Order_P (x.Order.getD s34.toNat default) v38 cv39) rfl) (fN rfl (EvN.not rfl) (TF.nil ?_))
       refine T.cond rfl (fun q40 => ?_) (fun q40 => ?_)
       ·replace h := condT q40 h
        refine T.seq (T.clean (H0:=[]) (e0:=envOf []) rfl wkN (T.region (oN (EvN.asg (Bo false) rfl) (TO.nil (T.ret ?_)))))
        refine ⟨_,(osi h).symm,fun h => ?_⟩
        replace h := congrArg some h
        obtain rfl := osi h
        replace h := congrArg some (show _ = _ from ks31)
        obtain rfl := osi h
        repeat (first|refine retS ?_|refine retB ?_)
        exact Fin.ret (vs:=[Bo false]) (.cons (.tmp rfl) .nil) (.of_isF 9 _ rfl)
       ·replace h := condF q40 h
        refine T.skip (T.clean (H0:=[]) (e0:=envOf [(7,I s34),(5,eL ZEv.c v3),(3,.fp (ZEx.c x) 0)]) rfl (wkC rfl (wkC rfl (wkC rfl wkN))) (T.region (oN (EvN.mv (I s34) rfl) ?_)))
        obtain ⟨g41,h⟩ := gdW h
        refine oN (EvN.add rfl rfl g41) (oN (EvN.asg (I (s34 + (1 : Int))) rfl) (TO.nil ?_))
        obtain rfl := osi h
        exact ⟨(s34 + (1 : Int)),(),rfl,trivial,cutW rfl (wkC rfl (wkC rfl (wkC rfl wkN)))⟩
      ·replace h := condF q36 h
       refine T.exit ?_
       refine ⟨_,(osi h).symm,fun h => ?_⟩
       replace h := congrArg some h
       obtain rfl := osi h
       exact ⟨(),(),ks31,trivial,cutW rfl wkN⟩
    ·refine T.seq (T.region (oN (EvN.asg (I (0 : Int)) rfl) (TO.nil (T.block ?_))))
     refine T.loop (S:=Int) (G:=Unit) (F_spec_ExecValid_L11 x v3) (fun s10 gh => True) (fun s10 gh => [(6,I s10),(5,eL ZEv.c v3),(3,.fp (ZEx.c x) 0)]) (fun s10 gh => []) (s0:=(0 : Int)) () h trivial (cutW rfl (wkC rfl (wkC rfl (wkC rfl wkN)))) (fun s10 gh ws10 h hg => ?_)
     let d0 := x.From.getD s10.toNat default
     refine T.seq (T.seq (T.region (oN (EvN.mv (I s10) rfl) (oN (EvN.mv (eL ZEv.c v3) rfl) (oN (EvN.lenL sl98 rfl) (oN (EvN.ilt rfl rfl) (TO.nil ?_)))))))
     refine T.cond rfl (fun q12 => ?_) (fun q12 => ?_)
     ·replace h := condT q12 h
      refine T.skip ?_
      obtain ⟨Ks13,es13,ws13,h,ks13⟩ := sumL h
      refine T.join (S:=Unit) (G:=Unit) (fun s13 => Ks13 s13 = some ws10) (fun s13 gh => True) (fun s13 gh => [(6,I s10),(5,eL ZEv.c v3),(3,.fp (ZEx.c x) 0)]) (fun s13 gh => []) (fun s13 gh h hg => ?_) ?_
      ·clear ks13
       subst es13
       refine T.region (oN (EvN.mv (I s10) rfl) ?_)
       obtain ⟨g30,h⟩ := gdW h
       refine oN (EvN.add rfl rfl g30) (oN (EvN.asg (I (s10 + (1 : Int))) rfl) (TO.nil ?_))
       obtain rfl := osi h
       exact ⟨(s10 + (1 : Int)),(),rfl,trivial,cutW rfl (wkC rfl (wkC rfl (wkC rfl wkN)))⟩
      ·refine T.block ?_
       obtain ⟨Ks14,es14,ws14,h,ks14⟩ := sumL h
       refine T.join (S:=Unit) (G:=Unit) (fun s14 => Ks14 s14 = some ws13) (fun s14 gh => True) (fun s14 gh => [(6,I s10),(5,eL ZEv.c v3),(3,.fp (ZEx.c x) 0)]) (fun s14 gh => []) (fun s14 gh h hg => ?_) ?_
       ·clear ks14
        subst es14
        refine T.seq (T.region (oN (EvN.mv (eL ZEv.c v3) rfl) (oN (EvN.mv (I s10) rfl) ?_)))
        obtain ⟨g22,h⟩ := gdD h
        refine oN (EvN.ixL sl98 rfl rfl g22 (fun _ => rfl)) (oN (EvN.fafp Try.underlying101 rfl (by kernel_rfl) rfl) (oN (EvN.loadfp (Bo ((v3.getD s10.toNat default).Reads)) ty4 rfl rfl) (oN (EvN.not rfl) (oN (EvN.mv (Bo (!((v3.getD s10.toNat default).Reads))) rfl) ?_))))
        obtain ⟨s23,h,ks23⟩ := bindL h
        refine TO.joinF (G:=Unit) 7 (fun _ => True) (fun _ => [(65,Bo s23),(6,I s10),(5,eL ZEv.c v3),(3,.fp (ZEx.c x) 0)]) (fun _ => []) ?_ (fun js23 => ?_)
        rotate_left
        ·clear ks23
         rcases bifL h with ⟨q24,h⟩ | ⟨q24,h⟩
         ·refine gN rfl q24 (EvN.fafp Try.underlying43 rfl (by kernel_rfl) rfl) (gN rfl q24 (EvN.loadfp (eL cI x.From) ty23 rfl rfl) (gN rfl q24 (EvN.mv (I s10) rfl) ?_))
          obtain ⟨g25,h⟩ := gdD h
          refine gN rfl q24 (EvN.ixL sl23 rfl rfl g25 (fun _ => rfl)) (gN rfl q24 (EvN.loadfp (I d0) ty3 rfl rfl) (gN rfl q24 (EvN.ine rfl rfl) (oN (EvN.pickT rfl q24 (Bo (d0 != (-1 : Int))) rfl) ?_)))
          obtain rfl := osi h
          exact js23 _ _ ⟨(),trivial,cutW rfl (wkC rfl (wkC rfl (wkC rfl (wkC rfl wkN))))⟩
         ·refine gS rfl q24 (gS rfl q24 (gS rfl q24 (gS rfl q24 (gS rfl q24 (gS rfl q24 (oN (EvN.pickF rfl q24 (Bo false) rfl) ?_))))))
          obtain rfl := osi h
          exact js23 _ _ ⟨(),trivial,cutW rfl (wkC rfl (wkC rfl (wkC rfl (wkC rfl wkN))))⟩
        ·intro _ _
         replace h := ks23
         clear ks23
         refine oN (EvN.mv (Bo s23) rfl) ?_
         obtain ⟨s26,h,ks26⟩ := bindL h
         refine TO.joinF (G:=Unit) 8 (fun _ => True) (fun _ => [(74,Bo s26),(6,I s10),(5,eL ZEv.c v3),(3,.fp (ZEx.c x) 0)]) (fun _ => []) ?_ (fun js26 => ?_)
         rotate_left
         ·clear ks26
          rcases bifL h with ⟨q27,h⟩ | ⟨q27,h⟩
          ·refine gS rfl q27 (gS rfl q27 (gS rfl q27 (gS rfl q27 (gS rfl q27 (gS rfl q27 (gS rfl q27 (oN (EvN.pickT rfl q27 (Bo true) rfl) ?_)))))))
           obtain rfl := osi h
           exact js26 _ _ ⟨(),trivial,cutW rfl (wkC rfl (wkC rfl (wkC rfl (wkC rfl wkN))))⟩
          ·refine gN rfl q27 (EvN.fafp Try.underlying43 rfl (by kernel_rfl) rfl) (gN rfl q27 (EvN.loadfp (eL cI x.From) ty23 rfl rfl) (gN rfl q27 (EvN.mv (I s10) rfl) ?_))
           obtain ⟨g28,h⟩ := gdD h
           refine gN rfl q27 (EvN.ixL sl23 rfl rfl g28 (fun _ => rfl)) (gN rfl q27 (EvN.loadfp (I d0) ty3 rfl rfl) (gN rfl q27 (EvN.mv (I s10) rfl) (gN rfl q27 (EvN.ieq rfl rfl) (oN (EvN.pickF rfl q27 (Bo (d0 == s10)) rfl) ?_))))
           obtain rfl := osi h
           exact js26 _ _ ⟨(),trivial,cutW rfl (wkC rfl (wkC rfl (wkC rfl (wkC rfl wkN))))⟩
         ·intro _ _
          replace h := ks26
          clear ks26
          refine TO.nil ?_
          refine T.cond rfl (fun q29 => ?_) (fun q29 => ?_)
          ·replace h := condT q29 h
           refine T.seq (T.region (oN (EvN.asg (Bo false) rfl) (TO.nil (T.ret ?_))))
           obtain rfl := osi h
           replace h := congrArg some (show _ = _ from ks13)
           refine ⟨_,(osi h).symm,fun h => ?_⟩
           replace h := congrArg some h
           obtain rfl := osi h
           replace h := congrArg some (show _ = _ from ks7)
           obtain rfl := osi h
           repeat (first|refine retS ?_|refine retB ?_)
           exact Fin.ret (vs:=[Bo false]) (.cons (.tmp rfl) .nil) (.of_isF 9 _ rfl)
          ·replace h := condF q29 h
           refine T.skip ?_
           obtain rfl := osi h
           exact ⟨(),(),ks13,trivial,cutW rfl (wkC rfl (wkC rfl (wkC rfl wkN)))⟩
       ·obtain ⟨s15,h,ks15⟩ := bindL h
        refine T.joinF (G:=Unit) (fun gh => True) (fun gh => [(51,Bo s15),(6,I s10),(5,eL ZEv.c v3),(3,.fp (ZEx.c x) 0)]) (fun gh => []) (fun gh hg => ?_) ?_
        ·clear h
         have h := ks15
         clear ks15
         refine T.cond rfl (fun q21 => ?_) (fun q21 => ?_)
         ·replace h := condT q21 h
          refine T.seq (T.region (oN (EvN.asg (Bo false) rfl) (TO.nil (T.ret ?_))))
          obtain rfl := osi h
          replace h := congrArg some (show _ = _ from ks14)
          obtain rfl := osi h
          replace h := congrArg some (show _ = _ from ks13)
          refine ⟨_,(osi h).symm,fun h => ?_⟩
          replace h := congrArg some h
          obtain rfl := osi h
          replace h := congrArg some (show _ = _ from ks7)
          obtain rfl := osi h
          repeat (first|refine retS ?_|refine retB ?_)
          exact Fin.ret (vs:=[Bo false]) (.cons (.tmp rfl) .nil) (.of_isF 9 _ rfl)
         ·replace h := condF q21 h
          refine T.skip ?_
          obtain rfl := osi h
          exact ⟨(),(),ks14,trivial,cutW rfl (wkC rfl (wkC rfl (wkC rfl wkN)))⟩
        ·clear ks15
         refine T.drawG (fun _ => ([],false)) (by kernel_rfl) (by kernel_rfl) (tN rfl (EvN.mv (eL ZEv.c v3) rfl) (tN rfl (EvN.mv (I s10) rfl) ?_))
         obtain ⟨g16,h⟩ := gdD h
         refine tN rfl (EvN.ixL sl98 rfl rfl g16 (fun _ => rfl)) (tN rfl (EvN.fafp Try.underlying101 rfl (by kernel_rfl) rfl) (tN rfl (EvN.loadfp (Bo ((v3.getD s10.toNat default).Reads)) ty4 rfl rfl) (tN rfl (EvN.mv (Bo ((v3.getD s10.toNat default).Reads)) rfl) ?_)))
         rcases bifL h with ⟨q17,h⟩ | ⟨q17,h⟩
         ·refine tgN rfl q17 rfl (EvN.mv (eL ZEv.c v3) rfl) (tgN rfl q17 rfl (EvN.mv (eL ZEv.c v3) rfl) (tgN rfl q17 rfl (EvN.mv (I s10) rfl) (tgN rfl q17 rfl (EvN.ixL sl98 rfl rfl g16 (fun _ => rfl)) (tgN rfl q17 rfl (EvN.fafp Try.underlying101 rfl (by kernel_rfl) rfl) (tgN rfl q17 rfl (EvN.loadfp (I ((v3.getD s10.toNat default).Loc)) ty3 rfl rfl) ?_)))))
          obtain ⟨v18,cv18,h⟩ := bindL h
          refine tgN rfl q17 rfl (EvN.call rfl rfl rfl (F_spec_l6Writers_P v3 ((v3.getD s10.toNat default).Loc) cv18) rfl) (tgN rfl q17 rfl (EvN.fafp Try.underlying43 rfl (by kernel_rfl) rfl) (tgN rfl q17 rfl (EvN.loadfp (eL cI x.From) ty23 rfl rfl) (tgN rfl q17 rfl (EvN.mv (I s10) rfl) ?_)))
          obtain ⟨g19,h⟩ := gdD h
          refine tgN rfl q17 rfl (EvN.ixL sl23 rfl rfl g19 (fun _ => rfl)) (tgN rfl q17 rfl (EvN.loadfp (I d0) ty3 rfl rfl) ?_)
          obtain ⟨v20,cv20,h⟩ := bindL h
          refine tgN rfl q17 rfl (EvN.call rfl rfl rfl (F_spec_l6Place_P v18 d0 cv20) rfl) (tgN rfl q17 rfl (EvN.ilt rfl rfl) (tN rfl (EvN.pickT rfl q17 (Bo (decide (v20 < (0 : Int)))) rfl) (TG.nil ?_)))
          obtain rfl := osi h
          exact ⟨(),trivial,cutW rfl (wkC rfl (wkC rfl (wkC rfl (wkC rfl wkN))))⟩
         ·refine tgS rfl q17 (tgS rfl q17 (tgS rfl q17 (tgS rfl q17 (tgS rfl q17 (tgS rfl q17 (tgS rfl q17 (tgS rfl q17 ?_)))))))
          refine tgS rfl q17 (tgS rfl q17 (tgS rfl q17 (tgS rfl q17 (tgS rfl q17 (tgS rfl q17 (tN rfl (EvN.pickF rfl q17 (Bo false) rfl) (TG.nil ?_)))))))
          obtain rfl := osi h
          exact ⟨(),trivial,cutW rfl (wkC rfl (wkC rfl (wkC rfl (wkC rfl wkN))))⟩
     ·replace h := condF q12 h
      refine T.exit ?_
      refine ⟨_,(osi h).symm,fun h => ?_⟩
      replace h := congrArg some h
      obtain rfl := osi h
      exact ⟨(),(),ks7,trivial,cutW rfl (wkC rfl (wkC rfl wkN))⟩
theorem F_spec_l6Before_P (x : ZEx) (loc : Int) (i : Int) (k_ : Int) {q : Bool} (h : F_spec_l6Before x loc i k_ = some q) : PCall Try.prog 165 [.agg (ZEx.c x),I loc,I i,I k_] (Bo q) := by
 refine PCall.mkT Try.func165 rfl (by kernel_rfl) rfl (by kernel_rfl) (e0:=envOf [(0,.agg (ZEx.c x)),(1,I loc),(2,I i),(3,I k_)]) (wkC rfl (wkC rfl (wkC rfl (wkC rfl wkN)))) (T.seq (T.region (oN (EvN.bxF [eL cI x.From,eL (cL cI) x.Order] rfl rfl rfl) (oN (EvN.asg (Bo false) rfl) (TO.nil (T.seq (T.drawF (fun _ => ([],false)) (by kernel_rfl) (by kernel_rfl) ?_)))))))
 refine fN rfl (EvN.fafp Try.underlying43 rfl (by kernel_rfl) rfl) (fN rfl (EvN.loadfp (eL (cL cI) x.Order) ty37 rfl rfl) (fN rfl (EvN.mv (I loc) rfl) ?_))
 obtain ⟨g1,h⟩ := gdD h
 refine fN rfl (EvN.ixL sl37 rfl rfl g1 (fun _ => rfl)) (fN rfl (EvN.loadfp (eL cI (x.Order.getD loc.toNat default)) ty23 rfl rfl) (fN rfl (EvN.mv (I i) rfl) ?_))
 obtain ⟨v2,cv2,h⟩ := bindL h
 refine fN rfl (EvN.call rfl rfl rfl (F_spec_l6Place_P (x.Order.getD loc.toNat default) i cv2) rfl) (fN rfl (EvN.fafp Try.underlying43 rfl (by kernel_rfl) rfl) (fN rfl (EvN.loadfp (eL (cL cI) x.Order) ty37 rfl rfl) (fN rfl (EvN.mv (I loc) rfl) (fN rfl (EvN.ixL sl37 rfl rfl g1 (fun _ => rfl)) (fN rfl (EvN.loadfp (eL cI (x.Order.getD loc.toNat default)) ty23 rfl rfl) (fN rfl (EvN.mv (I k_) rfl) ?_))))))
 obtain ⟨v3,cv3,h⟩ := bindL h
 refine fN rfl (EvN.call rfl rfl rfl (F_spec_l6Place_P (x.Order.getD loc.toNat default) k_ cv3) rfl) (fN rfl (EvN.ilt rfl rfl) (fN rfl (EvN.asg (Bo (decide (v2 < v3))) rfl) (TF.nil (T.ret ?_))))
 obtain rfl := osi h
 repeat (first|refine retS ?_|refine retB ?_)
 exact Fin.ret (vs:=[Bo (decide (v2 < v3))]) (.cons (.tmp rfl) .nil) (.of_isF 9 _ rfl)
theorem F_spec_l6Pair_P (p : List (List ZIn)) (x : ZEx) (events : List ZEv) (name : ByteArray) (i : Int) (k_ : Int) {q : Bool} (h : F_spec_l6Pair p x events name i k_ = some q) : PCall Try.prog 147 [eL (cL ZIn.c) p,.agg (ZEx.c x),eL ZEv.c events,St name,I i,I k_] (Bo q) := by
 refine PCall.mkT Try.func147 rfl (by kernel_rfl) rfl (by kernel_rfl) (e0:=envOf [(0,eL (cL ZIn.c) p),(1,.agg (ZEx.c x)),(2,eL ZEv.c events),(3,St name),(4,I i),(5,I k_)]) (wkC rfl (wkC rfl (wkC rfl (wkC rfl (wkC rfl (wkC rfl wkN)))))) ?_
 let d1 := events.getD k_.toNat default
 let d0 := events.getD i.toNat default
 refine T.seq (T.region (oN (EvN.bxF [eL cI x.From,eL (cL cI) x.Order] rfl rfl rfl) (oN (EvN.asg (Bo false) rfl) (TO.nil (T.seq (T.region (oN (EvN.mv (eL ZEv.c events) rfl) ?_)))))))
 refine oN (EvN.mv (I i) rfl) ?_
 obtain ⟨g1,h⟩ := gdD h
 refine oN (EvN.ixL sl98 rfl rfl g1 (fun _ => rfl)) (oN (EvN.loadfp (.agg (ZEv.c d0)) ty101 rfl rfl) (oA (EvA.al zs101 rfl rfl) (oV (EvA.st (cs:=[I (d0.Thread),I (d0.Index),I (d0.Loc),Bo (d0.Reads),Bo (d0.Writes)]) ⟨0,5,101,[[I (d0.Thread),I (d0.Index),I (d0.Loc),Bo (d0.Reads),Bo (d0.Writes)]]⟩ ty101 rfl rfl rfl rfl rfl rfl rfl rfl rfl) (TO.nil (T.seq (T.clean (H0:=[some ⟨0,5,101,[[I (d0.Thread),I (d0.Index),I (d0.Loc),Bo (d0.Reads),Bo (d0.Writes)]]⟩]) (e0:=envOf [(13,.hp 0 0 5 0 0),(7,.fp (ZEx.c x) 0),(0,eL (cL ZIn.c) p),(2,eL ZEv.c events),(3,St name),(4,I i),(5,I k_)]) rfl (wkC rfl (wkC rfl (wkC rfl (wkC rfl (wkC rfl (wkC rfl (wkC rfl wkN))))))) (T.region ?_)))))))
 refine oN (EvN.mv (eL ZEv.c events) rfl) (oN (EvN.mv (I k_) rfl) ?_)
 obtain ⟨g2,h⟩ := gdD h
 refine oN (EvN.ixL sl98 rfl rfl g2 (fun _ => rfl)) (oN (EvN.loadfp (.agg (ZEv.c d1)) ty101 rfl rfl) (oA (EvA.al zs101 rfl rfl) (oV (EvA.st (cs:=[I (d1.Thread),I (d1.Index),I (d1.Loc),Bo (d1.Reads),Bo (d1.Writes)]) ⟨0,5,101,[[I (d1.Thread),I (d1.Index),I (d1.Loc),Bo (d1.Reads),Bo (d1.Writes)]]⟩ ty101 rfl rfl rfl rfl rfl rfl rfl rfl rfl) (TO.nil (T.seq (T.region (oN (EvN.fahp Try.underlying101 rfl (by kernel_rfl) rfl) ?_)))))))
 refine oA (EvA.loadhp (I (d0.Thread)) ty3 rfl rfl rfl rfl rfl rfl) (oN (EvN.fahp Try.underlying101 rfl (by kernel_rfl) rfl) (oA (EvA.loadhp (I (d1.Thread)) ty3 rfl rfl rfl rfl rfl rfl) (oN (EvN.ieq rfl rfl) (oN (EvN.mv (Bo ((d0.Thread) == (d1.Thread))) rfl) ?_))))
 obtain ⟨s3,h,ks3⟩ := bindL h
 refine TO.joinF (G:=Unit) 4 (fun _ => True) (fun _ => [(33,Bo s3),(14,.hp 1 0 5 0 0),(13,.hp 0 0 5 0 0),(7,.fp (ZEx.c x) 0),(0,eL (cL ZIn.c) p),(3,St name),(4,I i),(5,I k_)]) (fun _ => [some ⟨0,5,101,[[I (d0.Thread),I (d0.Index),I (d0.Loc),Bo (d0.Reads),Bo (d0.Writes)]]⟩,some ⟨0,5,101,[[I (d1.Thread),I (d1.Index),I (d1.Loc),Bo (d1.Reads),Bo (d1.Writes)]]⟩]) ?_ (fun js3 => ?_)
 rotate_left
 ·clear ks3
  rcases bifL h with ⟨q4,h⟩ | ⟨q4,h⟩
  ·refine gN rfl q4 (EvN.fahp Try.underlying101 rfl (by kernel_rfl) rfl) (gA rfl q4 (EvA.loadhp (I (d0.Thread)) ty3 rfl rfl rfl rfl rfl rfl) (gN rfl q4 (EvN.ige rfl rfl) (oN (EvN.pickT rfl q4 (Bo (decide ((0 : Int) <= (d0.Thread)))) rfl) ?_)))
   obtain rfl := osi h
   exact js3 _ _ ⟨(),trivial,cutW rfl (wkC rfl (wkC rfl (wkC rfl (wkC rfl (wkC rfl (wkC rfl (wkC rfl (wkC rfl wkN))))))))⟩
  ·refine gS rfl q4 (gS rfl q4 (gS rfl q4 (oN (EvN.pickF rfl q4 (Bo false) rfl) ?_)))
   obtain rfl := osi h
   exact js3 _ _ ⟨(),trivial,cutW rfl (wkC rfl (wkC rfl (wkC rfl (wkC rfl (wkC rfl (wkC rfl (wkC rfl (wkC rfl wkN))))))))⟩
 ·intro _ _
  replace h := ks3
  clear ks3
  refine oN (EvN.asg (Bo s3) rfl) (TO.nil ?_)
  obtain ⟨Ks5,es5,ws5,h,ks5⟩ := sumL h
  refine T.join (S:=Unit) (G:=Unit) (fun s5 => Ks5 s5 = some q) (fun s5 gh => True) (fun s5 gh => [(3,St name),(4,I i),(5,I k_)]) (fun s5 gh => [some ⟨0,5,101,[[I (d0.Thread),I (d0.Index),I (d0.Loc),Bo (d0.Reads),Bo (d0.Writes)]]⟩,some ⟨0,5,101,[[I (d1.Thread),I (d1.Index),I (d1.Loc),Bo (d1.Reads),Bo (d1.Writes)]]⟩]) (fun s5 gh h hg => ?_) ?_
  ·clear ks5
   subst es5
   refine T.seq (T.region (oN (EvN.mv (St name) rfl) (oN (EvN.seq rfl rfl) (oN (EvN.mv (Bo (decide (name = (⟨#[105,100]⟩ : ByteArray)))) rfl) ?_))))
   obtain ⟨s34,h,ks34⟩ := bindL h
   refine TO.joinF (G:=Unit) 4 (fun _ => True) (fun _ => [(188,Bo s34)]) (fun _ => [some ⟨0,5,101,[[I (d0.Thread),I (d0.Index),I (d0.Loc),Bo (d0.Reads),Bo (d0.Writes)]]⟩,some ⟨0,5,101,[[I (d1.Thread),I (d1.Index),I (d1.Loc),Bo (d1.Reads),Bo (d1.Writes)]]⟩]) ?_ (fun js34 => ?_)
   rotate_left
   ·clear ks34
    rcases bifL h with ⟨q35,h⟩ | ⟨q35,h⟩
    ·refine gN rfl q35 (EvN.mv (I i) rfl) (gN rfl q35 (EvN.mv (I k_) rfl) (gN rfl q35 (EvN.ieq rfl rfl) (oN (EvN.pickT rfl q35 (Bo (i == k_)) rfl) ?_)))
     obtain rfl := osi h
     exact js34 _ _ ⟨(),trivial,cutW rfl (wkC rfl wkN)⟩
    ·refine gS rfl q35 (gS rfl q35 (gS rfl q35 (oN (EvN.pickF rfl q35 (Bo false) rfl) ?_)))
     obtain rfl := osi h
     exact js34 _ _ ⟨(),trivial,cutW rfl (wkC rfl wkN)⟩
   ·intro _ _
    replace h := ks34
    clear ks34
    refine oN (EvN.asg (Bo s34) rfl) (TO.nil (T.ret ?_))
    obtain rfl := osi h
    repeat (first|refine retS ?_|refine retB ?_)
    exact Fin.ret (vs:=[Bo s34]) (.cons (.tmp rfl) .nil) (.of_isF 9 _ rfl)
  ·refine T.seq (T.region (oN (EvN.mv (St name) rfl) (TO.nil (T.block (T.seq (T.region (oN (EvN.seq rfl rfl) ?_)))))))
   refine oN (EvN.asg (Bo (decide (name = (⟨#[112,111]⟩ : ByteArray)))) rfl) (TO.nil ?_)
   refine T.cond rfl (fun q6 => ?_) (fun q6 => ?_)
   ·replace h := condT q6 h
    refine T.seq (T.clean (H0:=[some ⟨0,5,101,[[I (d0.Thread),I (d0.Index),I (d0.Loc),Bo (d0.Reads),Bo (d0.Writes)]]⟩,some ⟨0,5,101,[[I (d1.Thread),I (d1.Index),I (d1.Loc),Bo (d1.Reads),Bo (d1.Writes)]]⟩]) (e0:=envOf [(15,Bo s3),(14,.hp 1 0 5 0 0),(13,.hp 0 0 5 0 0)]) rfl (wkC rfl (wkC rfl (wkC rfl wkN))) (T.region (oN (EvN.mv (Bo s3) rfl) (oN (EvN.mv (Bo s3) rfl) ?_))))
    obtain ⟨s7,h,ks7⟩ := bindL h
    refine TO.joinF (G:=Unit) 6 (fun _ => True) (fun _ => [(44,Bo s7)]) (fun _ => [some ⟨0,5,101,[[I (d0.Thread),I (d0.Index),I (d0.Loc),Bo (d0.Reads),Bo (d0.Writes)]]⟩,some ⟨0,5,101,[[I (d1.Thread),I (d1.Index),I (d1.Loc),Bo (d1.Reads),Bo (d1.Writes)]]⟩]) ?_ (fun js7 => ?_)
    rotate_left
    ·clear ks7
     rcases bifL h with ⟨q8,h⟩ | ⟨q8,h⟩
     ·refine gN rfl q8 (EvN.fahp Try.underlying101 rfl (by kernel_rfl) rfl) (gA rfl q8 (EvA.loadhp (I (d0.Index)) ty3 rfl rfl rfl rfl rfl rfl) (gN rfl q8 (EvN.fahp Try.underlying101 rfl (by kernel_rfl) rfl) (gA rfl q8 (EvA.loadhp (I (d1.Index)) ty3 rfl rfl rfl rfl rfl rfl) (gN rfl q8 (EvN.ilt rfl rfl) (oN (EvN.pickT rfl q8 (Bo (decide ((d0.Index) < (d1.Index)))) rfl) ?_)))))
      obtain rfl := osi h
      exact js7 _ _ ⟨(),trivial,cutW rfl (wkC rfl wkN)⟩
     ·refine gS rfl q8 (gS rfl q8 (gS rfl q8 (gS rfl q8 (gS rfl q8 (oN (EvN.pickF rfl q8 (Bo false) rfl) ?_)))))
      obtain rfl := osi h
      exact js7 _ _ ⟨(),trivial,cutW rfl (wkC rfl wkN)⟩
    ·intro _ _
     replace h := ks7
     clear ks7
     refine oN (EvN.asg (Bo s7) rfl) (TO.nil (T.ret ?_))
     obtain rfl := osi h
     replace h := congrArg some (show _ = _ from ks5)
     obtain rfl := osi h
     repeat (first|refine retS ?_|refine retB ?_)
     exact Fin.ret (vs:=[Bo s7]) (.cons (.tmp rfl) .nil) (.of_isF 9 _ rfl)
   ·replace h := condF q6 h
    refine T.seq (T.region (oN (EvN.seq rfl rfl) (oN (EvN.asg (Bo (decide (name = (⟨#[108,111,99]⟩ : ByteArray)))) rfl) (TO.nil ?_))))
    refine T.cond rfl (fun q9 => ?_) (fun q9 => ?_)
    ·replace h := condT q9 h
     cases h
    ·replace h := condF q9 h
     refine T.seq (T.region (oN (EvN.seq rfl rfl) (oN (EvN.asg (Bo (decide (name = (⟨#[101,120,116]⟩ : ByteArray)))) rfl) (TO.nil ?_))))
     refine T.cond rfl (fun q10 => ?_) (fun q10 => ?_)
     ·replace h := condT q10 h
      cases h
     ·replace h := condF q10 h
      refine T.seq (T.clean (H0:=[some ⟨0,5,101,[[I (d0.Thread),I (d0.Index),I (d0.Loc),Bo (d0.Reads),Bo (d0.Writes)]]⟩,some ⟨0,5,101,[[I (d1.Thread),I (d1.Index),I (d1.Loc),Bo (d1.Reads),Bo (d1.Writes)]]⟩]) (e0:=envOf [(34,St name),(15,Bo s3),(14,.hp 1 0 5 0 0),(13,.hp 0 0 5 0 0),(7,.fp (ZEx.c x) 0),(0,eL (cL ZIn.c) p),(3,St name),(4,I i),(5,I k_)]) rfl (wkC rfl (wkC rfl (wkC rfl (wkC rfl (wkC rfl (wkC rfl (wkC rfl (wkC rfl (wkC rfl wkN))))))))) (T.region (oN (EvN.seq rfl rfl) (oN (EvN.asg (Bo (decide (name = (⟨#[114,102]⟩ : ByteArray)))) rfl) (TO.nil ?_)))))
      refine T.cond rfl (fun q11 => ?_) (fun q11 => ?_)
      ·replace h := condT q11 h
       refine T.seq (T.clean (H0:=[some ⟨0,5,101,[[I (d0.Thread),I (d0.Index),I (d0.Loc),Bo (d0.Reads),Bo (d0.Writes)]]⟩,some ⟨0,5,101,[[I (d1.Thread),I (d1.Index),I (d1.Loc),Bo (d1.Reads),Bo (d1.Writes)]]⟩]) (e0:=envOf [(14,.hp 1 0 5 0 0),(7,.fp (ZEx.c x) 0),(4,I i),(5,I k_)]) rfl (wkC rfl (wkC rfl (wkC rfl (wkC rfl wkN)))) (T.region (oN (EvN.fahp Try.underlying101 rfl (by kernel_rfl) rfl) (oA (EvA.loadhp (Bo (d1.Reads)) ty4 rfl rfl rfl rfl rfl rfl) (oN (EvN.mv (Bo (d1.Reads)) rfl) ?_)))))
       obtain ⟨s12,h,ks12⟩ := bindL h
       refine TO.joinF (G:=Unit) 8 (fun _ => True) (fun _ => [(68,Bo s12)]) (fun _ => [some ⟨0,5,101,[[I (d0.Thread),I (d0.Index),I (d0.Loc),Bo (d0.Reads),Bo (d0.Writes)]]⟩,some ⟨0,5,101,[[I (d1.Thread),I (d1.Index),I (d1.Loc),Bo (d1.Reads),Bo (d1.Writes)]]⟩]) ?_ (fun js12 => ?_)
       rotate_left
       ·clear ks12
        rcases bifL h with ⟨q13,h⟩ | ⟨q13,h⟩
        ·refine gN rfl q13 (EvN.fafp Try.underlying43 rfl (by kernel_rfl) rfl) (gN rfl q13 (EvN.loadfp (eL cI x.From) ty23 rfl rfl) (gN rfl q13 (EvN.mv (I k_) rfl) ?_))
         obtain ⟨g14,h⟩ := gdD h
         refine gN rfl q13 (EvN.ixL sl23 rfl rfl g14 (fun _ => rfl)) (gN rfl q13 (EvN.loadfp (I (x.From.getD k_.toNat default)) ty3 rfl rfl) (gN rfl q13 (EvN.mv (I i) rfl) (gN rfl q13 (EvN.ieq rfl rfl) (oN (EvN.pickT rfl q13 (Bo ((x.From.getD k_.toNat default) == i)) rfl) ?_))))
         obtain rfl := osi h
         exact js12 _ _ ⟨(),trivial,cutW rfl (wkC rfl wkN)⟩
        ·refine gS rfl q13 (gS rfl q13 (gS rfl q13 (gS rfl q13 (gS rfl q13 (gS rfl q13 (gS rfl q13 (oN (EvN.pickF rfl q13 (Bo false) rfl) ?_)))))))
         obtain rfl := osi h
         exact js12 _ _ ⟨(),trivial,cutW rfl (wkC rfl wkN)⟩
       ·intro _ _
        replace h := ks12
        clear ks12
        refine oN (EvN.asg (Bo s12) rfl) (TO.nil (T.ret ?_))
        obtain rfl := osi h
        replace h := congrArg some (show _ = _ from ks5)
        obtain rfl := osi h
        repeat (first|refine retS ?_|refine retB ?_)
        exact Fin.ret (vs:=[Bo s12]) (.cons (.tmp rfl) .nil) (.of_isF 9 _ rfl)
      ·replace h := condF q11 h
       refine T.seq (T.region (oN (EvN.seq rfl rfl) (oN (EvN.asg (Bo (decide (name = (⟨#[99,111]⟩ : ByteArray)))) rfl) (TO.nil ?_))))
       refine T.cond rfl (fun q15 => ?_) (fun q15 => ?_)
       ·replace h := condT q15 h
        refine T.seq (T.clean (H0:=[some ⟨0,5,101,[[I (d0.Thread),I (d0.Index),I (d0.Loc),Bo (d0.Reads),Bo (d0.Writes)]]⟩,some ⟨0,5,101,[[I (d1.Thread),I (d1.Index),I (d1.Loc),Bo (d1.Reads),Bo (d1.Writes)]]⟩]) (e0:=envOf [(14,.hp 1 0 5 0 0),(13,.hp 0 0 5 0 0),(7,.fp (ZEx.c x) 0),(4,I i),(5,I k_)]) rfl (wkC rfl (wkC rfl (wkC rfl (wkC rfl (wkC rfl wkN))))) (T.region (oN (EvN.fahp Try.underlying101 rfl (by kernel_rfl) rfl) (oA (EvA.loadhp (Bo (d0.Writes)) ty4 rfl rfl rfl rfl rfl rfl) (oN (EvN.mv (Bo (d0.Writes)) rfl) ?_)))))
        obtain ⟨s16,h,ks16⟩ := bindL h
        refine TO.joinF (G:=Unit) 3 (fun _ => True) (fun _ => [(76,Bo s16),(14,.hp 1 0 5 0 0),(13,.hp 0 0 5 0 0),(7,.fp (ZEx.c x) 0),(4,I i),(5,I k_)]) (fun _ => [some ⟨0,5,101,[[I (d0.Thread),I (d0.Index),I (d0.Loc),Bo (d0.Reads),Bo (d0.Writes)]]⟩,some ⟨0,5,101,[[I (d1.Thread),I (d1.Index),I (d1.Loc),Bo (d1.Reads),Bo (d1.Writes)]]⟩]) ?_ (fun js16 => ?_)
        rotate_left
        ·clear ks16
         rcases bifL h with ⟨q17,h⟩ | ⟨q17,h⟩
         ·refine gN rfl q17 (EvN.fahp Try.underlying101 rfl (by kernel_rfl) rfl) (gA rfl q17 (EvA.loadhp (Bo (d1.Writes)) ty4 rfl rfl rfl rfl rfl rfl) (oN (EvN.pickT rfl q17 (Bo (d1.Writes)) rfl) ?_))
          obtain rfl := osi h
          exact js16 _ _ ⟨(),trivial,cutW rfl (wkC rfl (wkC rfl (wkC rfl (wkC rfl (wkC rfl (wkC rfl wkN))))))⟩
         ·refine gS rfl q17 (gS rfl q17 (oN (EvN.pickF rfl q17 (Bo false) rfl) ?_))
          obtain rfl := osi h
          exact js16 _ _ ⟨(),trivial,cutW rfl (wkC rfl (wkC rfl (wkC rfl (wkC rfl (wkC rfl (wkC rfl wkN))))))⟩
        ·intro _ _
         replace h := ks16
         clear ks16
         refine oN (EvN.mv (Bo s16) rfl) ?_
         obtain ⟨s18,h,ks18⟩ := bindL h
         refine TO.joinF (G:=Unit) 6 (fun _ => True) (fun _ => [(83,Bo s18),(13,.hp 0 0 5 0 0),(7,.fp (ZEx.c x) 0),(4,I i),(5,I k_)]) (fun _ => [some ⟨0,5,101,[[I (d0.Thread),I (d0.Index),I (d0.Loc),Bo (d0.Reads),Bo (d0.Writes)]]⟩,some ⟨0,5,101,[[I (d1.Thread),I (d1.Index),I (d1.Loc),Bo (d1.Reads),Bo (d1.Writes)]]⟩]) ?_ (fun js18 => ?_)
         rotate_left
         ·clear ks18
          rcases bifL h with ⟨q19,h⟩ | ⟨q19,h⟩
          ·refine gN rfl q19 (EvN.fahp Try.underlying101 rfl (by kernel_rfl) rfl) (gA rfl q19 (EvA.loadhp (I (d0.Loc)) ty3 rfl rfl rfl rfl rfl rfl) (gN rfl q19 (EvN.fahp Try.underlying101 rfl (by kernel_rfl) rfl) (gA rfl q19 (EvA.loadhp (I (d1.Loc)) ty3 rfl rfl rfl rfl rfl rfl) (gN rfl q19 (EvN.ieq rfl rfl) (oN (EvN.pickT rfl q19 (Bo ((d0.Loc) == (d1.Loc))) rfl) ?_)))))
           obtain rfl := osi h
           exact js18 _ _ ⟨(),trivial,cutW rfl (wkC rfl (wkC rfl (wkC rfl (wkC rfl (wkC rfl wkN)))))⟩
          ·refine gS rfl q19 (gS rfl q19 (gS rfl q19 (gS rfl q19 (gS rfl q19 (oN (EvN.pickF rfl q19 (Bo false) rfl) ?_)))))
           obtain rfl := osi h
           exact js18 _ _ ⟨(),trivial,cutW rfl (wkC rfl (wkC rfl (wkC rfl (wkC rfl (wkC rfl wkN)))))⟩
         ·intro _ _
          replace h := ks18
          clear ks18
          refine oN (EvN.mv (Bo s18) rfl) ?_
          obtain ⟨s20,h,ks20⟩ := bindL h
          refine TO.joinF (G:=Unit) 7 (fun _ => True) (fun _ => [(91,Bo s20)]) (fun _ => [some ⟨0,5,101,[[I (d0.Thread),I (d0.Index),I (d0.Loc),Bo (d0.Reads),Bo (d0.Writes)]]⟩,some ⟨0,5,101,[[I (d1.Thread),I (d1.Index),I (d1.Loc),Bo (d1.Reads),Bo (d1.Writes)]]⟩]) ?_ (fun js20 => ?_)
          rotate_left
          ·clear ks20
           rcases bifL h with ⟨q21,h⟩ | ⟨q21,h⟩
           ·refine gN rfl q21 (EvN.loadfp (.agg (ZEx.c x)) ty43 rfl rfl) (gN rfl q21 (EvN.fahp Try.underlying101 rfl (by kernel_rfl) rfl) (gA rfl q21 (EvA.loadhp (I (d0.Loc)) ty3 rfl rfl rfl rfl rfl rfl) (gN rfl q21 (EvN.mv (I i) rfl) (gN rfl q21 (EvN.mv (I k_) rfl) ?_))))
            obtain ⟨v22,cv22,h⟩ := bindL h
            refine gN rfl q21 (EvN.call rfl rfl rfl (F_spec_l6Before_P x (d0.Loc) i k_ cv22) rfl) (oN (EvN.pickT rfl q21 (Bo v22) rfl) ?_)
            obtain rfl := osi h
            exact js20 _ _ ⟨(),trivial,cutW rfl (wkC rfl wkN)⟩
           ·refine gS rfl q21 (gS rfl q21 (gS rfl q21 (gS rfl q21 (gS rfl q21 (gS rfl q21 (oN (EvN.pickF rfl q21 (Bo false) rfl) ?_))))))
            obtain rfl := osi h
            exact js20 _ _ ⟨(),trivial,cutW rfl (wkC rfl wkN)⟩
          ·intro _ _
           replace h := ks20
           clear ks20
           refine oN (EvN.asg (Bo s20) rfl) (TO.nil (T.ret ?_))
           obtain rfl := osi h
           replace h := congrArg some (show _ = _ from ks5)
           obtain rfl := osi h
           repeat (first|refine retS ?_|refine retB ?_)
           exact Fin.ret (vs:=[Bo s20]) (.cons (.tmp rfl) .nil) (.of_isF 9 _ rfl)
       ·replace h := condF q15 h
        refine T.seq (T.region (oN (EvN.seq rfl rfl) (oN (EvN.asg (Bo (decide (name = (⟨#[102,114]⟩ : ByteArray)))) rfl) (TO.nil ?_))))
        refine T.cond rfl (fun q23 => ?_) (fun q23 => ?_)
        ·replace h := condT q23 h
         obtain ⟨s24,h,ks24⟩ := bindL h
         refine T.joinF (G:=Unit) (fun gh => True) (fun gh => [(12,Bo s24)]) (fun gh => [some ⟨0,5,101,[[I (d0.Thread),I (d0.Index),I (d0.Loc),Bo (d0.Reads),Bo (d0.Writes)]]⟩,some ⟨0,5,101,[[I (d1.Thread),I (d1.Index),I (d1.Loc),Bo (d1.Reads),Bo (d1.Writes)]]⟩]) (fun gh hg => ?_) ?_
         ·clear h
          have h := ks24
          clear ks24
          refine T.ret ?_
          obtain rfl := osi h
          replace h := congrArg some (show _ = _ from ks5)
          obtain rfl := osi h
          repeat (first|refine retS ?_|refine retB ?_)
          exact Fin.ret (vs:=[Bo s24]) (.cons (.tmp rfl) .nil) (.of_isF 9 _ rfl)
         ·clear ks24
          refine T.clean (H0:=[some ⟨0,5,101,[[I (d0.Thread),I (d0.Index),I (d0.Loc),Bo (d0.Reads),Bo (d0.Writes)]]⟩,some ⟨0,5,101,[[I (d1.Thread),I (d1.Index),I (d1.Loc),Bo (d1.Reads),Bo (d1.Writes)]]⟩]) (e0:=envOf [(14,.hp 1 0 5 0 0),(13,.hp 0 0 5 0 0),(7,.fp (ZEx.c x) 0),(4,I i),(5,I k_)]) rfl (wkC rfl (wkC rfl (wkC rfl (wkC rfl (wkC rfl wkN))))) (T.drawG (fun i => [([],false),([0],false),([],false),([],false),([1],false),([],false),([],false),([],false),([0],false),([],false),([1],false),([],false),([],false),([],false),([],false),([],false),([],false),([],false),([],false),([],false),([],false),([0],false),([],false),([],false),([],false),([],false),([],false),([],false),([],false),([],false),([],false)].getD i ([],false)) (by kernel_rfl) (by kernel_rfl) (tN rfl (EvN.fahp Try.underlying101 rfl (by kernel_rfl) rfl) (tR [0] rfl (fun G hG => EvA.loadhp (Bo (d0.Reads)) ty4 rfl (hG.a0 rfl) rfl rfl rfl rfl) (tN rfl (EvN.mv (Bo (d0.Reads)) rfl) ?_))))
          rcases bifL h with ⟨q25,h⟩ | ⟨q25,h⟩
          ·refine tgN rfl q25 rfl (EvN.fahp Try.underlying101 rfl (by kernel_rfl) rfl) (tgR rfl q25 [1] rfl (fun G hG => EvA.loadhp (Bo (d1.Writes)) ty4 rfl (hG.a0 rfl) rfl rfl rfl rfl) (tN rfl (EvN.pickT rfl q25 (Bo (d1.Writes)) rfl) (tN rfl (EvN.mv (Bo (d1.Writes)) rfl) ?_)))
           rcases bifL h with ⟨q26,h⟩ | ⟨q26,h⟩
           ·refine tgN rfl q26 rfl (EvN.fahp Try.underlying101 rfl (by kernel_rfl) rfl) (tgR rfl q26 [0] rfl (fun G hG => EvA.loadhp (I (d0.Loc)) ty3 rfl (hG.a0 rfl) rfl rfl rfl rfl) (tgN rfl q26 rfl (EvN.fahp Try.underlying101 rfl (by kernel_rfl) rfl) (tgR rfl q26 [1] rfl (fun G hG => EvA.loadhp (I (d1.Loc)) ty3 rfl (hG.a0 rfl) rfl rfl rfl rfl) (tgN rfl q26 rfl (EvN.ieq rfl rfl) (tN rfl (EvN.pickT rfl q26 (Bo ((d0.Loc) == (d1.Loc))) rfl) (tN rfl (EvN.mv (Bo ((d0.Loc) == (d1.Loc))) rfl) ?_))))))
            rcases bifL h with ⟨q27,h⟩ | ⟨q27,h⟩
            ·refine tgN rfl q27 rfl (EvN.mv (I i) rfl) (tgN rfl q27 rfl (EvN.mv (I k_) rfl) (tgN rfl q27 rfl (EvN.ine rfl rfl) (tN rfl (EvN.pickT rfl q27 (Bo (i != k_)) rfl) (tN rfl (EvN.mv (Bo (i != k_)) rfl) ?_))))
             rcases bifL h with ⟨q28,h⟩ | ⟨q28,h⟩
             ·refine tgN rfl q28 rfl (EvN.loadfp (.agg (ZEx.c x)) ty43 rfl rfl) (tgN rfl q28 rfl (EvN.fahp Try.underlying101 rfl (by kernel_rfl) rfl) (tgR rfl q28 [0] rfl (fun G hG => EvA.loadhp (I (d0.Loc)) ty3 rfl (hG.a0 rfl) rfl rfl rfl rfl) (tgN rfl q28 rfl (EvN.fafp Try.underlying43 rfl (by kernel_rfl) rfl) (tgN rfl q28 rfl (EvN.loadfp (eL cI x.From) ty23 rfl rfl) (tgN rfl q28 rfl (EvN.mv (I i) rfl) ?_)))))
              obtain ⟨g29,h⟩ := gdD h
              refine tgN rfl q28 rfl (EvN.ixL sl23 rfl rfl g29 (fun _ => rfl)) (tgN rfl q28 rfl (EvN.loadfp (I (x.From.getD i.toNat default)) ty3 rfl rfl) (tgN rfl q28 rfl (EvN.mv (I k_) rfl) ?_))
              obtain ⟨v30,cv30,h⟩ := bindL h
              refine tgN rfl q28 rfl (EvN.call rfl rfl rfl (F_spec_l6Before_P x (d0.Loc) (x.From.getD i.toNat default) k_ cv30) rfl) (tN rfl (EvN.pickT rfl q28 (Bo v30) rfl) (tN rfl (EvN.asg (Bo v30) rfl) (TG.nil ?_)))
              obtain rfl := osi h
              exact ⟨(),trivial,cutW rfl (wkC rfl wkN)⟩
             ·refine tgS rfl q28 (tgS rfl q28 (tgS rfl q28 (tgS rfl q28 (tgS rfl q28 (tgS rfl q28 (tgS rfl q28 (tgS rfl q28 ?_)))))))
              refine tgS rfl q28 (tgS rfl q28 (tN rfl (EvN.pickF rfl q28 (Bo false) rfl) (tN rfl (EvN.asg (Bo false) rfl) (TG.nil ?_))))
              obtain rfl := osi h
              exact ⟨(),trivial,cutW rfl (wkC rfl wkN)⟩
            ·refine tgS rfl q27 (tgS rfl q27 (tgS rfl q27 (tN rfl (EvN.pickF rfl q27 (Bo false) rfl) (tN rfl (EvN.mv (Bo false) rfl) (tgS rfl rfl (tgS rfl rfl (tgS rfl rfl ?_)))))))
             refine tgS rfl rfl (tgS rfl rfl (tgS rfl rfl (tgS rfl rfl (tgS rfl rfl (tgS rfl rfl (tgS rfl rfl (tN rfl (EvN.pickF rfl rfl (Bo false) rfl) ?_)))))))
             refine tN rfl (EvN.asg (Bo false) rfl) (TG.nil ?_)
             obtain rfl := osi h
             exact ⟨(),trivial,cutW rfl (wkC rfl wkN)⟩
           ·refine tgS rfl q26 (tgS rfl q26 (tgS rfl q26 (tgS rfl q26 (tgS rfl q26 (tN rfl (EvN.pickF rfl q26 (Bo false) rfl) (tN rfl (EvN.mv (Bo false) rfl) (tgS rfl rfl ?_)))))))
            refine tgS rfl rfl (tgS rfl rfl (tN rfl (EvN.pickF rfl rfl (Bo false) rfl) (tN rfl (EvN.mv (Bo false) rfl) (tgS rfl rfl (tgS rfl rfl (tgS rfl rfl (tgS rfl rfl ?_)))))))
            refine tgS rfl rfl (tgS rfl rfl (tgS rfl rfl (tgS rfl rfl (tgS rfl rfl (tgS rfl rfl (tN rfl (EvN.pickF rfl rfl (Bo false) rfl) (tN rfl (EvN.asg (Bo false) rfl) ?_)))))))
            refine TG.nil ?_
            obtain rfl := osi h
            exact ⟨(),trivial,cutW rfl (wkC rfl wkN)⟩
          ·refine tgS rfl q25 (tgS rfl q25 (tN rfl (EvN.pickF rfl q25 (Bo false) rfl) (tN rfl (EvN.mv (Bo false) rfl) (tgS rfl rfl (tgS rfl rfl (tgS rfl rfl (tgS rfl rfl ?_)))))))
           refine tgS rfl rfl (tN rfl (EvN.pickF rfl rfl (Bo false) rfl) (tN rfl (EvN.mv (Bo false) rfl) (tgS rfl rfl (tgS rfl rfl (tgS rfl rfl (tN rfl (EvN.pickF rfl rfl (Bo false) rfl) (tN rfl (EvN.mv (Bo false) rfl) ?_)))))))
           refine tgS rfl rfl (tgS rfl rfl (tgS rfl rfl (tgS rfl rfl (tgS rfl rfl (tgS rfl rfl (tgS rfl rfl (tgS rfl rfl ?_)))))))
           refine tgS rfl rfl (tgS rfl rfl (tN rfl (EvN.pickF rfl rfl (Bo false) rfl) (tN rfl (EvN.asg (Bo false) rfl) (TG.nil ?_))))
           obtain rfl := osi h
           exact ⟨(),trivial,cutW rfl (wkC rfl wkN)⟩
        ·replace h := condF q23 h
         refine T.seq (T.clean (H0:=[some ⟨0,5,101,[[I (d0.Thread),I (d0.Index),I (d0.Loc),Bo (d0.Reads),Bo (d0.Writes)]]⟩,some ⟨0,5,101,[[I (d1.Thread),I (d1.Index),I (d1.Loc),Bo (d1.Reads),Bo (d1.Writes)]]⟩]) (e0:=envOf [(34,St name),(15,Bo s3),(14,.hp 1 0 5 0 0),(13,.hp 0 0 5 0 0),(0,eL (cL ZIn.c) p),(3,St name),(4,I i),(5,I k_)]) rfl (wkC rfl (wkC rfl (wkC rfl (wkC rfl (wkC rfl (wkC rfl (wkC rfl (wkC rfl wkN)))))))) (T.region (oN (EvN.seq rfl rfl) (oN (EvN.asg (Bo (decide (name = (⟨#[102,101,110,99,101]⟩ : ByteArray)))) rfl) (TO.nil ?_)))))
         refine T.cond rfl (fun q31 => ?_) (fun q31 => ?_)
         ·replace h := condT q31 h
          cases h
         ·replace h := condF q31 h
          refine T.seq (T.region (oN (EvN.seq rfl rfl) (oN (EvN.asg (Bo (decide (name = (⟨#[119,114]⟩ : ByteArray)))) rfl) (TO.nil ?_))))
          refine T.cond rfl (fun q32 => ?_) (fun q32 => ?_)
          ·replace h := condT q32 h
           cases h
          ·replace h := condF q32 h
           refine T.seq (T.clean (H0:=[some ⟨0,5,101,[[I (d0.Thread),I (d0.Index),I (d0.Loc),Bo (d0.Reads),Bo (d0.Writes)]]⟩,some ⟨0,5,101,[[I (d1.Thread),I (d1.Index),I (d1.Loc),Bo (d1.Reads),Bo (d1.Writes)]]⟩]) (e0:=envOf [(34,St name),(14,.hp 1 0 5 0 0),(13,.hp 0 0 5 0 0),(3,St name),(4,I i),(5,I k_)]) rfl (wkC rfl (wkC rfl (wkC rfl (wkC rfl (wkC rfl (wkC rfl wkN)))))) (T.region (oN (EvN.seq rfl rfl) (oN (EvN.asg (Bo (decide (name = (⟨#[119,119]⟩ : ByteArray)))) rfl) (TO.nil ?_)))))
           refine T.cond rfl (fun q33 => ?_) (fun q33 => ?_)
           ·replace h := condT q33 h
            cases h
           ·replace h := condF q33 h
            refine T.skip ?_
            obtain rfl := osi h
            exact ⟨(),(),ks5,trivial,cutW rfl (wkC rfl (wkC rfl (wkC rfl wkN)))⟩
theorem F_spec_l6Rel_P (p : List (List ZIn)) (x : ZEx) (name : ByteArray) {q : (List Int)} (h : F_spec_l6Rel p x name = some q) : PCall Try.prog 109 [eL (cL ZIn.c) p,.agg (ZEx.c x),St name] (eL cI q) := by
 refine PCall.mkT Try.func109 rfl (by kernel_rfl) rfl (by kernel_rfl) (e0:=envOf [(0,eL (cL ZIn.c) p),(1,.agg (ZEx.c x)),(2,St name)]) (wkC rfl (wkC rfl (wkC rfl wkN))) (T.seq (T.region (oN (EvN.bxF [eL cI x.From,eL (cL cI) x.Order] rfl rfl rfl) (oN (EvN.asg (.nil) rfl) (TO.nil (T.seq (T.region ?_)))))))
 refine oN (EvN.mv (eL (cL ZIn.c) p) rfl) ?_
 obtain ⟨v1,cv1,h⟩ := bindL h
 refine oN (EvN.call rfl rfl rfl (F_spec_l6Events_P p cv1) rfl) (oN (EvN.asg (eL ZEv.c v1) rfl) (TO.nil (T.seq (T.region (oA (EvA.mkO (c:=cI) ([] : List Int) [] sl23 rfl rfl rfl (fun _ => rfl) rfl rfl) (oN (EvN.asg (hS false 0 0 1 (([] : List Int).length)) rfl) (TO.nil ?_)))))))
 obtain ⟨s2,h,ks2⟩ := bindL h
 refine T.joinF (G:=Nat) (fun gh => True) (fun gh => [(8,hS false 0 gh 1 s2.length)]) (fun gh => [bE false gh 1 3 (s2.map cI)]) (fun u25 hg => ?_) ?_
 ·clear h
  have h := ks2
  clear ks2
  refine T.seq (T.region (oN (EvN.mv (hS false 0 u25 1 s2.length) rfl) (oN (EvN.asg (hS false 0 u25 1 s2.length) rfl) (TO.nil (T.ret ?_)))))
  obtain rfl := osi h
  repeat (first|refine retS ?_|refine retB ?_)
  exact Fin.ret (vs:=[hS false 0 u25 1 s2.length]) (.cons (.tmp rfl) .nil) (Fz.own (g:=false) (ver:=u25) (l:=s2) rfl rfl rfl nofun (fun _ => rfl))
 ·clear ks2
  refine T.seq (T.region (oN (EvN.asg (I (0 : Int)) rfl) (TO.nil (T.block ?_))))
  refine T.loop (S:=(List Int) × Int) (G:=Nat) (F_spec_l6Rel_L7 p x name v1) (fun s6 gh => True) (fun s6 gh => [(9,I s6.2),(8,hS false 0 gh 1 s6.1.length),(7,eL ZEv.c v1),(4,.fp (ZEx.c x) 0),(0,eL (cL ZIn.c) p),(2,St name)]) (fun s6 gh => [bE false gh 1 3 (s6.1.map cI)]) (s0:=(([] : List Int),(0 : Int))) 0 h trivial (cutW rfl (wkC rfl (wkC rfl (wkC rfl (wkC rfl (wkC rfl (wkC rfl wkN))))))) (fun s6 u8 ws6 h hg => ?_)
  refine T.seq (T.seq (T.region (oN (EvN.mv (I s6.2) rfl) (oN (EvN.mv (eL ZEv.c v1) rfl) (oN (EvN.lenL sl98 rfl) (oN (EvN.ilt rfl rfl) (TO.nil ?_)))))))
  refine T.cond rfl (fun q9 => ?_) (fun q9 => ?_)
  ·replace h := condT q9 h
   refine T.skip ?_
   obtain ⟨s10,h,ks10⟩ := bindL h
   refine T.joinF (G:=Nat) (fun gh => True) (fun gh => [(8,hS false 0 gh 1 s10.length),(9,I s6.2),(7,eL ZEv.c v1),(4,.fp (ZEx.c x) 0),(0,eL (cL ZIn.c) p),(2,St name)]) (fun gh => [bE false gh 1 3 (s10.map cI)]) (fun u23 hg => ?_) ?_
   ·clear h
    have h := ks10
    clear ks10
    refine T.region (oN (EvN.mv (I s6.2) rfl) ?_)
    obtain ⟨g24,h⟩ := gdW h
    refine oN (EvN.add rfl rfl g24) (oN (EvN.asg (I (s6.2 + (1 : Int))) rfl) (TO.nil ?_))
    obtain rfl := osi h
    exact ⟨(s10,(s6.2 + (1 : Int))),u23,rfl,trivial,cutW rfl (wkC rfl (wkC rfl (wkC rfl (wkC rfl (wkC rfl (wkC rfl wkN))))))⟩
   ·clear ks10
    refine T.block (T.seq (T.region (oN (EvN.asg (I (0 : Int)) rfl) (TO.nil ?_))))
    obtain ⟨s11,h,ks11⟩ := bindL h
    refine T.joinF (G:=Unit) (fun gh => True) (fun gh => [(10,I s11),(9,I s6.2),(8,hS false 0 u8 1 s6.1.length),(7,eL ZEv.c v1),(4,.fp (ZEx.c x) 0),(0,eL (cL ZIn.c) p),(2,St name)]) (fun gh => [bE false u8 1 3 (s6.1.map cI)]) (fun gh hg => ?_) ?_
    ·clear h
     have h := ks11
     clear ks11
     refine T.region (oN (EvN.mv (hS false 0 u8 1 s6.1.length) rfl) (oN (EvN.mv (I s11) rfl) (oN (EvN.mkF (c:=cI) ([s11] : List Int) [[I s11]] sl23 rfl rfl rfl (fun _ => rfl) (fun _ => rfl) rfl) ?_)))
     obtain ⟨g22,h⟩ := gdL h
     refine oA (EvA.app1 (g:=false) (l:=s6.1) s11 sl23 (by kernel_rfl) rfl rfl rfl nofun (SrcOk.fz (l:=([s11] : List Int)) rfl (fun _ => rfl)) g22) (oN (EvN.asg (hS false 0 (u8 + 1) 1 ((s6.1 ++ [s11]).length)) rfl) (TO.nil ?_))
     obtain rfl := osi h
     exact ⟨u8 + 1,trivial,cutW rfl (wkC rfl (wkC rfl (wkC rfl (wkC rfl (wkC rfl (wkC rfl wkN))))))⟩
    ·clear ks11
     refine T.seq (T.region (oN (EvN.asg (I (0 : Int)) rfl) (TO.nil (T.block ?_))))
     refine T.loop (S:=Int × Int) (G:=Unit) (F_spec_l6Rel_L15 p x name v1 s6) (fun s14 gh => True) (fun s14 gh => [(11,I s14.1),(10,I s14.2),(9,I s6.2),(8,hS false 0 u8 1 s6.1.length),(7,eL ZEv.c v1),(4,.fp (ZEx.c x) 0),(0,eL (cL ZIn.c) p),(2,St name)]) (fun s14 gh => [bE false u8 1 3 (s6.1.map cI)]) (s0:=((0 : Int),(0 : Int))) () h trivial (cutW rfl (wkC rfl (wkC rfl (wkC rfl (wkC rfl (wkC rfl (wkC rfl (wkC rfl (wkC rfl wkN))))))))) (fun s14 gh ws14 h hg => ?_)
     refine T.seq (T.seq (T.region (oN (EvN.mv (I s14.1) rfl) (oN (EvN.mv (eL ZEv.c v1) rfl) (oN (EvN.lenL sl98 rfl) (oN (EvN.ilt rfl rfl) (TO.nil ?_)))))))
     refine T.cond rfl (fun q16 => ?_) (fun q16 => ?_)
     ·replace h := condT q16 h
      refine T.skip ?_
      obtain ⟨s17,h,ks17⟩ := bindL h
      refine T.joinF (G:=Unit) (fun gh => True) (fun gh => [(10,I s17),(11,I s14.1),(9,I s6.2),(8,hS false 0 u8 1 s6.1.length),(7,eL ZEv.c v1),(4,.fp (ZEx.c x) 0),(0,eL (cL ZIn.c) p),(2,St name)]) (fun gh => [bE false u8 1 3 (s6.1.map cI)]) (fun gh hg => ?_) ?_
      ·clear h
       have h := ks17
       clear ks17
       refine T.region (oN (EvN.mv (I s14.1) rfl) ?_)
       obtain ⟨g21,h⟩ := gdW h
       refine oN (EvN.add rfl rfl g21) (oN (EvN.asg (I (s14.1 + (1 : Int))) rfl) (TO.nil ?_))
       obtain rfl := osi h
       exact ⟨((s14.1 + (1 : Int)),s17),(),rfl,trivial,cutW rfl (wkC rfl (wkC rfl (wkC rfl (wkC rfl (wkC rfl (wkC rfl (wkC rfl (wkC rfl wkN))))))))⟩
      ·clear ks17
       refine T.block (T.seq (T.region (oN (EvN.mv (eL (cL ZIn.c) p) rfl) (oN (EvN.loadfp (.agg (ZEx.c x)) ty43 rfl rfl) (oN (EvN.mv (eL ZEv.c v1) rfl) (oN (EvN.mv (St name) rfl) (oN (EvN.mv (I s6.2) rfl) ?_)))))))
       refine oN (EvN.mv (I s14.1) rfl) ?_
       obtain ⟨v18,cv18,h⟩ := bindL h
       refine oN (EvN.call rfl rfl rfl (F_spec_l6Pair_P p x v1 name s6.2 s14.1 cv18) rfl) (TO.nil ?_)
       refine T.cond rfl (fun q19 => ?_) (fun q19 => ?_)
       ·replace h := condT q19 h
        refine T.clean (H0:=[bE false u8 1 3 (s6.1.map cI)]) (e0:=envOf [(11,I s14.1),(10,I s14.2),(9,I s6.2),(8,hS false 0 u8 1 s6.1.length),(7,eL ZEv.c v1),(4,.fp (ZEx.c x) 0),(0,eL (cL ZIn.c) p),(2,St name)]) rfl (wkC rfl (wkC rfl (wkC rfl (wkC rfl (wkC rfl (wkC rfl (wkC rfl (wkC rfl wkN)))))))) (T.region (oN (EvN.mv (I s14.2) rfl) (oN (EvN.mv (I s14.1) rfl) ?_)))
        obtain ⟨g20,h⟩ := gdD h
        refine oN (EvN.shl rfl rfl g20) (oN (EvN.bor rfl rfl) (oN (EvN.asg (I (bOr .i64 s14.2 (bShl .i64 (1 : Int) s14.1))) rfl) (TO.nil ?_)))
        obtain rfl := osi h
        exact ⟨(),trivial,cutW rfl (wkC rfl (wkC rfl (wkC rfl (wkC rfl (wkC rfl (wkC rfl (wkC rfl (wkC rfl wkN))))))))⟩
       ·replace h := condF q19 h
        refine T.skip ?_
        obtain rfl := osi h
        exact ⟨(),trivial,cutW rfl (wkC rfl (wkC rfl (wkC rfl (wkC rfl (wkC rfl (wkC rfl (wkC rfl (wkC rfl wkN))))))))⟩
     ·replace h := condF q16 h
      refine T.exit ?_
      refine ⟨_,(osi h).symm,fun h => ?_⟩
      replace h := congrArg some h
      obtain rfl := osi h
      exact ⟨(),trivial,cutW rfl (wkC rfl (wkC rfl (wkC rfl (wkC rfl (wkC rfl (wkC rfl (wkC rfl wkN)))))))⟩
  ·replace h := condF q9 h
   refine T.exit ?_
   refine ⟨_,(osi h).symm,fun h => ?_⟩
   replace h := congrArg some h
   obtain rfl := osi h
   exact ⟨u8,trivial,cutW rfl (wkC rfl wkN)⟩
theorem F_spec_l2Union_P (a : List Int) (b : List Int) {q : (List Int)} (h : F_spec_l2Union a b = some q) : PCall Try.prog 110 [eL cI a,eL cI b] (eL cI q) := by
 refine PCall.mkT Try.func110 rfl (by kernel_rfl) rfl (by kernel_rfl) (e0:=envOf [(0,eL cI a),(1,eL cI b)]) (wkC rfl (wkC rfl wkN)) (T.seq (T.region (oN (EvN.asg (.nil) rfl) (TO.nil (T.seq (T.region (oA (EvA.mkO (c:=cI) ([] : List Int) [] sl23 rfl rfl rfl (fun _ => rfl) rfl rfl) ?_)))))))
 refine oN (EvN.asg (hS false 0 0 1 (([] : List Int).length)) rfl) (TO.nil ?_)
 obtain ⟨s1,h,ks1⟩ := bindL h
 refine T.joinF (G:=Nat) (fun gh => True) (fun gh => [(5,hS false 0 gh 1 s1.length)]) (fun gh => [bE false gh 1 3 (s1.map cI)]) (fun u13 hg => ?_) ?_
 ·clear h
  have h := ks1
  clear ks1
  refine T.seq (T.region (oN (EvN.mv (hS false 0 u13 1 s1.length) rfl) (oN (EvN.asg (hS false 0 u13 1 s1.length) rfl) (TO.nil (T.ret ?_)))))
  obtain rfl := osi h
  repeat (first|refine retS ?_|refine retB ?_)
  exact Fin.ret (vs:=[hS false 0 u13 1 s1.length]) (.cons (.tmp rfl) .nil) (Fz.own (g:=false) (ver:=u13) (l:=s1) rfl rfl rfl nofun (fun _ => rfl))
 ·clear ks1
  refine T.seq (T.region (oN (EvN.asg (I (0 : Int)) rfl) (TO.nil (T.block ?_))))
  refine T.loop (S:=(List Int) × Int) (G:=Nat) (F_spec_l2Union_L6 a b) (fun s5 gh => True) (fun s5 gh => [(6,I s5.2),(5,hS false 0 gh 1 s5.1.length),(0,eL cI a),(1,eL cI b)]) (fun s5 gh => [bE false gh 1 3 (s5.1.map cI)]) (s0:=(([] : List Int),(0 : Int))) 0 h trivial (cutW rfl (wkC rfl (wkC rfl (wkC rfl (wkC rfl wkN))))) (fun s5 u7 ws5 h hg => ?_)
  refine T.seq (T.seq (T.region (oN (EvN.mv (I s5.2) rfl) (oN (EvN.mv (eL cI a) rfl) (oN (EvN.lenL sl23 rfl) (oN (EvN.ilt rfl rfl) (TO.nil ?_)))))))
  refine T.cond rfl (fun q8 => ?_) (fun q8 => ?_)
  ·replace h := condT q8 h
   refine T.skip (T.seq (T.block (T.drawF (fun i => [([],false),([],false),([],false),([],false),([],false),([],false),([],false),([],false),([],false),([],false),([],false),([0],true),([],false)].getD i ([],false)) (by kernel_rfl) (by kernel_rfl) (fN rfl (EvN.mv (hS false 0 u7 1 s5.1.length) rfl) (fN rfl (EvN.mv (eL cI a) rfl) (fN rfl (EvN.mv (I s5.2) rfl) ?_))))))
   obtain ⟨g9,h⟩ := gdD h
   refine fN rfl (EvN.ixL sl23 rfl rfl g9 (fun _ => rfl)) (fN rfl (EvN.loadfp (I (a.getD s5.2.toNat default)) ty3 rfl rfl) (fN rfl (EvN.mv (eL cI b) rfl) (fN rfl (EvN.mv (I s5.2) rfl) ?_)))
   obtain ⟨g10,h⟩ := gdD h
   refine fN rfl (EvN.ixL sl23 rfl rfl g10 (fun _ => rfl)) (fN rfl (EvN.loadfp (I (b.getD s5.2.toNat default)) ty3 rfl rfl) (fN rfl (EvN.bor rfl rfl) (fN rfl (EvN.mkF (c:=cI) ([(bOr .i64 (a.getD s5.2.toNat default) (b.getD s5.2.toNat default))] : List Int) [[I (bOr .i64 (a.getD s5.2.toNat default) (b.getD s5.2.toNat default))]] sl23 rfl rfl rfl (fun _ => rfl) (fun _ => rfl) rfl) ?_)))
   obtain ⟨g11,h⟩ := gdL h
   refine fW 0 [] rfl rfl (fun G hG => EvA.app1 (g:=false) (l:=s5.1) (bOr .i64 (a.getD s5.2.toNat default) (b.getD s5.2.toNat default)) sl23 (by kernel_rfl) rfl rfl (hG.a0 rfl) nofun (SrcOk.fz (l:=([(bOr .i64 (a.getD s5.2.toNat default) (b.getD s5.2.toNat default))] : List Int)) rfl (fun _ => rfl)) g11) (fN rfl (EvN.asg (hS false 0 (u7 + 1) 1 ((s5.1 ++ [(bOr .i64 (a.getD s5.2.toNat default) (b.getD s5.2.toNat default))]).length)) rfl) (TF.nil (T.clean (H0:=[bE false (u7 + 1) 1 3 ((s5.1 ++ [(bOr .i64 (a.getD s5.2.toNat default) (b.getD s5.2.toNat default))]).map cI)]) (e0:=envOf [(5,hS false 0 (u7 + 1) 1 ((s5.1 ++ [(bOr .i64 (a.getD s5.2.toNat default) (b.getD s5.2.toNat default))]).length)),(6,I s5.2),(0,eL cI a),(1,eL cI b)]) rfl (wkC rfl (wkC rfl (wkC rfl (wkC rfl wkN)))) (T.region (oN (EvN.mv (I s5.2) rfl) ?_)))))
   obtain ⟨g12,h⟩ := gdW h
   refine oN (EvN.add rfl rfl g12) (oN (EvN.asg (I (s5.2 + (1 : Int))) rfl) (TO.nil ?_))
   obtain rfl := osi h
   exact ⟨((s5.1 ++ [(bOr .i64 (a.getD s5.2.toNat default) (b.getD s5.2.toNat default))]),(s5.2 + (1 : Int))),u7 + 1,rfl,trivial,cutW rfl (wkC rfl (wkC rfl (wkC rfl (wkC rfl wkN))))⟩
  ·replace h := condF q8 h
   refine T.exit ?_
   refine ⟨_,(osi h).symm,fun h => ?_⟩
   replace h := congrArg some h
   obtain rfl := osi h
   exact ⟨u7,trivial,cutW rfl (wkC rfl wkN)⟩
theorem F_spec_l13Before_P (p : List (List ZIn)) (x : ZEx) {q : (List Int)} (h : F_spec_l13Before p x = some q) : PCall Try.prog 61 [eL (cL ZIn.c) p,.agg (ZEx.c x)] (eL cI q) := by
 refine PCall.mkT Try.func61 rfl (by kernel_rfl) rfl (by kernel_rfl) (e0:=envOf [(0,eL (cL ZIn.c) p),(1,.agg (ZEx.c x))]) (wkC rfl (wkC rfl wkN)) (T.seq (T.region (oN (EvN.bxF [eL cI x.From,eL (cL cI) x.Order] rfl rfl rfl) (oN (EvN.asg (.nil) rfl) (TO.nil (T.seq (T.region ?_)))))))
 refine oN (EvN.mv (eL (cL ZIn.c) p) rfl) (oN (EvN.loadfp (.agg (ZEx.c x)) ty43 rfl rfl) ?_)
 obtain ⟨v1,cv1,h⟩ := bindL h
 refine oN (EvN.call rfl rfl rfl (F_spec_l6Rel_P p x (⟨#[112,111]⟩ : ByteArray) cv1) rfl) (oN (EvN.asg (eL cI v1) rfl) (TO.nil (T.seq (T.region (oN (EvN.mv (eL cI v1) rfl) (oN (EvN.mv (eL (cL ZIn.c) p) rfl) (oN (EvN.loadfp (.agg (ZEx.c x)) ty43 rfl rfl) ?_)))))))
 obtain ⟨v2,cv2,h⟩ := bindL h
 refine oN (EvN.call rfl rfl rfl (F_spec_l6Rel_P p x (⟨#[114,102]⟩ : ByteArray) cv2) rfl) ?_
 obtain ⟨v3,cv3,h⟩ := bindL h
 refine oN (EvN.call rfl rfl rfl (F_spec_l2Union_P v1 v2 cv3) rfl) (oN (EvN.asg (eL cI v3) rfl) (TO.nil (T.seq (T.clean (H0:=[]) (e0:=envOf [(5,eL cI v3),(3,.fp (ZEx.c x) 0),(0,eL (cL ZIn.c) p)]) rfl (wkC rfl (wkC rfl (wkC rfl wkN))) (T.region (oN (EvN.mv (eL cI v3) rfl) (oN (EvN.mv (eL (cL ZIn.c) p) rfl) ?_)))))))
 refine oN (EvN.loadfp (.agg (ZEx.c x)) ty43 rfl rfl) ?_
 obtain ⟨v4,cv4,h⟩ := bindL h
 refine oN (EvN.call rfl rfl rfl (F_spec_l6Rel_P p x (⟨#[99,111]⟩ : ByteArray) cv4) rfl) ?_
 obtain ⟨v5,cv5,h⟩ := bindL h
 refine oN (EvN.call rfl rfl rfl (F_spec_l2Union_P v3 v4 cv5) rfl) (oN (EvN.asg (eL cI v5) rfl) (TO.nil (T.seq (T.clean (H0:=[]) (e0:=envOf [(5,eL cI v5),(3,.fp (ZEx.c x) 0),(0,eL (cL ZIn.c) p)]) rfl (wkC rfl (wkC rfl (wkC rfl wkN))) (T.region (oN (EvN.mv (eL cI v5) rfl) (oN (EvN.mv (eL (cL ZIn.c) p) rfl) ?_)))))))
 refine oN (EvN.loadfp (.agg (ZEx.c x)) ty43 rfl rfl) ?_
 obtain ⟨v6,cv6,h⟩ := bindL h
 refine oN (EvN.call rfl rfl rfl (F_spec_l6Rel_P p x (⟨#[102,114]⟩ : ByteArray) cv6) rfl) ?_
 obtain ⟨v7,cv7,h⟩ := bindL h
 refine oN (EvN.call rfl rfl rfl (F_spec_l2Union_P v5 v6 cv7) rfl) (oN (EvN.asg (eL cI v7) rfl) (TO.nil (T.ret ?_)))
 obtain rfl := osi h
 repeat (first|refine retS ?_|refine retB ?_)
 exact Fin.ret (vs:=[eL cI v7]) (.cons (.tmp rfl) .nil) (.of_isF 9 _ rfl)
theorem F_spec_l2Full_P (n : Int) {q : Int} (h : F_spec_l2Full n = some q) : PCall Try.prog 106 [I n] (I q) := by
 refine PCall.mkT Try.func106 rfl (by kernel_rfl) rfl (by kernel_rfl) (e0:=envOf [(0,I n)]) (wkC rfl wkN) (T.seq (T.region (oN (EvN.asg (I (0 : Int)) rfl) (TO.nil (T.seq (T.region (oN (EvN.mv (I n) rfl) ?_)))))))
 obtain ⟨g1,h⟩ := gdD h
 refine oN (EvN.shl rfl rfl g1) ?_
 obtain ⟨g2,h⟩ := gdW h
 refine oN (EvN.sub rfl rfl g2) (oN (EvN.asg (I ((bShl .i64 (1 : Int) n) - (1 : Int))) rfl) (TO.nil (T.ret ?_)))
 obtain rfl := osi h
 repeat (first|refine retS ?_|refine retB ?_)
 exact Fin.ret (vs:=[I ((bShl .i64 (1 : Int) n) - (1 : Int))]) (.cons (.tmp rfl) .nil) (.of_isF 9 _ rfl)
theorem F_spec_l13Event_P (events : List ZEv) (t : Int) (index : Int) {q : Int} (h : F_spec_l13Event events t index = some q) : PCall Try.prog 107 [eL ZEv.c events,I t,I index] (I q) := by
 refine PCall.mkT Try.func107 rfl (by kernel_rfl) rfl (by kernel_rfl) (e0:=envOf [(0,eL ZEv.c events),(1,I t),(2,I index)]) (wkC rfl (wkC rfl (wkC rfl wkN))) (T.seq (T.region (oN (EvN.asg (I (0 : Int)) rfl) (TO.nil ?_))))
 obtain ⟨Ks1,es1,ws1,h,ks1⟩ := sumL h
 refine T.join (S:=Unit) (G:=Unit) (fun s1 => Ks1 s1 = some q) (fun s1 gh => True) (fun s1 gh => []) (fun s1 gh => []) (fun s1 gh h hg => ?_) ?_
 ·clear ks1
  subst es1
  refine T.seq (T.region (oN (EvN.asg (I (-1 : Int)) rfl) (TO.nil (T.ret ?_))))
  obtain rfl := osi h
  repeat (first|refine retS ?_|refine retB ?_)
  exact Fin.ret (vs:=[I (-1 : Int)]) (.cons (.tmp rfl) .nil) (.of_isF 9 _ rfl)
 ·refine T.seq (T.region (oN (EvN.asg (I (0 : Int)) rfl) (TO.nil (T.block ?_))))
  refine T.loop (S:=Int) (G:=Unit) (F_spec_l13Event_L5 events t index) (fun s4 gh => True) (fun s4 gh => [(7,I s4),(0,eL ZEv.c events),(1,I t),(2,I index)]) (fun s4 gh => []) (s0:=(0 : Int)) () h trivial (cutW rfl (wkC rfl (wkC rfl (wkC rfl (wkC rfl wkN))))) (fun s4 gh ws4 h hg => ?_)
  refine T.seq (T.seq (T.region (oN (EvN.mv (I s4) rfl) (oN (EvN.mv (eL ZEv.c events) rfl) (oN (EvN.lenL sl98 rfl) (oN (EvN.ilt rfl rfl) (TO.nil ?_)))))))
  refine T.cond rfl (fun q6 => ?_) (fun q6 => ?_)
  ·replace h := condT q6 h
   refine T.skip (T.seq (T.block (T.seq (T.region (oN (EvN.mv (eL ZEv.c events) rfl) (oN (EvN.mv (I s4) rfl) ?_))))))
   obtain ⟨g7,h⟩ := gdD h
   refine oN (EvN.ixL sl98 rfl rfl g7 (fun _ => rfl)) (oN (EvN.fafp Try.underlying101 rfl (by kernel_rfl) rfl) (oN (EvN.loadfp (I ((events.getD s4.toNat default).Thread)) ty3 rfl rfl) (oN (EvN.mv (I t) rfl) (oN (EvN.ieq rfl rfl) (oN (EvN.mv (Bo (((events.getD s4.toNat default).Thread) == t)) rfl) ?_)))))
   obtain ⟨s8,h,ks8⟩ := bindL h
   refine TO.joinF (G:=Unit) 8 (fun _ => True) (fun _ => [(29,Bo s8),(7,I s4),(0,eL ZEv.c events),(1,I t),(2,I index)]) (fun _ => []) ?_ (fun js8 => ?_)
   rotate_left
   ·clear ks8
    rcases bifL h with ⟨q9,h⟩ | ⟨q9,h⟩
    ·refine gN rfl q9 (EvN.mv (eL ZEv.c events) rfl) (gN rfl q9 (EvN.mv (I s4) rfl) (gN rfl q9 (EvN.ixL sl98 rfl rfl g7 (fun _ => rfl)) (gN rfl q9 (EvN.fafp Try.underlying101 rfl (by kernel_rfl) rfl) (gN rfl q9 (EvN.loadfp (I ((events.getD s4.toNat default).Index)) ty3 rfl rfl) (gN rfl q9 (EvN.mv (I index) rfl) (gN rfl q9 (EvN.ieq rfl rfl) (oN (EvN.pickT rfl q9 (Bo (((events.getD s4.toNat default).Index) == index)) rfl) ?_)))))))
     obtain rfl := osi h
     exact js8 _ _ ⟨(),trivial,cutW rfl (wkC rfl (wkC rfl (wkC rfl (wkC rfl (wkC rfl wkN)))))⟩
    ·refine gS rfl q9 (gS rfl q9 (gS rfl q9 (gS rfl q9 (gS rfl q9 (gS rfl q9 (gS rfl q9 (oN (EvN.pickF rfl q9 (Bo false) rfl) ?_)))))))
     obtain rfl := osi h
     exact js8 _ _ ⟨(),trivial,cutW rfl (wkC rfl (wkC rfl (wkC rfl (wkC rfl (wkC rfl wkN)))))⟩
   ·intro _ _
    replace h := ks8
    clear ks8
    refine TO.nil ?_
    refine T.cond rfl (fun q10 => ?_) (fun q10 => ?_)
    ·replace h := condT q10 h
     refine T.seq (T.region (oN (EvN.mv (I s4) rfl) (oN (EvN.asg (I s4) rfl) (TO.nil (T.ret ?_)))))
     refine ⟨_,(osi h).symm,fun h => ?_⟩
     replace h := congrArg some h
     obtain rfl := osi h
     replace h := congrArg some (show _ = _ from ks1)
     obtain rfl := osi h
     repeat (first|refine retS ?_|refine retB ?_)
     exact Fin.ret (vs:=[I s4]) (.cons (.tmp rfl) .nil) (.of_isF 9 _ rfl)
    ·replace h := condF q10 h
     refine T.skip (T.region (oN (EvN.mv (I s4) rfl) ?_))
     obtain ⟨g11,h⟩ := gdW h
     refine oN (EvN.add rfl rfl g11) (oN (EvN.asg (I (s4 + (1 : Int))) rfl) (TO.nil ?_))
     obtain rfl := osi h
     exact ⟨(s4 + (1 : Int)),(),rfl,trivial,cutW rfl (wkC rfl (wkC rfl (wkC rfl (wkC rfl wkN))))⟩
  ·replace h := condF q6 h
   refine T.exit ?_
   refine ⟨_,(osi h).symm,fun h => ?_⟩
   replace h := congrArg some h
   obtain rfl := osi h
   exact ⟨(),(),ks1,trivial,cutW rfl wkN⟩
theorem F_spec_l2Has_P (r_ : List Int) (i : Int) (k_ : Int) {q : Bool} (h : F_spec_l2Has r_ i k_ = some q) : PCall Try.prog 146 [eL cI r_,I i,I k_] (Bo q) := by
 refine PCall.mkT Try.func146 rfl (by kernel_rfl) rfl (by kernel_rfl) (e0:=envOf [(0,eL cI r_),(1,I i),(2,I k_)]) (wkC rfl (wkC rfl (wkC rfl wkN))) (T.seq (T.region (oN (EvN.asg (Bo false) rfl) (TO.nil (T.seq (T.region (oN (EvN.mv (eL cI r_) rfl) ?_)))))))
 refine oN (EvN.mv (I i) rfl) ?_
 obtain ⟨g1,h⟩ := gdD h
 refine oN (EvN.ixL sl23 rfl rfl g1 (fun _ => rfl)) (oN (EvN.loadfp (I (r_.getD i.toNat default)) ty3 rfl rfl) (oN (EvN.mv (I k_) rfl) ?_))
 obtain ⟨g2,h⟩ := gdD h
 refine oN (EvN.shr rfl rfl g2) (oN (EvN.band rfl rfl) (oN (EvN.ieq rfl rfl) (oN (EvN.asg (Bo ((bAnd .i64 (bShr .i64 (r_.getD i.toNat default) k_) (1 : Int)) == (1 : Int))) rfl) (TO.nil (T.ret ?_)))))
 obtain rfl := osi h
 repeat (first|refine retS ?_|refine retB ?_)
 exact Fin.ret (vs:=[Bo ((bAnd .i64 (bShr .i64 (r_.getD i.toNat default) k_) (1 : Int)) == (1 : Int))]) (.cons (.tmp rfl) .nil) (.of_isF 9 _ rfl)
theorem F_spec_l13Ready_P (before : List Int) (done : Int) (k_ : Int) {q : Bool} (h : F_spec_l13Ready before done k_ = some q) : PCall Try.prog 108 [eL cI before,I done,I k_] (Bo q) := by
 refine PCall.mkT Try.func108 rfl (by kernel_rfl) rfl (by kernel_rfl) (e0:=envOf [(0,eL cI before),(1,I done),(2,I k_)]) (wkC rfl (wkC rfl (wkC rfl wkN))) (T.seq (T.region (oN (EvN.asg (Bo false) rfl) (TO.nil ?_))))
 obtain ⟨Ks1,es1,ws1,h,ks1⟩ := sumL h
 refine T.join (S:=Unit) (G:=Unit) (fun s1 => Ks1 s1 = some q) (fun s1 gh => True) (fun s1 gh => []) (fun s1 gh => []) (fun s1 gh h hg => ?_) ?_
 ·clear ks1
  subst es1
  refine T.seq (T.region (oN (EvN.asg (Bo true) rfl) (TO.nil (T.ret ?_))))
  obtain rfl := osi h
  repeat (first|refine retS ?_|refine retB ?_)
  exact Fin.ret (vs:=[Bo true]) (.cons (.tmp rfl) .nil) (.of_isF 9 _ rfl)
 ·refine T.seq (T.region (oN (EvN.asg (I (0 : Int)) rfl) (TO.nil (T.block ?_))))
  refine T.loop (S:=Int) (G:=Unit) (F_spec_l13Ready_L5 before done k_) (fun s4 gh => True) (fun s4 gh => [(7,I s4),(0,eL cI before),(1,I done),(2,I k_)]) (fun s4 gh => []) (s0:=(0 : Int)) () h trivial (cutW rfl (wkC rfl (wkC rfl (wkC rfl (wkC rfl wkN))))) (fun s4 gh ws4 h hg => ?_)
  refine T.seq (T.seq (T.region (oN (EvN.mv (I s4) rfl) (oN (EvN.mv (eL cI before) rfl) (oN (EvN.lenL sl23 rfl) (oN (EvN.ilt rfl rfl) (TO.nil ?_)))))))
  refine T.cond rfl (fun q6 => ?_) (fun q6 => ?_)
  ·replace h := condT q6 h
   refine T.skip (T.seq (T.block (T.seq (T.region (oN (EvN.mv (eL cI before) rfl) (oN (EvN.mv (I s4) rfl) (oN (EvN.mv (I k_) rfl) ?_)))))))
   obtain ⟨v7,cv7,h⟩ := bindL h
   refine oN (EvN.call rfl rfl rfl (F_spec_l2Has_P before s4 k_ cv7) rfl) (oN (EvN.mv (Bo v7) rfl) ?_)
   obtain ⟨s8,h,ks8⟩ := bindL h
   refine TO.joinF (G:=Unit) 6 (fun _ => True) (fun _ => [(24,Bo s8),(7,I s4),(0,eL cI before),(1,I done),(2,I k_)]) (fun _ => []) ?_ (fun js8 => ?_)
   rotate_left
   ·clear ks8
    rcases bifL h with ⟨q9,h⟩ | ⟨q9,h⟩
    ·refine gN rfl q9 (EvN.mv (I done) rfl) (gN rfl q9 (EvN.mv (I s4) rfl) ?_)
     obtain ⟨g10,h⟩ := gdD h
     refine gN rfl q9 (EvN.shr rfl rfl g10) (gN rfl q9 (EvN.band rfl rfl) (gN rfl q9 (EvN.ieq rfl rfl) (oN (EvN.pickT rfl q9 (Bo ((bAnd .i64 (bShr .i64 done s4) (1 : Int)) == (0 : Int))) rfl) ?_)))
     obtain rfl := osi h
     exact js8 _ _ ⟨(),trivial,cutW rfl (wkC rfl (wkC rfl (wkC rfl (wkC rfl (wkC rfl wkN)))))⟩
    ·refine gS rfl q9 (gS rfl q9 (gS rfl q9 (gS rfl q9 (gS rfl q9 (oN (EvN.pickF rfl q9 (Bo false) rfl) ?_)))))
     obtain rfl := osi h
     exact js8 _ _ ⟨(),trivial,cutW rfl (wkC rfl (wkC rfl (wkC rfl (wkC rfl (wkC rfl wkN)))))⟩
   ·intro _ _
    replace h := ks8
    clear ks8
    refine TO.nil ?_
    refine T.cond rfl (fun q11 => ?_) (fun q11 => ?_)
    ·replace h := condT q11 h
     refine T.seq (T.region (oN (EvN.asg (Bo false) rfl) (TO.nil (T.ret ?_))))
     refine ⟨_,(osi h).symm,fun h => ?_⟩
     replace h := congrArg some h
     obtain rfl := osi h
     replace h := congrArg some (show _ = _ from ks1)
     obtain rfl := osi h
     repeat (first|refine retS ?_|refine retB ?_)
     exact Fin.ret (vs:=[Bo false]) (.cons (.tmp rfl) .nil) (.of_isF 9 _ rfl)
    ·replace h := condF q11 h
     refine T.skip (T.region (oN (EvN.mv (I s4) rfl) ?_))
     obtain ⟨g12,h⟩ := gdW h
     refine oN (EvN.add rfl rfl g12) (oN (EvN.asg (I (s4 + (1 : Int))) rfl) (TO.nil ?_))
     obtain rfl := osi h
     exact ⟨(s4 + (1 : Int)),(),rfl,trivial,cutW rfl (wkC rfl (wkC rfl (wkC rfl (wkC rfl wkN))))⟩
  ·replace h := condF q6 h
   refine T.exit ?_
   refine ⟨_,(osi h).symm,fun h => ?_⟩
   replace h := congrArg some h
   obtain rfl := osi h
   exact ⟨(),(),ks1,trivial,cutW rfl wkN⟩
end Go.Proofs.Ytlmjnhnpahicmaa
