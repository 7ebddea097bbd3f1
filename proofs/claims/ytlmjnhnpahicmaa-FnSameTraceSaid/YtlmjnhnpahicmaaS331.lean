/-
 The program's code computes the functions over plain values; printed by lift.py. No conditions.
-/
import Derived.Test.YtlmjnhnpahicmaaS33d
import Derived.Test.YtlmjnhnpahicmaaSf
import Derived.Test.YtlmjnhnpahicmaaL15
import Derived.Test.YtlmjnhnpahicmaaGH
import Derived.Test.YtlmjnhnpahicmaaBrV
import Derived.Test.YtlmjnhnpahicmaaS262
namespace Go.Proofs.Ytlmjnhnpahicmaa
open Go.RowKit
set_option maxRecDepth 100000
theorem F_impl_tracer_last_P (s:ZTv) (pc:Z3i) (loc:Int) {q:Int} (h:F_impl_tracer_last s pc loc=some q):PCall Try.prog 178 [.fp (ZTv.c s) 0,.agg (Z3i.c pc),I loc] (I q):=by
 refine pM Try.func178 rfl (by kernel_rfl) rfl (T.sr (oN (EvN.bxF (Z3i.c pc) rfl rfl rfl) (oN as' (TO.nil (T.sr (oN as' (TO.nil ?_)))))))
 refine T.jU h (fun s1=>[(7,I s1)]) (fun s1=>[]) (fun s1 h => ?_) (fun s1 h => ?_)
 ·refine T.sr (oN mv (oN as' (TO.nil (T.ret ?_))))
  obtain rfl:=osj h
  exact finR rfl rfl rfl
 ·refine T.sr (oN mv (oN (nl rfl) (oN (fa fs125 rfl) (oN (lf (eL (cL ZIn.c) s.p) ty27 rfl) (oN (EvN.lenL sl27 rfl) (oN mv (TO.nil (T.block ?_))))))))
  refine T.lU h (fun s4=>[(16,I s4.1),(15,I (s.p.length:Int)),(7,I s4.2),(4,.fp (Z3i.c pc) 0),(0,.fp (ZTv.c s) 0),(2,I loc)]) (fun s4=>[]) (kw rfl rfl) (fun s4 ws4 h => ?_)
  refine T.sr (oN (EvN.ilt rfl rfl) (TO.nil (T.seq ?_)))
  refine T.ifH rfl h (fun q6 h => ?_) (fun q6 h => ?_)
  ·refine T.skip ?_
   refine T.jU h (fun s7=>[(16,I s4.1),(15,I (s.p.length:Int)),(7,I s7),(4,.fp (Z3i.c pc) 0),(0,.fp (ZTv.c s) 0),(2,I loc)]) (fun s7=>[]) (fun s7 h => ?_) (fun s7 h => ?_)
   ·refine T.region (jW h fun g24 h=>oN (EvN.add rfl rfl g24) (oN mv (TO.nil ?_)))
    exact lE h (kw rfl rfl)
   ·refine T.block (T.sr (oN mv (oN as' (TO.nil (T.seq (T.drawF (fun _=>([],false)) (by kernel_rfl) (by kernel_rfl) (fN rfl mv (fN rfl (nl rfl) (fN rfl (fa fs125 rfl) (fN rfl (lf (eL (cL ZIn.c) s.p) ty27 rfl) (fN rfl mv (jD h fun g8 h=>fN rfl (EvN.ixL sl27 rfl rfl g8 (fun _=>rfl)) (fN rfl (lf (eL ZIn.c (s.p.getD s4.1.toNat default)) ty57 rfl) (fN rfl mv ?_))))))))))))))
    refine jD h fun g9 h=>fN rfl (EvN.ixafp Try.underlying127 ty3 rfl rfl g9) (fN rfl (lf1 (fun z0=>I (Z3i.get pc z0)) g9 ty3 rfl rfl rfl rfl) (jD h fun g10 h=>fN rfl (EvN.slL sl57 rfl .no (.yes rfl) g10 (fun _=>rfl)) (fN rfl (EvN.lenL sl57 rfl) (fN rfl mv (TF.nil (T.block ?_))))))
    refine T.lU h (fun s13=>[(31,I s13.1),(30,I ((((s.p.getD s4.1.toNat default).drop (0:Int).toNat).take ((Z3i.get pc s4.1).toNat-(0:Int).toNat)).length:Int)),(29,eL ZIn.c (((s.p.getD s4.1.toNat default).drop (0:Int).toNat).take ((Z3i.get pc s4.1).toNat-(0:Int).toNat))),(16,I s4.1),(15,I (s.p.length:Int)),(7,I s13.2),(4,.fp (Z3i.c pc) 0),(0,.fp (ZTv.c s) 0),(2,I loc)]) (fun s13=>[]) (kw rfl rfl) (fun s13 ws13 h => ?_)
    refine T.sr (oN (EvN.ilt rfl rfl) (TO.nil (T.seq ?_)))
    refine T.ifH rfl h (fun q15 h => ?_) (fun q15 h => ?_)
    ·refine T.skip ?_
     refine T.jU h (fun s16=>[(7,I s16),(31,I s13.1),(30,I ((((s.p.getD s4.1.toNat default).drop (0:Int).toNat).take ((Z3i.get pc s4.1).toNat-(0:Int).toNat)).length:Int)),(29,eL ZIn.c (((s.p.getD s4.1.toNat default).drop (0:Int).toNat).take ((Z3i.get pc s4.1).toNat-(0:Int).toNat))),(16,I s4.1),(15,I (s.p.length:Int)),(4,.fp (Z3i.c pc) 0),(0,.fp (ZTv.c s) 0),(2,I loc)]) (fun s16=>[]) (fun s16 h => ?_) (fun s16 h => ?_)
     ·refine T.region (jW h fun g23 h=>oN (EvN.add rfl rfl g23) (oN mv (TO.nil ?_)))
      exact lE h (kw rfl rfl)
     ·refine T.block (T.sr (jD h fun g17 h=>oN (EvN.ixL sl57 rfl rfl g17 (fun _=>rfl)) (oN (lf (.agg (ZIn.c ((((s.p.getD s4.1.toNat default).drop (0:Int).toNat).take ((Z3i.get pc s4.1).toNat-(0:Int).toNat)).getD s13.1.toNat default))) ty56 rfl) (oA (EvA.al zs56 rfl rfl) (oV (sr (ZIn.c ((((s.p.getD s4.1.toNat default).drop (0:Int).toNat).take ((Z3i.get pc s4.1).toNat-(0:Int).toNat)).getD s13.1.toNat default)) ty56 rfl rfl rfl rfl) (TO.nil (T.sr (oA (lh (.agg (ZIn.c ((((s.p.getD s4.1.toNat default).drop (0:Int).toNat).take ((Z3i.get pc s4.1).toNat-(0:Int).toNat)).getD s13.1.toNat default))) ty56 rfl rfl rfl) (oC h (fun _=>F_impl_Instr_writes_P _) rfl rfl rfl rfl fun v18 _ h=>oN mv ?_)))))))))
      refine TO.jB h 5 (fun s19=>[(42,Bo s19),(31,I s13.1),(30,I ((((s.p.getD s4.1.toNat default).drop (0:Int).toNat).take ((Z3i.get pc s4.1).toNat-(0:Int).toNat)).length:Int)),(29,eL ZIn.c (((s.p.getD s4.1.toNat default).drop (0:Int).toNat).take ((Z3i.get pc s4.1).toNat-(0:Int).toNat))),(16,I s4.1),(15,I (s.p.length:Int)),(7,I s13.2),(4,.fp (Z3i.c pc) 0),(0,.fp (ZTv.c s) 0),(2,I loc)]) (fun s19=>[some ⟨0,4,56,[(ZIn.c ((((s.p.getD s4.1.toNat default).drop (0:Int).toNat).take ((Z3i.get pc s4.1).toNat-(0:Int).toNat)).getD s13.1.toNat default))]⟩]) (fun s19 q20 h js19 => ?_) (fun s19 q20 h js19 => ?_) (fun s19 h => ?_)
      ·refine gN rfl q20 (fa fs56 rfl) (gA rfl q20 (lh (I (((((s.p.getD s4.1.toNat default).drop (0:Int).toNat).take ((Z3i.get pc s4.1).toNat-(0:Int).toNat)).getD s13.1.toNat default).Loc)) ty3 rfl rfl rfl) (gN rfl q20 mv (gN rfl q20 (EvN.ieq rfl rfl) (oN (EvN.pickT rfl q20 (Bo ((((((s.p.getD s4.1.toNat default).drop (0:Int).toNat).take ((Z3i.get pc s4.1).toNat-(0:Int).toNat)).getD s13.1.toNat default).Loc)==loc)) rfl) ?_))))
       obtain rfl:=osj h
       exact js19 _ _ (kw rfl rfl)
      ·refine gS rfl q20 (gS rfl q20 (gS rfl q20 (gS rfl q20 (oN (EvN.pickF rfl q20 (Bo false) rfl) ?_))))
       obtain rfl:=osj h
       exact js19 _ _ (kw rfl rfl)
      ·refine TO.nil ?_
       refine T.ifH rfl h (fun q21 h => ?_) (fun q21 h => ?_)
       ·refine T.region (oN mv (jW h fun g22 h=>oN (EvN.add rfl rfl g22) (oN as' (TO.nil ?_))))
        obtain rfl:=osj h
        exact ⟨(),trivial,cutS rfl .nil (stl_cons (.fz (.of_isF 9 _ rfl)) (stl_cons (.fz (.of_isF 9 _ rfl)) (stl_cons (.fz (.of_isF 9 _ rfl)) (stl_cons (.fz (.of_isF 9 _ rfl)) (stl_cons (.fz (.of_isF 9 _ rfl)) (stl_cons (.fz (.of_isF 9 _ rfl)) (stl_cons (.fz (.of_isF 9 _ rfl)) (stl_cons (.fz (.of_isF 9 _ rfl)) (stl_cons (.fz (.of_isF 9 _ rfl)) stl_nil)))))))))⟩
       ·refine T.skip ?_
        obtain rfl:=osj h
        exact ⟨(),trivial,cutS rfl .nil (stl_cons (.fz (.of_isF 9 _ rfl)) (stl_cons (.fz (.of_isF 9 _ rfl)) (stl_cons (.fz (.of_isF 9 _ rfl)) (stl_cons (.fz (.of_isF 9 _ rfl)) (stl_cons (.fz (.of_isF 9 _ rfl)) (stl_cons (.fz (.of_isF 9 _ rfl)) (stl_cons (.fz (.of_isF 9 _ rfl)) (stl_cons (.fz (.of_isF 9 _ rfl)) (stl_cons (.fz (.of_isF 9 _ rfl)) stl_nil)))))))))⟩
    ·refine T.exit (lX h fun h => ?_)
     obtain rfl:=osj h
     exact ⟨(),trivial,kw rfl rfl⟩
  ·refine T.exit (lX h fun h => ?_)
   obtain rfl:=osj h
   exact ⟨(),trivial,kw rfl rfl⟩
theorem F_impl_tracer_can_P (s:ZTv) (pc:Z3i) (t:Int) {q:Bool} (h:F_impl_tracer_can s pc t=some q):PCall Try.prog 151 [.fp (ZTv.c s) 0,.agg (Z3i.c pc),I t] (Bo q):=by
 refine pM Try.func151 rfl (by kernel_rfl) rfl (T.sr (oN (EvN.bxF (Z3i.c pc) rfl rfl rfl) (oN as' (TO.nil (T.seq (T.seq (T.drawF (fun _=>([],false)) (by kernel_rfl) (by kernel_rfl) (fN rfl mv (jD h fun g1 h=>fN rfl (EvN.ixafp Try.underlying127 ty3 rfl rfl g1) (fN rfl (lf1 (fun z0=>I (Z3i.get pc z0)) g1 ty3 rfl rfl rfl rfl) (fN rfl mv (fN rfl (nl rfl) (fN rfl (fa fs125 rfl) (fN rfl (lf (eL (cL ZIn.c) s.p) ty27 rfl) ?_))))))))))))))
 refine fN rfl mv (jD h fun g2 h=>fN rfl (EvN.ixL sl27 rfl rfl g2 (fun _=>rfl)) (fN rfl (lf (eL ZIn.c (s.p.getD t.toNat default)) ty57 rfl) (fN rfl (EvN.lenL sl57 rfl) (fN rfl (EvN.ieq rfl rfl) (TF.nil ?_)))))
 refine T.ifH rfl h (fun q3 h => ?_) (fun q3 h => ?_)
 ·refine T.seq (T.clean (H0:=[]) (e0:=envOf []) rfl wkN (T.region (oN as' (TO.nil (T.ret ?_)))))
  obtain rfl:=osj h
  exact finR rfl rfl rfl
 ·refine T.skip (T.seq (T.reserve (T.drawF (fun i=>[([],false),([],false),([],false),([],false),([],false),([],false),([],false),([],false),([],false),([],false),([],false),([],false),([],false),([],false),([],false),([],false),([],false),([],false),([],false),([],false),([],false),([],false),([],false),([],false),([0],true),([0],true),([],false)].getD i ([],false)) (by kernel_rfl) (by kernel_rfl) (fN rfl mv (fN rfl (nl rfl) (fN rfl (fa fs125 rfl) (fN rfl (lf (eL (cL ZIn.c) s.p) ty27 rfl) (fN rfl mv (fN rfl (EvN.ixL sl27 rfl rfl g2 (fun _=>rfl)) (fN rfl (lf (eL ZIn.c (s.p.getD t.toNat default)) ty57 rfl) (fN rfl mv (fN rfl (EvN.ixafp Try.underlying127 ty3 rfl rfl g1) (fN rfl (lf1 (fun z0=>I (Z3i.get pc z0)) g1 ty3 rfl rfl rfl rfl) (jD h fun g4 h=>fN rfl (EvN.ixL sl57 rfl rfl g4 (fun _=>rfl)) ?_))))))))))))))
  refine fN rfl (lf (.agg (ZIn.c ((s.p.getD t.toNat default).getD (Z3i.get pc t).toNat default))) ty56 rfl) (fN rfl mv (fN rfl (nl rfl) (fN rfl (fa fs125 rfl) (fN rfl (lf (eL (cL cI) s.number) ty37 rfl) (fN rfl mv (jD h fun g5 h=>fN rfl (EvN.ixL sl37 rfl rfl g5 (fun _=>rfl)) (fN rfl (lf (eL cI (s.number.getD t.toNat default)) ty23 rfl) (fN rfl mv (fN rfl (EvN.ixafp Try.underlying127 ty3 rfl rfl g1) (fN rfl (lf1 (fun z0=>I (Z3i.get pc z0)) g1 ty3 rfl rfl rfl rfl) (jD h fun g6 h=>fN rfl (EvN.ixL sl23 rfl rfl g6 (fun _=>rfl)) (fN rfl (lf (I ((s.number.getD t.toNat default).getD (Z3i.get pc t).toNat default)) ty3 rfl) (fW 0 [] rfl rfl (fun G hG=>EvA.alR 0 zs56 rfl rfl (hG.a0 rfl)) ?_)))))))))))))
  refine fV 0 [] rfl rfl (fun G hG=>EvA.st (cs:=(ZIn.c ((s.p.getD t.toNat default).getD (Z3i.get pc t).toNat default))) ⟨0,4,56,[(ZIn.c ((s.p.getD t.toNat default).getD (Z3i.get pc t).toNat default))]⟩ ty56 rfl rfl (hG.a0 rfl) rfl rfl rfl rfl rfl rfl) (fN rfl as' (TF.nil (T.seq (T.seq (T.clean (H0:=[some ⟨0,4,56,[(ZIn.c ((s.p.getD t.toNat default).getD (Z3i.get pc t).toNat default))]⟩]) (e0:=envOf [(8,I ((s.number.getD t.toNat default).getD (Z3i.get pc t).toNat default)),(7,.hp 0 0 4 0 0),(4,.fp (Z3i.c pc) 0),(0,.fp (ZTv.c s) 0)]) rfl (wkC rfl (wkC rfl (wkC rfl (wkC rfl wkN)))) (T.region (oN (fa fs56 rfl) (oA (lh (I (((s.p.getD t.toNat default).getD (Z3i.get pc t).toNat default).Op)) ty3 rfl rfl rfl) (oN (EvN.ieq rfl rfl) (TO.nil ?_))))))))))
  refine T.ifH rfl h (fun q7 h => ?_) (fun q7 h => ?_)
  ·refine T.sr (oN as' (TO.nil (T.ret ?_)))
   obtain rfl:=osj h
   exact finR rfl rfl rfl
  ·refine T.skip (T.seq (T.drawF (fun i=>[([],false),([],false),([],false),([],false),([],false),([],false),([0],false),([],false),([],false),([],false)].getD i ([],false)) (by kernel_rfl) (by kernel_rfl) (fN rfl mv (fN rfl (nl rfl) (fN rfl (EvN.fafpS 2 Try.underlying125 rfl (by kernel_rfl) rfl rfl (row2:=ZEx.c s.x)) (fN rfl (fa fs43 rfl) (fN rfl (lf (eL (cL cI) s.x.Order) ty37 rfl) (fN rfl (fa fs56 rfl) (fR [0] rfl (fun G hG=>EvA.loadhp (I (((s.p.getD t.toNat default).getD (Z3i.get pc t).toNat default).Loc)) ty3 rfl (hG.a0 rfl) rfl rfl rfl rfl) (jD h fun g8 h=>fN rfl (EvN.ixL sl37 rfl rfl g8 (fun _=>rfl)) (fN rfl (lf (eL cI (s.x.Order.getD (((s.p.getD t.toNat default).getD (Z3i.get pc t).toNat default).Loc).toNat default)) ty23 rfl) (fN rfl as' (TF.nil (T.sr ?_))))))))))))))
   refine oN mv (oN (lf (.agg (Z3i.c pc)) ty127 rfl) (oN (fa fs56 rfl) (oA (lh (I (((s.p.getD t.toNat default).getD (Z3i.get pc t).toNat default).Loc)) ty3 rfl rfl rfl) (oC h (fun _=>F_impl_tracer_last_P _ _ _) rfl rfl rfl rfl fun v9 _ h=>oN as' (TO.nil ?_)))))
   refine T.jU h (fun s10=>[(6,Bo s10)]) (fun s10=>[some ⟨0,4,56,[(ZIn.c ((s.p.getD t.toNat default).getD (Z3i.get pc t).toNat default))]⟩]) (fun s10 h => ?_) (fun s10 h => ?_)
   ·refine T.ret ?_
    obtain rfl:=osj h
    exact finR rfl rfl rfl
   ·refine T.clean (H0:=[some ⟨0,4,56,[(ZIn.c ((s.p.getD t.toNat default).getD (Z3i.get pc t).toNat default))]⟩]) (e0:=envOf [(10,I v9),(9,eL cI (s.x.Order.getD (((s.p.getD t.toNat default).getD (Z3i.get pc t).toNat default).Loc).toNat default)),(8,I ((s.number.getD t.toNat default).getD (Z3i.get pc t).toNat default)),(7,.hp 0 0 4 0 0),(0,.fp (ZTv.c s) 0)]) rfl (wkC rfl (wkC rfl (wkC rfl (wkC rfl (wkC rfl wkN))))) (T.drawG (fun i=>[([0],false),([],false),([],false),([],false),([],false),([],false),([],false),([],false),([],false),([],false),([],false),([],false),([],false),([],false),([],false),([],false),([],false),([],false),([],false),([0],false),([],false),([],false),([],false),([],false),([],false),([],false),([],false),([],false),([],false),([],false),([],false),([],false),([],false)].getD i ([],false)) (by kernel_rfl) (by kernel_rfl) (tR [0] rfl (fun G hG=>EvA.loadhp (.agg (ZIn.c ((s.p.getD t.toNat default).getD (Z3i.get pc t).toNat default))) ty56 rfl (hG.a0 rfl) rfl rfl rfl rfl) (jB h fun v11 cv11 h=>tN rfl (EvN.call rfl rfl rfl (F_impl_Instr_reads_P (⟨((s.p.getD t.toNat default).getD (Z3i.get pc t).toNat default).Op,((s.p.getD t.toNat default).getD (Z3i.get pc t).toNat default).Loc,((s.p.getD t.toNat default).getD (Z3i.get pc t).toNat default).Reg,((s.p.getD t.toNat default).getD (Z3i.get pc t).toNat default).Val⟩:ZIn) cv11) rfl) (tN rfl (EvN.not rfl) (tN rfl mv ?_)))))
    rcases bifL h with ⟨q12,h⟩ | ⟨q12,h⟩
    ·refine tgS rfl q12 (tgS rfl q12 (tgS rfl q12 (tgS rfl q12 (tgS rfl q12 (tgS rfl q12 (tgS rfl q12 (tgS rfl q12 (tgS rfl q12 (tgS rfl q12 (tgS rfl q12 (tgS rfl q12 (tgS rfl q12 (tN rfl (EvN.pickT rfl q12 (Bo true) rfl) (tN rfl mv (tgR rfl rfl [0] rfl (fun G hG=>EvA.loadhp (.agg (ZIn.c ((s.p.getD t.toNat default).getD (Z3i.get pc t).toNat default))) ty56 rfl (hG.a0 rfl) rfl rfl rfl rfl) ?_)))))))))))))))
     refine jB h fun v13 cv13 h=>tgN rfl rfl rfl (EvN.call rfl rfl rfl (F_impl_Instr_writes_P (⟨((s.p.getD t.toNat default).getD (Z3i.get pc t).toNat default).Op,((s.p.getD t.toNat default).getD (Z3i.get pc t).toNat default).Loc,((s.p.getD t.toNat default).getD (Z3i.get pc t).toNat default).Reg,((s.p.getD t.toNat default).getD (Z3i.get pc t).toNat default).Val⟩:ZIn) cv13) rfl) (tgN rfl rfl rfl (EvN.not rfl) (tgN rfl rfl rfl mv ?_))
     rcases bifL h with ⟨q14,h⟩ | ⟨q14,h⟩
     ·refine tgS rfl q14 (tgS rfl q14 (tgS rfl q14 (tgS rfl q14 (tgS rfl q14 (tgS rfl q14 (tgS rfl q14 (tgN rfl rfl rfl (EvN.pickT rfl q14 (Bo true) rfl) (tN rfl (EvN.pickT rfl rfl (Bo true) rfl) (tN rfl as' (TG.nil ?_))))))))))
      obtain rfl:=osj h
      exact ⟨(),trivial,kw rfl rfl⟩
     ·refine tgN rfl q14 rfl mv (tgN rfl q14 rfl mv (jW h fun g15 h=>tgN rfl q14 rfl (EvN.add rfl rfl g15) (jD h fun g16 h=>tgN rfl q14 rfl (EvN.ixL sl23 rfl rfl g16 (fun _=>rfl)) (tgN rfl q14 rfl (lf (I ((s.x.Order.getD (((s.p.getD t.toNat default).getD (Z3i.get pc t).toNat default).Loc).toNat default).getD (v9+(1:Int)).toNat default)) ty3 rfl) (tgN rfl q14 rfl mv (tgN rfl q14 rfl (EvN.ieq rfl rfl) (tgN rfl rfl rfl (EvN.pickF rfl q14 (Bo (((s.x.Order.getD (((s.p.getD t.toNat default).getD (Z3i.get pc t).toNat default).Loc).toNat default).getD (v9+(1:Int)).toNat default)==((s.number.getD t.toNat default).getD (Z3i.get pc t).toNat default))) rfl) (tN rfl (EvN.pickT rfl rfl (Bo (((s.x.Order.getD (((s.p.getD t.toNat default).getD (Z3i.get pc t).toNat default).Loc).toNat default).getD (v9+(1:Int)).toNat default)==((s.number.getD t.toNat default).getD (Z3i.get pc t).toNat default))) rfl) (tN rfl as' (TG.nil ?_))))))))))
      obtain rfl:=osj h
      exact ⟨(),trivial,kw rfl rfl⟩
    ·refine tgN rfl q12 rfl mv (tgN rfl q12 rfl (nl rfl) (tgN rfl q12 rfl (EvN.fafpS 2 Try.underlying125 rfl (by kernel_rfl) rfl rfl (row2:=ZEx.c s.x)) (tgN rfl q12 rfl (fa fs43 rfl) (tgN rfl q12 rfl (lf (eL cI s.x.From) ty23 rfl) (tgN rfl q12 rfl mv (jD h fun g17 h=>tgN rfl q12 rfl (EvN.ixL sl23 rfl rfl g17 (fun _=>rfl)) (tgN rfl q12 rfl (lf (I (s.x.From.getD ((s.number.getD t.toNat default).getD (Z3i.get pc t).toNat default).toNat default)) ty3 rfl) (tgN rfl q12 rfl mv (tgN rfl q12 rfl mv (jD h fun g18 h=>tgN rfl q12 rfl (EvN.ixL sl23 rfl rfl g18 (fun _=>rfl)) (tgN rfl q12 rfl (lf (I ((s.x.Order.getD (((s.p.getD t.toNat default).getD (Z3i.get pc t).toNat default).Loc).toNat default).getD v9.toNat default)) ty3 rfl) (tgN rfl q12 rfl (EvN.ieq rfl rfl) (tN rfl (EvN.pickF rfl q12 (Bo ((s.x.From.getD ((s.number.getD t.toNat default).getD (Z3i.get pc t).toNat default).toNat default)==((s.x.Order.getD (((s.p.getD t.toNat default).getD (Z3i.get pc t).toNat default).Loc).toNat default).getD v9.toNat default))) rfl) ?_)))))))))))))
     refine tN rfl mv ?_
     rcases bifL h with ⟨q19,h⟩ | ⟨q19,h⟩
     ·refine tgR rfl q19 [0] rfl (fun G hG=>EvA.loadhp (.agg (ZIn.c ((s.p.getD t.toNat default).getD (Z3i.get pc t).toNat default))) ty56 rfl (hG.a0 rfl) rfl rfl rfl rfl) (jB h fun v20 cv20 h=>tgN rfl q19 rfl (EvN.call rfl rfl rfl (F_impl_Instr_writes_P (⟨((s.p.getD t.toNat default).getD (Z3i.get pc t).toNat default).Op,((s.p.getD t.toNat default).getD (Z3i.get pc t).toNat default).Loc,((s.p.getD t.toNat default).getD (Z3i.get pc t).toNat default).Reg,((s.p.getD t.toNat default).getD (Z3i.get pc t).toNat default).Val⟩:ZIn) cv20) rfl) (tgN rfl q19 rfl (EvN.not rfl) (tgN rfl q19 rfl mv ?_)))
      rcases bifL h with ⟨q21,h⟩ | ⟨q21,h⟩
      ·refine tgS rfl q21 (tgS rfl q21 (tgS rfl q21 (tgS rfl q21 (tgS rfl q21 (tgS rfl q21 (tgS rfl q21 (tgN rfl q19 rfl (EvN.pickT rfl q21 (Bo true) rfl) (tN rfl (EvN.pickT rfl q19 (Bo true) rfl) (tN rfl as' (TG.nil ?_))))))))))
       obtain rfl:=osj h
       exact ⟨(),trivial,kw rfl rfl⟩
      ·refine tgN rfl q21 rfl mv (tgN rfl q21 rfl mv (jW h fun g22 h=>tgN rfl q21 rfl (EvN.add rfl rfl g22) (jD h fun g23 h=>tgN rfl q21 rfl (EvN.ixL sl23 rfl rfl g23 (fun _=>rfl)) (tgN rfl q21 rfl (lf (I ((s.x.Order.getD (((s.p.getD t.toNat default).getD (Z3i.get pc t).toNat default).Loc).toNat default).getD (v9+(1:Int)).toNat default)) ty3 rfl) (tgN rfl q21 rfl mv (tgN rfl q21 rfl (EvN.ieq rfl rfl) (tgN rfl q19 rfl (EvN.pickF rfl q21 (Bo (((s.x.Order.getD (((s.p.getD t.toNat default).getD (Z3i.get pc t).toNat default).Loc).toNat default).getD (v9+(1:Int)).toNat default)==((s.number.getD t.toNat default).getD (Z3i.get pc t).toNat default))) rfl) (tN rfl (EvN.pickT rfl q19 (Bo (((s.x.Order.getD (((s.p.getD t.toNat default).getD (Z3i.get pc t).toNat default).Loc).toNat default).getD (v9+(1:Int)).toNat default)==((s.number.getD t.toNat default).getD (Z3i.get pc t).toNat default))) rfl) (tN rfl as' (TG.nil ?_))))))))))
       obtain rfl:=osj h
       exact ⟨(),trivial,kw rfl rfl⟩
     ·refine tgS rfl q19 (tgS rfl q19 (tgS rfl q19 (tgS rfl q19 (tgU rfl (tgU rfl (tgU rfl (tgU rfl (tgU rfl (tgU rfl (tgU rfl (tgS rfl q19 (tN rfl (EvN.pickF rfl q19 (Bo false) rfl) (tN rfl as' (TG.nil ?_))))))))))))))
      obtain rfl:=osj h
      exact ⟨(),trivial,kw rfl rfl⟩
theorem F_impl_tracer_from_PN:∀ (nf:Nat) (s:ZTr) (pc:Z3i) (ver0:Nat) (ver1:Nat) {q:ZTr×Bool} (h:F_impl_tracer_from_N nf s pc=some q),BCall Try.prog 115 [.hp 0 ver0 6 0 0,.agg (Z3i.c pc)] [some ⟨ver0,6,125,[[eL (cL ZIn.c) s.p,eL cI s.x.From,eL (cL cI) s.x.Order,eL (cL cI) s.number,hS false 1 ver1 1 s.schedule.length,.mp 2 4]]⟩,bE false ver1 1 3 (s.schedule.map cI),(some (mB 3 1 kI3 cB s.failed))] (OutV (Bo q.2) fun ver=>[some ⟨ver0,6,125,[[eL (cL ZIn.c) q.1.p,eL cI q.1.x.From,eL (cL cI) q.1.x.Order,eL (cL cI) q.1.number,hS false 1 ver 1 q.1.schedule.length,.mp 2 4]]⟩,bE false ver 1 3 (q.1.schedule.map cI),(some (mB 3 1 kI3 cB q.1.failed))]):=by
 intro nf
 induction nf with
 | zero=>intros;rename_i h;cases h
 | succ nf ih=>
  intro s pc ver0 ver1 q h
  replace h:F_impl_tracer_from_B (F_impl_tracer_from_N nf) s pc=some q:=h
  refine BCall.mkS Try.func115 rfl (by kernel_rfl) rfl (by kernel_rfl) (e0:=envOf [(0,.hp 0 ver0 6 0 0),(1,.agg (Z3i.c pc))]) (wkC rfl (wkC rfl wkN)) (T.sr (oN (EvN.bxF (Z3i.c pc) rfl rfl rfl) (oN as' (TO.nil (T.seq (T.seq (T.drawF (fun i=>[([],false),([],false),([],false),([0],false),([],false),([2],false)].getD i ([],false)) (by kernel_rfl) (by kernel_rfl) (fN rfl mv (fN rfl (nl rfl) (fN rfl (fa fs125 rfl) (fR [0] rfl (fun G hG=>EvA.loadhp (.mp 2 4) ty123 rfl (hG.a0 rfl) rfl rfl rfl rfl) (fN rfl (lf (.agg (Z3i.c pc)) ty127 rfl) (fR [2] rfl (fun G hG=>EvA.lookB (l:=s.failed) km123 Try.underlying123 (by kernel_rfl) (pc.x0,pc.x1,pc.x2) rfl rfl (hG.a0 rfl)) (TF.nil ?_))))))))))))))
  refine T.ifH rfl h (fun q1 h => ?_) (fun q1 h => ?_)
  ·refine T.sr (oN as' (TO.nil (T.ret ?_)))
   obtain rfl:=osj h
   repeat (first|refine retS ?_|refine retB ?_)
   exact ⟨envOf [(4,Bo false)],[some ⟨ver0,6,125,[[eL (cL ZIn.c) s.p,eL cI s.x.From,eL (cL cI) s.x.Order,eL (cL cI) s.number,hS false 1 ver1 1 s.schedule.length,.mp 2 4]]⟩,bE false ver1 1 3 (s.schedule.map cI),(some (mB 3 1 kI3 cB s.failed))],kw rfl rfl,Fin.ret (vs:=[Bo false]) (.cons (.tmp rfl) .nil) ⟨ver1,rfl,rfl⟩⟩
  ·refine T.skip (T.sr (oN as' (TO.nil ?_)))
   refine T.jU h (fun s2=>[(5,Bo s2),(3,.fp (Z3i.c pc) 0),(0,.hp 0 ver0 6 0 0)]) (fun s2=>[some ⟨ver0,6,125,[[eL (cL ZIn.c) s.p,eL cI s.x.From,eL (cL cI) s.x.Order,eL (cL cI) s.number,hS false 1 ver1 1 s.schedule.length,.mp 2 4]]⟩,bE false ver1 1 3 (s.schedule.map cI),(some (mB 3 1 kI3 cB s.failed))]) (fun s2 h => ?_) (fun s2 h => ?_)
   ·refine T.seq (T.sr (oN mv (TO.nil ?_)))
    refine T.ifH rfl h (fun q13 h => ?_) (fun q13 h => ?_)
    ·refine T.sr (oN as' (TO.nil (T.ret ?_)))
     obtain rfl:=osj h
     repeat (first|refine retS ?_|refine retB ?_)
     exact ⟨envOf [(4,Bo true)],[some ⟨ver0,6,125,[[eL (cL ZIn.c) s.p,eL cI s.x.From,eL (cL cI) s.x.Order,eL (cL cI) s.number,hS false 1 ver1 1 s.schedule.length,.mp 2 4]]⟩,bE false ver1 1 3 (s.schedule.map cI),(some (mB 3 1 kI3 cB s.failed))],kw rfl rfl,Fin.ret (vs:=[Bo true]) (.cons (.tmp rfl) .nil) ⟨ver1,rfl,rfl⟩⟩
    ·refine T.skip ?_
     obtain ⟨Ks14,es14,ws14,h,ks14⟩:=sumL h
     refine T.join (S:=(List (List ZIn))×(List Int)×(List (List Int))×(List (List Int))×(List Int)×(List ((Int×Int×Int)×Bool))) (G:=Nat) (fun s14=>Ks14 s14=some q) (fun s14 gh=>True) (fun s14 gh=>[(3,.fp (Z3i.c pc) 0),(0,.hp 0 ver0 6 0 0)]) (fun s14 gh=>[some ⟨ver0,6,125,[[eL (cL ZIn.c) s14.1,eL cI s14.2.1,eL (cL cI) s14.2.2.1,eL (cL cI) s14.2.2.2.1,hS false 1 gh 1 s14.2.2.2.2.1.length,.mp 2 4]]⟩,bE false gh 1 3 (s14.2.2.2.2.1.map cI),(some (mB 3 1 kI3 cB s14.2.2.2.2.2))]) (fun s14 u35 h hg => ?_) ?_
     ·clear ks14
      subst es14
      refine T.seq (T.drawF (fun i=>[([],false),([],false),([],false),([0],false),([],false),([2],true)].getD i ([],false)) (by kernel_rfl) (by kernel_rfl) (fN rfl mv (fN rfl (nl rfl) (fN rfl (fa fs125 rfl) (fR [0] rfl (fun G hG=>EvA.loadhp (.mp 2 4) ty123 rfl (hG.a0 rfl) rfl rfl rfl rfl) (fN rfl (lf (.agg (Z3i.c pc)) ty127 rfl) (fV 2 [] rfl rfl (fun G hG=>EvA.msetB (l:=s14.2.2.2.2.2) km123 Try.underlying123 (pc.x0,pc.x1,pc.x2) true rfl rfl rfl (hG.a0 rfl)) (TF.nil (T.sr (oN as' (TO.nil (T.ret ?_))))))))))))
      obtain rfl:=osj h
      repeat (first|refine retS ?_|refine retB ?_)
      exact ⟨envOf [(4,Bo false)],[some ⟨ver0,6,125,[[eL (cL ZIn.c) s14.1,eL cI s14.2.1,eL (cL cI) s14.2.2.1,eL (cL cI) s14.2.2.2.1,hS false 1 u35 1 s14.2.2.2.2.1.length,.mp 2 4]]⟩,bE false u35 1 3 (s14.2.2.2.2.1.map cI),(some (mB 3 1 kI3 cB (mput s14.2.2.2.2.2 (pc.x0,pc.x1,pc.x2) true)))],kw rfl rfl,Fin.ret (vs:=[Bo false]) (.cons (.tmp rfl) .nil) ⟨u35,rfl,rfl⟩⟩
     ·refine T.sr (oN mv (oN (nl rfl) (oN (fa fs125 rfl) (oA (lh (eL (cL ZIn.c) s.p) ty27 rfl rfl rfl) (oN (EvN.lenL sl27 rfl) (oN mv (TO.nil (T.block ?_))))))))
      refine T.loop (S:=(List (List ZIn))×(List Int)×(List (List Int))×(List (List Int))×(List Int)×(List ((Int×Int×Int)×Bool))×Int) (G:=Nat) (F_impl_tracer_from_L19 (F_impl_tracer_from_N nf) s pc) (fun s18 gh=>True) (fun s18 gh=>[(45,I s18.2.2.2.2.2.2),(44,I (s.p.length:Int)),(3,.fp (Z3i.c pc) 0),(0,.hp 0 ver0 6 0 0)]) (fun s18 gh=>[some ⟨ver0,6,125,[[eL (cL ZIn.c) s18.1,eL cI s18.2.1,eL (cL cI) s18.2.2.1,eL (cL cI) s18.2.2.2.1,hS false 1 gh 1 s18.2.2.2.2.1.length,.mp 2 4]]⟩,bE false gh 1 3 (s18.2.2.2.2.1.map cI),(some (mB 3 1 kI3 cB s18.2.2.2.2.2.1))]) (s0:=(s.p,s.x.From,s.x.Order,s.number,s.schedule,s.failed,(0:Int))) ver1 h trivial (kw rfl rfl) (fun s18 u20 ws18 h hg => ?_)
      refine T.sr (oN (EvN.ilt rfl rfl) (TO.nil (T.seq ?_)))
      refine T.ifH rfl h (fun q21 h => ?_) (fun q21 h => ?_)
      ·refine T.skip ?_
       obtain ⟨Ks22,es22,ws22,h,ks22⟩:=sumL h
       refine T.join (S:=(List (List ZIn))×(List Int)×(List (List Int))×(List (List Int))×(List Int)×(List ((Int×Int×Int)×Bool))) (G:=Nat) (fun s22=>Ks22 s22=some ws18) (fun s22 gh=>True) (fun s22 gh=>[(45,I s18.2.2.2.2.2.2),(44,I (s.p.length:Int)),(3,.fp (Z3i.c pc) 0),(0,.hp 0 ver0 6 0 0)]) (fun s22 gh=>[some ⟨ver0,6,125,[[eL (cL ZIn.c) s22.1,eL cI s22.2.1,eL (cL cI) s22.2.2.1,eL (cL cI) s22.2.2.2.1,hS false 1 gh 1 s22.2.2.2.2.1.length,.mp 2 4]]⟩,bE false gh 1 3 (s22.2.2.2.2.1.map cI),(some (mB 3 1 kI3 cB s22.2.2.2.2.2))]) (fun s22 u33 h hg => ?_) ?_
       ·clear ks22
        subst es22
        refine T.region (jW h fun g34 h=>oN (EvN.add rfl rfl g34) (oN mv (TO.nil ?_)))
        obtain rfl:=osj h
        exact ⟨(s22.1,s22.2.1,s22.2.2.1,s22.2.2.2.1,s22.2.2.2.2.1,s22.2.2.2.2.2,(s18.2.2.2.2.2.2+(1:Int))),u33,rfl,trivial,kw rfl rfl⟩
       ·refine T.block (T.sr (oN mv (oN as' (TO.nil (T.seq (T.sr (oN mv (oN (lf (.agg (Z3i.c pc)) ty127 rfl) (oN mv (jB h fun v23 cv23 h=>oA (EvA.callTP rfl rfl (F_impl_tracer_can_P (⟨s18.1,(⟨s18.2.1,s18.2.2.1⟩:ZEx),s18.2.2.2.1⟩:ZTv) pc s18.2.2.2.2.2.2 cv23) (.cons (.hp (ver:=ver0) (s:=6) (ty:=125) (r:=[eL (cL ZIn.c) s18.1,eL cI s18.2.1,eL (cL cI) s18.2.2.1,eL (cL cI) s18.2.2.2.1]) (x:=[hS false 1 u20 1 s18.2.2.2.2.1.length,.mp 2 4]) rfl (.cons (.of_isF 9 _ rfl) (.cons (.of_isF 9 _ rfl) (.cons (.of_isF 9 _ rfl) (.cons (.of_isF 9 _ rfl) .nil))))) (.cons (.fz (.of_isF 9 _ rfl)) (.cons (.fz (.of_isF 9 _ rfl)) .nil))) rfl) (oN (EvN.not rfl) (TO.nil ?_))))))))))))
        refine T.ifH rfl h (fun q24 h => ?_) (fun q24 h => ?_)
        ·refine T.exit ?_
         obtain rfl:=osj h
         exact ⟨(s18.1,s18.2.1,s18.2.2.1,s18.2.2.2.1,s18.2.2.2.2.1,s18.2.2.2.2.2.1),u20,ks22,trivial,kw rfl rfl⟩
        ·refine T.skip (T.sr (oN (lf (.agg (Z3i.c pc)) ty127 rfl) (oA (EvA.al zs127 rfl rfl) (oV (sr (Z3i.c pc) ty127 rfl rfl rfl rfl) (TO.nil (T.sr (oN mv (jD h fun g25 h=>oN (EvN.ixahp Try.underlying127 ty3 rfl rfl g25) (oA (lh1 (fun z0=>I (Z3i.get pc z0)) g25 ty3 rfl rfl rfl rfl rfl) (jW h fun g26 h=>oN (EvN.add rfl rfl g26) (oN (EvN.ixahp Try.underlying127 ty3 rfl rfl g25) (oV (sr1 (fun z0=>(Z3i.c (Z3i.set pc z0 ((Z3i.get pc s18.2.2.2.2.2.2)+(1:Int))))) g25 ty3 rfl rfl rfl rfl rfl rfl) (TO.nil ?_)))))))))))))
         refine T.sr (oN mv (oN mv (oN (nl rfl) (oN (fa fs125 rfl) (oA (lh (hS false 1 u20 1 s18.2.2.2.2.1.length) ty23 rfl rfl rfl) (oN mv (oN (EvN.mkF (c:=cI) ([s18.2.2.2.2.2.2]:List Int) [[I s18.2.2.2.2.2.2]] sl23 rfl rfl rfl (fun _=>rfl) (fun _=>rfl) rfl) (jL h fun g27 h=>oA (EvA.app1 (g:=false) (l:=s18.2.2.2.2.1) s18.2.2.2.2.2.2 sl23 (by kernel_rfl) rfl rfl rfl nofun (SrcOk.fz (l:=([s18.2.2.2.2.2.2]:List Int)) rfl (fun _=>rfl)) g27) (oN (nl rfl) (oN (fa fs125 rfl) (oV (sr [eL (cL ZIn.c) s18.1,eL cI s18.2.1,eL (cL cI) s18.2.2.1,eL (cL cI) s18.2.2.2.1,hS false 1 (u20+1) 1 ((s18.2.2.2.2.1++[s18.2.2.2.2.2.2]).length),.mp 2 4] ty23 rfl rfl rfl rfl) (TO.nil (T.seq (T.seq ?_))))))))))))))
         refine T.clean (H0:=[some ⟨ver0,6,125,[[eL (cL ZIn.c) s18.1,eL cI s18.2.1,eL (cL cI) s18.2.2.1,eL (cL cI) s18.2.2.2.1,hS false 1 (u20+1) 1 ((s18.2.2.2.2.1++[s18.2.2.2.2.2.2]).length),.mp 2 4]]⟩,bE false (u20+1) 1 3 ((s18.2.2.2.2.1++[s18.2.2.2.2.2.2]).map cI),(some (mB 3 1 kI3 cB s18.2.2.2.2.2.1)),some ⟨0,3,127,[(Z3i.c (Z3i.set pc s18.2.2.2.2.2.2 ((Z3i.get pc s18.2.2.2.2.2.2)+(1:Int))))]⟩]) (e0:=envOf [(8,.hp 3 0 3 0 0),(45,I s18.2.2.2.2.2.2),(44,I (s.p.length:Int)),(3,.fp (Z3i.c pc) 0),(0,.hp 0 ver0 6 0 0)]) rfl (wkC rfl (wkC rfl (wkC rfl (wkC rfl (wkC rfl wkN))))) (T.region (oN mv (oA (lh (.agg (Z3i.c (Z3i.set pc s18.2.2.2.2.2.2 ((Z3i.get pc s18.2.2.2.2.2.2)+(1:Int))))) ty127 rfl rfl rfl) (jB h fun v28 cv28 h => ?_))))
         refine oW rfl rfl rfl (BCall.outAt (ih (⟨s18.1,(⟨s18.2.1,s18.2.2.1⟩:ZEx),s18.2.2.2.1,(s18.2.2.2.2.1++[s18.2.2.2.2.2.2]),s18.2.2.2.2.2.1⟩:ZTr) (Z3i.set pc s18.2.2.2.2.2.2 ((Z3i.get pc s18.2.2.2.2.2.2)+(1:Int))) ver0 (u20+1) cv28) [0,1,2] (by decide) (.cons rfl (.rowL (.cons (ren_isF 9 _ rfl) (.cons (ren_isF 9 _ rfl) (.cons (ren_isF 9 _ rfl) (.cons (ren_isF 9 _ rfl) (.cons (ren_hSg rfl) (.cons (.mp rfl) .nil))))))) (.cons rfl (RenK.bE' (fun _=>rfl)) (.cons rfl (RenK.mB _ (fun _=>rfl)) .nil))) (.cons (.hp rfl) (.cons (ren_isF 9 _ rfl) .nil)) (G:=fun v_=>[some ⟨ver0,6,125,[[eL (cL ZIn.c) v28.1.p,eL cI v28.1.x.From,eL (cL cI) v28.1.x.Order,eL (cL cI) v28.1.number,hS false 1 v_ 1 v28.1.schedule.length,.mp 2 4]]⟩,bE false v_ 1 3 (v28.1.schedule.map cI),(some (mB 3 1 kI3 cB v28.1.failed))]) (G':=fun v_=>[some ⟨ver0,6,125,[[eL (cL ZIn.c) v28.1.p,eL cI v28.1.x.From,eL (cL cI) v28.1.x.Order,eL (cL cI) v28.1.number,hS false 1 v_ 1 v28.1.schedule.length,.mp 2 4]]⟩,bE false v_ 1 3 (v28.1.schedule.map cI),(some (mB 3 1 kI3 cB v28.1.failed)),some ⟨0,3,127,[(Z3i.c (Z3i.set pc s18.2.2.2.2.2.2 ((Z3i.get pc s18.2.2.2.2.2.2)+(1:Int))))]⟩]) 4 rfl (fun v_ => .some (.rowL (.cons (ren_isF 9 _ rfl) (.cons (ren_isF 9 _ rfl) (.cons (ren_isF 9 _ rfl) (.cons (ren_isF 9 _ rfl) (.cons (ren_hSg (.inl rfl)) (.cons (.mp (.inl rfl)) .nil))))))) (.some (RenK.bE' (fun _=>rfl)) (.some (RenK.mB _ (fun _=>rfl)) .nil))) (fun _=>rfl) (r:=Bo v28.2) (ren_isF 9 _ rfl) (fun _=>rfl)) (fun u29 => ?_)
         refine TO.nil ?_
         refine T.ifH rfl h (fun q30 h => ?_) (fun q30 h => ?_)
         ·refine T.sr (oN as' (TO.nil (T.ret ?_)))
          obtain rfl:=osj h
          replace h:=congrArg some (show _=_ from ks22)
          refine lX h fun h => ?_
          obtain rfl:=osj h
          replace h:=congrArg some (show _=_ from ks14)
          obtain rfl:=osj h
          repeat (first|refine retS ?_|refine retB ?_)
          exact ⟨envOf [(4,Bo true)],[some ⟨ver0,6,125,[[eL (cL ZIn.c) v28.1.p,eL cI v28.1.x.From,eL (cL cI) v28.1.x.Order,eL (cL cI) v28.1.number,hS false 1 u29 1 v28.1.schedule.length,.mp 2 4]]⟩,bE false u29 1 3 (v28.1.schedule.map cI),(some (mB 3 1 kI3 cB v28.1.failed))],cutS rfl (.cons (.row (.cons (.fz (.of_isF 9 _ rfl)) (.cons (.fz (.of_isF 9 _ rfl)) (.cons (.fz (.of_isF 9 _ rfl)) (.cons (.fz (.of_isF 9 _ rfl)) (.cons (.hS (g:=false) (b:=1) (ver:=u29) (s:=1) (n:=v28.1.schedule.length) rfl) (.cons (.mp (Nat.le_of_ble_eq_true rfl)) .nil))))))) (.cons (.list (g:=false) (ver:=u29) (l:=v28.1.schedule) (fun _=>rfl)) (.cons (.mp (fun _=>rfl)) .nil))) (stl_cons (.fz (.of_isF 9 _ rfl)) stl_nil),Fin.ret (vs:=[Bo true]) (.cons (.tmp rfl) .nil) ⟨u29,rfl,rfl⟩⟩
         ·refine T.skip (T.drawH (fun i=>[([],false),([],false),([],false),([],false),([0],false),([],false),([],false),([],false),([0],false),([],false),([],false),([1],true),([],false),([],false),([0],true)].getD i ([],false)) (by kernel_rfl) (by kernel_rfl) (fN rfl mv (fN rfl mv (fN rfl (nl rfl) (fN rfl (fa fs125 rfl) (fR [0] rfl (fun G hG=>EvA.loadhp (hS false 1 u29 1 v28.1.schedule.length) ty23 rfl (hG.a0 rfl) rfl rfl rfl rfl) (fN rfl mv (fN rfl (nl rfl) (fN rfl (fa fs125 rfl) (fR [0] rfl (fun G hG=>EvA.loadhp (hS false 1 u29 1 v28.1.schedule.length) ty23 rfl (hG.a0 rfl) rfl rfl rfl rfl) (fN rfl (EvN.lenO (g:=false) sl23 rfl nofun) (jW h fun g31 h=>fN rfl (EvN.sub rfl rfl g31) (jD h fun g32 h=>fW 1 [] rfl rfl (fun G hG=>EvA.cutO (l:=v28.1.schedule) (zl:=(0:Int)) (zh:=((v28.1.schedule.length:Int)-(1:Int))) (EvN.slhs Try.underlying23 ty3 (l:=(0:Int)) (h:=((v28.1.schedule.length:Int)-(1:Int))) rfl .no (.yes rfl) g32) (hG.a0 rfl) rfl g32) ?_)))))))))))))
          refine fN rfl (nl rfl) (fN rfl (fa fs125 rfl) (fV 0 [] rfl rfl (fun G hG=>EvA.st (cs:=[hS false 1 (u29+1) 1 (((v28.1.schedule.drop (0:Int).toNat).take (((v28.1.schedule.length:Int)-(1:Int)).toNat-(0:Int).toNat)).length)]) ⟨ver0,6,125,[[eL (cL ZIn.c) v28.1.p,eL cI v28.1.x.From,eL (cL cI) v28.1.x.Order,eL (cL cI) v28.1.number,hS false 1 (u29+1) 1 (((v28.1.schedule.drop (0:Int).toNat).take (((v28.1.schedule.length:Int)-(1:Int)).toNat-(0:Int).toNat)).length),.mp 2 4]]⟩ ty23 rfl rfl (hG.a0 rfl) rfl rfl rfl rfl rfl rfl) (TF.nil ?_)))
          obtain rfl:=osj h
          exact ⟨(v28.1.p,v28.1.x.From,v28.1.x.Order,v28.1.number,((v28.1.schedule.drop (0:Int).toNat).take (((v28.1.schedule.length:Int)-(1:Int)).toNat-(0:Int).toNat)),v28.1.failed),u29+1,ks22,trivial,cutS rfl (.cons (.row (.cons (.fz (.of_isF 9 _ rfl)) (.cons (.fz (.of_isF 9 _ rfl)) (.cons (.fz (.of_isF 9 _ rfl)) (.cons (.fz (.of_isF 9 _ rfl)) (.cons (.hS (g:=false) (b:=1) (ver:=u29+1) (s:=1) (n:=((v28.1.schedule.drop (0:Int).toNat).take (((v28.1.schedule.length:Int)-(1:Int)).toNat-(0:Int).toNat)).length) rfl) (.cons (.mp (Nat.le_of_ble_eq_true rfl)) .nil))))))) (.cons (.list (g:=false) (ver:=u29+1) (l:=((v28.1.schedule.drop (0:Int).toNat).take (((v28.1.schedule.length:Int)-(1:Int)).toNat-(0:Int).toNat))) (fun _=>rfl)) (.cons (.mp (fun _=>rfl)) .nil))) (stl_cons (.fz (.of_isF 9 _ rfl)) (stl_cons (.fz (.of_isF 9 _ rfl)) (stl_cons (.fz (.of_isF 9 _ rfl)) (stl_cons (.hp (Nat.le_of_ble_eq_true rfl)) stl_nil))))⟩
      ·refine T.exit (lX h fun h => ?_)
       obtain rfl:=osj h
       exact ⟨(s18.1,s18.2.1,s18.2.2.1,s18.2.2.2.1,s18.2.2.2.2.1,s18.2.2.2.2.2.1),u20,ks14,trivial,kw rfl rfl⟩
   ·refine T.sr (oN mv (oN (nl rfl) (oN (fa fs125 rfl) (oA (lh (eL (cL ZIn.c) s.p) ty27 rfl rfl rfl) (oN (EvN.lenL sl27 rfl) (oN mv (TO.nil (T.block ?_))))))))
    refine T.lU h (fun s5=>[(20,I s5.1),(19,I (s.p.length:Int)),(5,Bo s5.2),(3,.fp (Z3i.c pc) 0),(0,.hp 0 ver0 6 0 0)]) (fun s5=>[some ⟨ver0,6,125,[[eL (cL ZIn.c) s.p,eL cI s.x.From,eL (cL cI) s.x.Order,eL (cL cI) s.number,hS false 1 ver1 1 s.schedule.length,.mp 2 4]]⟩,bE false ver1 1 3 (s.schedule.map cI),(some (mB 3 1 kI3 cB s.failed))]) (kw rfl rfl) (fun s5 ws5 h => ?_)
    refine T.sr (oN (EvN.ilt rfl rfl) (TO.nil (T.seq ?_)))
    refine T.ifH rfl h (fun q7 h => ?_) (fun q7 h => ?_)
    ·refine T.skip ?_
     refine T.jU h (fun s8=>[(5,Bo s8),(20,I s5.1),(19,I (s.p.length:Int)),(3,.fp (Z3i.c pc) 0),(0,.hp 0 ver0 6 0 0)]) (fun s8=>[some ⟨ver0,6,125,[[eL (cL ZIn.c) s.p,eL cI s.x.From,eL (cL cI) s.x.Order,eL (cL cI) s.number,hS false 1 ver1 1 s.schedule.length,.mp 2 4]]⟩,bE false ver1 1 3 (s.schedule.map cI),(some (mB 3 1 kI3 cB s.failed))]) (fun s8 h => ?_) (fun s8 h => ?_)
     ·refine T.region (jW h fun g12 h=>oN (EvN.add rfl rfl g12) (oN mv (TO.nil ?_)))
      exact lE h (kw rfl rfl)
     ·refine T.block (T.sr (oN mv (oN as' (TO.nil (T.drawG (fun i=>[([],false),([],false),([],false),([],false),([],false),([],false),([],false),([],false),([0],false),([],false),([],false),([],false),([],false),([],false),([],false),([],false)].getD i ([],false)) (by kernel_rfl) (by kernel_rfl) (tN rfl mv (tN rfl mv ?_)))))))
      rcases bifL h with ⟨q9,h⟩ | ⟨q9,h⟩
      ·refine tgN rfl q9 rfl mv (jD h fun g10 h=>tgN rfl q9 rfl (EvN.ixafp Try.underlying127 ty3 rfl rfl g10) (tgN rfl q9 rfl (lf1 (fun z0=>I (Z3i.get pc z0)) g10 ty3 rfl rfl rfl rfl) (tgN rfl q9 rfl mv (tgN rfl q9 rfl (nl rfl) (tgN rfl q9 rfl (fa fs125 rfl) (tgR rfl q9 [0] rfl (fun G hG=>EvA.loadhp (eL (cL ZIn.c) s.p) ty27 rfl (hG.a0 rfl) rfl rfl rfl rfl) (tgN rfl q9 rfl mv (jD h fun g11 h=>tgN rfl q9 rfl (EvN.ixL sl27 rfl rfl g11 (fun _=>rfl)) (tgN rfl q9 rfl (lf (eL ZIn.c (s.p.getD s5.1.toNat default)) ty57 rfl) (tgN rfl q9 rfl (EvN.lenL sl57 rfl) (tgN rfl q9 rfl (EvN.ieq rfl rfl) (tN rfl (EvN.pickT rfl q9 (Bo ((Z3i.get pc s5.1)==((s.p.getD s5.1.toNat default).length:Int))) rfl) (tN rfl as' ?_)))))))))))))
       refine TG.nil ?_
       obtain rfl:=osj h
       exact ⟨(),trivial,kw rfl rfl⟩
      ·refine tgS rfl q9 (tgS rfl q9 (tgS rfl q9 (tgS rfl q9 (tgS rfl q9 (tgS rfl q9 (tgS rfl q9 (tgS rfl q9 (tgS rfl q9 (tgS rfl q9 (tgS rfl q9 (tgS rfl q9 (tN rfl (EvN.pickF rfl q9 (Bo false) rfl) (tN rfl as' (TG.nil ?_))))))))))))))
       obtain rfl:=osj h
       exact ⟨(),trivial,kw rfl rfl⟩
    ·refine T.exit (lX h fun h => ?_)
     obtain rfl:=osj h
     exact ⟨(),trivial,kw rfl rfl⟩
theorem F_impl_tracer_from_P (s:ZTr) (pc:Z3i) (ver0:Nat) (ver1:Nat) {q:ZTr×Bool} (h:F_impl_tracer_from s pc=some q):BCall Try.prog 115 [.hp 0 ver0 6 0 0,.agg (Z3i.c pc)] [some ⟨ver0,6,125,[[eL (cL ZIn.c) s.p,eL cI s.x.From,eL (cL cI) s.x.Order,eL (cL cI) s.number,hS false 1 ver1 1 s.schedule.length,.mp 2 4]]⟩,bE false ver1 1 3 (s.schedule.map cI),(some (mB 3 1 kI3 cB s.failed))] (OutV (Bo q.2) fun ver=>[some ⟨ver0,6,125,[[eL (cL ZIn.c) q.1.p,eL cI q.1.x.From,eL (cL cI) q.1.x.Order,eL (cL cI) q.1.number,hS false 1 ver 1 q.1.schedule.length,.mp 2 4]]⟩,bE false ver 1 3 (q.1.schedule.map cI),(some (mB 3 1 kI3 cB q.1.failed))]):=by
 obtain ⟨nf,h⟩:=fixC_is h
 exact F_impl_tracer_from_PN nf s pc ver0 ver1 h
theorem F_impl_scheduleOf_P (p:List (List ZIn)) (x:ZEx) {q:(List Int)×Bool} (h:F_impl_scheduleOf p x=some q):PCall Try.prog 64 [eL (cL ZIn.c) p,.agg (ZEx.c x)] (.tup [eL cI q.1,Bo q.2]):=by
 refine pM Try.func64 rfl (by kernel_rfl) rfl (T.sr (oN (EvN.bxF (ZEx.c x) rfl rfl rfl) (oN as' (oN as' (TO.nil (T.seq (T.reserve (T.reserve (T.reserve (T.drawF (fun i=>[([],false),([],false),([],false),([],false),([0],true),([1],true),([],false),([2],true),([],false)].getD i ([],false)) (by kernel_rfl) (by kernel_rfl) (fN rfl mv (fN rfl (lf (.agg (ZEx.c x)) ty43 rfl) (fN rfl mv (fC h (fun _=>F_impl_numbers_P _) rfl rfl rfl rfl rfl fun v1 _ h=>fW 0 [] rfl rfl (fun G hG=>EvA.mkOR (c:=cI) 0 ([]:List Int) [] sl23 rfl rfl rfl (fun _=>rfl) (fun _=>rfl) rfl (hG.a0 rfl)) ?_))))))))))))))
 refine fW 1 [] rfl rfl (fun G hG=>EvA.mmkA (kn:=3) kI3 1 (hG.a0 rfl)) (fN rfl (EvN.build [eL (cL ZIn.c) p,eL cI x.From,eL (cL cI) x.Order,eL (cL cI) v1,hS false 0 0 1 (([]:List Int).length),.mp 1 4] Try.underlying125 zs125 fs125 rfl rfl) (fW 2 [] rfl rfl (fun G hG=>EvA.bxA (cs:=[eL (cL ZIn.c) p,eL cI x.From,eL (cL cI) x.Order,eL (cL cI) v1,hS false 0 0 1 (([]:List Int).length),.mp 1 4]) 2 rfl rfl (hG.a0 rfl)) (fN rfl as' (TF.nil (T.seq (T.sr (oN mv (oN (EvN.buildZ Try.underlying127 zs127 ty3) (jB h fun v2 cv2 h => ?_)))))))))
 refine oW rfl rfl rfl (BCall.outAt (F_impl_tracer_from_P (⟨p,(⟨x.From,x.Order⟩:ZEx),v1,([]:List Int),([]:List ((Int×Int×Int)×Bool))⟩:ZTr) (⟨(0:Int),(0:Int),(0:Int)⟩:Z3i) 0 0 cv2) [2,0,1] (by decide) (.cons rfl (.rowL (.cons (ren_isF 9 _ rfl) (.cons (ren_isF 9 _ rfl) (.cons (ren_isF 9 _ rfl) (.cons (ren_isF 9 _ rfl) (.cons (ren_hSg rfl) (.cons (.mp rfl) .nil))))))) (.cons rfl (RenK.bE' (fun _=>rfl)) (.cons rfl (RenK.mB _ (fun _=>rfl)) .nil))) (.cons (.hp rfl) (.cons (ren_isF 9 _ rfl) .nil)) (G:=fun v_=>[some ⟨0,6,125,[[eL (cL ZIn.c) v2.1.p,eL cI v2.1.x.From,eL (cL cI) v2.1.x.Order,eL (cL cI) v2.1.number,hS false 0 v_ 1 v2.1.schedule.length,.mp 1 4]]⟩,bE false v_ 1 3 (v2.1.schedule.map cI),(some (mB 3 1 kI3 cB v2.1.failed))]) (G':=fun v_=>[bE false v_ 1 3 (v2.1.schedule.map cI),(some (mB 3 1 kI3 cB v2.1.failed)),some ⟨0,6,125,[[eL (cL ZIn.c) v2.1.p,eL cI v2.1.x.From,eL (cL cI) v2.1.x.Order,eL (cL cI) v2.1.number,hS false 0 v_ 1 v2.1.schedule.length,.mp 1 4]]⟩]) 3 rfl (fun v_ => .some (.rowL (.cons (ren_isF 9 _ rfl) (.cons (ren_isF 9 _ rfl) (.cons (ren_isF 9 _ rfl) (.cons (ren_isF 9 _ rfl) (.cons (ren_hSg (.inl rfl)) (.cons (.mp (.inl rfl)) .nil))))))) (.some (RenK.bE' (fun _=>rfl)) (.some (RenK.mB _ (fun _=>rfl)) .nil))) (fun _=>rfl) (r:=Bo v2.2) (ren_isF 9 _ rfl) (fun _=>rfl)) (fun u3 => ?_)
 refine oN (EvN.not rfl) (TO.nil ?_)
 refine T.ifH rfl h (fun q4 h => ?_) (fun q4 h => ?_)
 ·refine T.seq (T.clean (H0:=[bE false u3 1 3 (v2.1.schedule.map cI),(some (mB 3 1 kI3 cB v2.1.failed)),some ⟨0,6,125,[[eL (cL ZIn.c) v2.1.p,eL cI v2.1.x.From,eL (cL cI) v2.1.x.Order,eL (cL cI) v2.1.number,hS false 0 u3 1 v2.1.schedule.length,.mp 1 4]]⟩]) (e0:=envOf []) rfl wkN (T.region (oN as' (oN as' (TO.nil (T.ret ?_))))))
  obtain rfl:=osj h
  repeat (first|refine retS ?_|refine retB ?_)
  exact Fin.ret (vs:=[.nil,Bo false]) (.cons (.tmp rfl) (.cons (.tmp rfl) .nil)) (.tupL (.cons .nil0 (.cons (.of_isF 9 _ rfl) .nil)))
 ·refine T.skip (T.seq (T.clean (H0:=[bE false u3 1 3 (v2.1.schedule.map cI),(some (mB 3 1 kI3 cB v2.1.failed)),some ⟨0,6,125,[[eL (cL ZIn.c) v2.1.p,eL cI v2.1.x.From,eL (cL cI) v2.1.x.Order,eL (cL cI) v2.1.number,hS false 0 u3 1 v2.1.schedule.length,.mp 1 4]]⟩]) (e0:=envOf [(6,.hp 2 0 6 0 0)]) rfl (wkC rfl wkN) (T.region (oN mv (oN (nl rfl) (oN (fa fs125 rfl) (oA (lh (hS false 0 u3 1 v2.1.schedule.length) ty23 rfl rfl rfl) (oN (EvN.asg (hS false 0 u3 1 v2.1.schedule.length) rfl) (oN as' (TO.nil (T.ret ?_)))))))))))
  obtain rfl:=osj h
  repeat (first|refine retS ?_|refine retB ?_)
  exact Fin.ret (vs:=[hS false 0 u3 1 v2.1.schedule.length,Bo true]) (.cons (.tmp rfl) (.cons (.tmp rfl) .nil)) (.tupL (.cons (Fz.own (g:=false) (ver:=u3) (l:=v2.1.schedule) rfl rfl rfl nofun (fun _=>rfl)) (.cons (.of_isF 9 _ rfl) .nil)))
theorem F_impl_LeastSchedule_P (p:List (List ZIn)) (schedule:List Int) {q:(List Int)×Bool} (h:F_impl_LeastSchedule p schedule=some q):PCall Try.prog 38 [eL (cL ZIn.c) p,eL cI schedule] (.tup [eL cI q.1,Bo q.2]):=by
 refine pM Try.func38 rfl (by kernel_rfl) rfl (T.sr (oN as' (oN as' (TO.nil (T.sr (oN mv (oN mv (oC h (fun _=>F_impl_ExecOf_P _ _) rfl rfl rfl rfl fun v1 _ h=>oN mv (oN (EvN.ext (.agg (ZEx.c v1.1)) rfl rfl) (oN (EvN.ext (Bo v1.2) rfl rfl) (oA (EvA.al zs43 rfl rfl) (oV (sr (ZEx.c v1.1) ty43 rfl rfl rfl rfl) (oN as' (TO.nil ?_))))))))))))))
 refine T.seq (T.sr (oN mv (oN (EvN.not rfl) (TO.nil ?_))))
 refine T.ifH rfl h (fun q2 h => ?_) (fun q2 h => ?_)
 ·refine T.sr (oN as' (oN as' (TO.nil (T.ret ?_))))
  obtain rfl:=osj h
  repeat (first|refine retS ?_|refine retB ?_)
  exact Fin.ret (vs:=[.nil,Bo false]) (.cons (.tmp rfl) (.cons (.tmp rfl) .nil)) (.tupL (.cons .nil0 (.cons (.of_isF 9 _ rfl) .nil)))
 ·refine T.skip (T.sr (oN mv (oA (lh (.agg (ZEx.c v1.1)) ty43 rfl rfl rfl) (oC h (fun _=>F_impl_scheduleOf_P _ _) rfl rfl rfl rfl fun v3 _ h=>oN (EvN.ext (eL cI v3.1) rfl rfl) (oN (EvN.ext (Bo v3.2) rfl rfl) (oN as' (oN as' (TO.nil (T.ret ?_)))))))))
  obtain rfl:=osj h
  repeat (first|refine retS ?_|refine retB ?_)
  exact Fin.ret (vs:=[eL cI v3.1,Bo v3.2]) (.cons (.tmp rfl) (.cons (.tmp rfl) .nil)) (.tupL (.cons (.of_isF 9 _ rfl) (.cons (.of_isF 9 _ rfl) .nil)))
end Go.Proofs.Ytlmjnhnpahicmaa
