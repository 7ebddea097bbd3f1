/-
 The program's code computes the functions over plain values; printed by lift.py. No conditions.
-/
import Derived.Test.YtlmjnhnpahicmaaS33d
import Derived.Test.YtlmjnhnpahicmaaSf
import Derived.Test.YtlmjnhnpahicmaaL15
import Derived.Test.YtlmjnhnpahicmaaGH
import Derived.Test.YtlmjnhnpahicmaaBrV
import Derived.Test.YtlmjnhnpahicmaaS262
import Derived.Test.YtlmjnhnpahicmaaSM1
namespace Go.Proofs.Ytlmjnhnpahicmaa
open Go.RowKit
set_option maxRecDepth 100000
set_option maxHeartbeats 4000000 in
theorem F_impl_tracer_last_P (s:ZTv) (pc:Z3i) (loc:Int) {q:Int} (h:F_impl_tracer_last s pc loc=some q):PCall Try.prog 178 [.fp (ZTv.c s) 0,.agg (Z3i.c pc),I loc] (I q):=by
 refine pM Try.func178 rfl (by kernel_rfl) rfl (T.sr (oN (EvN.bxF (Z3i.c pc) rfl rfl rfl) (oN as' (TO.nil (T.sr (oN as' (TO.nil ?_)))))))
 refine T.jU h (fun s1=>[(7,I s1)]) (fun s1=>[]) (fun s1 h => ?_) (fun s1 h => ?_)
 ·refine T.sr (oN mv (oN as' (TO.nil (T.ret ?_))))
  obtain rfl:=osj h
  exact finR rfl rfl rfl
 ·refine T.sr (oN mv (oN (nl rfl) (oN (fa fs125 rfl) (oN (lf (eL (cL ZIn.c) s.p) ty27 rfl) (oN (EvN.lenL sl27 rfl) (oN mv (TO.nil (T.block ?_))))))))
  refine T.lU h (fun s4=>[(16,I s4.1),(15,I (s.p.length:Int)),(7,I s4.2),(4,.fp (Z3i.c pc) 0),(0,.fp (ZTv.c s) 0),(2,I loc)]) (fun s4=>[]) (kw rfl rfl) (fun s4 ws4 h => ?_)
  refine T.sr (oN (EvN.ilt rfl rfl) (TO.nil (T.seq ?_)))
  refine T.ifH rfl h (fun q6 h => ?_) (fun q6 h => ?_)
  ·refine T.skip ?_
   refine T.jU h (fun s7=>[(16,I s4.1),(15,I (s.p.length:Int)),(7,I s7),(4,.fp (Z3i.c pc) 0),(0,.fp (ZTv.c s) 0),(2,I loc)]) (fun s7=>[]) (fun s7 h => ?_) (fun s7 h => ?_)
   ·refine T.region (jW h fun g24 h=>oN (EvN.add rfl rfl g24) (oN mv (TO.nil ?_)))
    exact lE h (kw rfl rfl)
   ·refine T.block (T.sr (oN mv (oN as' (TO.nil (T.seq (T.drawF (fun _=>([],false)) (by kernel_rfl) (by kernel_rfl) (fN rfl mv (fN rfl (nl rfl) (fN rfl (fa fs125 rfl) (fN rfl (lf (eL (cL ZIn.c) s.p) ty27 rfl) (fN rfl mv (jD h fun g8 h=>fN rfl (EvN.ixL sl27 rfl rfl g8 (fun _=>rfl)) (fN rfl (lf (eL ZIn.c (s.p.getD s4.1.toNat default)) ty57 rfl) (fN rfl mv ?_))))))))))))))
    refine jD h fun g9 h=>fN rfl (EvN.ixafp Try.underlying127 ty3 rfl rfl g9) (fN rfl (lf1 (fun z0=>I (Z3i.get pc z0)) g9 ty3 rfl rfl rfl rfl) (jD h fun g10 h=>fN rfl (EvN.slL sl57 rfl .no (.yes rfl) g10 (fun _=>rfl)) (fN rfl (EvN.lenL sl57 rfl) (fN rfl mv (TF.nil (T.block ?_))))))
    refine T.lU h (fun s13=>[(31,I s13.1),(30,I ((((s.p.getD s4.1.toNat default).drop (0:Int).toNat).take ((Z3i.get pc s4.1).toNat-(0:Int).toNat)).length:Int)),(29,eL ZIn.c (((s.p.getD s4.1.toNat default).drop (0:Int).toNat).take ((Z3i.get pc s4.1).toNat-(0:Int).toNat))),(16,I s4.1),(15,I (s.p.length:Int)),(7,I s13.2),(4,.fp (Z3i.c pc) 0),(0,.fp (ZTv.c s) 0),(2,I loc)]) (fun s13=>[]) (kw rfl rfl) (fun s13 ws13 h => ?_)
    refine T.sr (oN (EvN.ilt rfl rfl) (TO.nil (T.seq ?_)))
    refine T.ifH rfl h (fun q15 h => ?_) (fun q15 h => ?_)
    ·refine T.skip ?_
     refine T.jU h (fun s16=>[(7,I s16),(31,I s13.1),(30,I ((((s.p.getD s4.1.toNat default).drop (0:Int).toNat).take ((Z3i.get pc s4.1).toNat-(0:Int).toNat)).length:Int)),(29,eL ZIn.c (((s.p.getD s4.1.toNat default).drop (0:Int).toNat).take ((Z3i.get pc s4.1).toNat-(0:Int).toNat))),(16,I s4.1),(15,I (s.p.length:Int)),(4,.fp (Z3i.c pc) 0),(0,.fp (ZTv.c s) 0),(2,I loc)]) (fun s16=>[]) (fun s16 h => ?_) (fun s16 h => ?_)
     ·refine T.region (jW h fun g23 h=>oN (EvN.add rfl rfl g23) (oN mv (TO.nil ?_)))
      exact lE h (kw rfl rfl)
     ·refine T.block (T.sr (jD h fun g17 h=>oN (EvN.ixL sl57 rfl rfl g17 (fun _=>rfl)) (oN (lf (.agg (ZIn.c ((((s.p.getD s4.1.toNat default).drop (0:Int).toNat).take ((Z3i.get pc s4.1).toNat-(0:Int).toNat)).getD s13.1.toNat default))) ty56 rfl) (oA (EvA.al zs56 rfl rfl) (oV (sr (ZIn.c ((((s.p.getD s4.1.toNat default).drop (0:Int).toNat).take ((Z3i.get pc s4.1).toNat-(0:Int).toNat)).getD s13.1.toNat default)) ty56 rfl rfl rfl rfl) (TO.nil (T.sr (oA (lh (.agg (ZIn.c ((((s.p.getD s4.1.toNat default).drop (0:Int).toNat).take ((Z3i.get pc s4.1).toNat-(0:Int).toNat)).getD s13.1.toNat default))) ty56 rfl rfl rfl) (oC h (fun _=>F_impl_Instr_writes_P _) rfl rfl rfl rfl fun v18 _ h=>oN mv ?_)))))))))
      refine TO.jB h 5 (fun s19=>[(42,Bo s19),(31,I s13.1),(30,I ((((s.p.getD s4.1.toNat default).drop (0:Int).toNat).take ((Z3i.get pc s4.1).toNat-(0:Int).toNat)).length:Int)),(29,eL ZIn.c (((s.p.getD s4.1.toNat default).drop (0:Int).toNat).take ((Z3i.get pc s4.1).toNat-(0:Int).toNat))),(16,I s4.1),(15,I (s.p.length:Int)),(7,I s13.2),(4,.fp (Z3i.c pc) 0),(0,.fp (ZTv.c s) 0),(2,I loc)]) (fun s19=>[some ⟨0,4,56,[(ZIn.c ((((s.p.getD s4.1.toNat default).drop (0:Int).toNat).take ((Z3i.get pc s4.1).toNat-(0:Int).toNat)).getD s13.1.toNat default))]⟩]) (fun s19 q20 h js19 => ?_) (fun s19 q20 h js19 => ?_) (fun s19 h => ?_)
      ·refine gN rfl q20 (fa fs56 rfl) (gA rfl q20 (lh (I (((((s.p.getD s4.1.toNat default).drop (0:Int).toNat).take ((Z3i.get pc s4.1).toNat-(0:Int).toNat)).getD s13.1.toNat default).Loc)) ty3 rfl rfl rfl) (gN rfl q20 mv (gN rfl q20 (EvN.ieq rfl rfl) (oN (EvN.pickT rfl q20 (Bo ((((((s.p.getD s4.1.toNat default).drop (0:Int).toNat).take ((Z3i.get pc s4.1).toNat-(0:Int).toNat)).getD s13.1.toNat default).Loc)==loc)) rfl) ?_))))
       obtain rfl:=osj h
       exact js19 _ _ (kw rfl rfl)
      ·refine gS rfl q20 (gS rfl q20 (gS rfl q20 (gS rfl q20 (oN (EvN.pickF rfl q20 (Bo false) rfl) ?_))))
       obtain rfl:=osj h
       exact js19 _ _ (kw rfl rfl)
      ·refine TO.nil ?_
       refine T.ifH rfl h (fun q21 h => ?_) (fun q21 h => ?_)
       ·refine T.region (oN mv (jW h fun g22 h=>oN (EvN.add rfl rfl g22) (oN as' (TO.nil ?_))))
        obtain rfl:=osj h
        exact ⟨(),trivial,cutS rfl .nil (stl_cons (.fz (.of_isF 9 _ rfl)) (stl_cons (.fz (.of_isF 9 _ rfl)) (stl_cons (.fz (.of_isF 9 _ rfl)) (stl_cons (.fz (.of_isF 9 _ rfl)) (stl_cons (.fz (.of_isF 9 _ rfl)) (stl_cons (.fz (.of_isF 9 _ rfl)) (stl_cons (.fz (.of_isF 9 _ rfl)) (stl_cons (.fz (.of_isF 9 _ rfl)) (stl_cons (.fz (.of_isF 9 _ rfl)) stl_nil)))))))))⟩
       ·refine T.skip ?_
        obtain rfl:=osj h
        exact ⟨(),trivial,cutS rfl .nil (stl_cons (.fz (.of_isF 9 _ rfl)) (stl_cons (.fz (.of_isF 9 _ rfl)) (stl_cons (.fz (.of_isF 9 _ rfl)) (stl_cons (.fz (.of_isF 9 _ rfl)) (stl_cons (.fz (.of_isF 9 _ rfl)) (stl_cons (.fz (.of_isF 9 _ rfl)) (stl_cons (.fz (.of_isF 9 _ rfl)) (stl_cons (.fz (.of_isF 9 _ rfl)) (stl_cons (.fz (.of_isF 9 _ rfl)) stl_nil)))))))))⟩
    ·refine T.exit (lX h fun h => ?_)
     obtain rfl:=osj h
     exact ⟨(),trivial,kw rfl rfl⟩
  ·refine T.exit (lX h fun h => ?_)
   obtain rfl:=osj h
   exact ⟨(),trivial,kw rfl rfl⟩
set_option maxHeartbeats 4000000 in
theorem F_impl_tracer_can_P (s:ZTv) (pc:Z3i) (t:Int) {q:Bool} (h:F_impl_tracer_can s pc t=some q):PCall Try.prog 151 [.fp (ZTv.c s) 0,.agg (Z3i.c pc),I t] (Bo q):=by
 refine pM Try.func151 rfl (by kernel_rfl) rfl (T.sr (oN (EvN.bxF (Z3i.c pc) rfl rfl rfl) (oN as' (TO.nil (T.seq (T.seq (T.drawF (fun _=>([],false)) (by kernel_rfl) (by kernel_rfl) (fN rfl mv (jD h fun g1 h=>fN rfl (EvN.ixafp Try.underlying127 ty3 rfl rfl g1) (fN rfl (lf1 (fun z0=>I (Z3i.get pc z0)) g1 ty3 rfl rfl rfl rfl) (fN rfl mv (fN rfl (nl rfl) (fN rfl (fa fs125 rfl) (fN rfl (lf (eL (cL ZIn.c) s.p) ty27 rfl) ?_))))))))))))))
 refine fN rfl mv (jD h fun g2 h=>fN rfl (EvN.ixL sl27 rfl rfl g2 (fun _=>rfl)) (fN rfl (lf (eL ZIn.c (s.p.getD t.toNat default)) ty57 rfl) (fN rfl (EvN.lenL sl57 rfl) (fN rfl (EvN.ieq rfl rfl) (TF.nil ?_)))))
 refine T.ifH rfl h (fun q3 h => ?_) (fun q3 h => ?_)
 ·refine T.seq (T.clean (H0:=[]) (e0:=envOf []) rfl wkN (T.region (oN as' (TO.nil (T.ret ?_)))))
  obtain rfl:=osj h
  exact finR rfl rfl rfl
 ·refine T.skip (T.seq (T.reserve (T.drawF (fun i=>[([],false),([],false),([],false),([],false),([],false),([],false),([],false),([],false),([],false),([],false),([],false),([],false),([],false),([],false),([],false),([],false),([],false),([],false),([],false),([],false),([],false),([],false),([],false),([],false),([0],true),([0],true),([],false)].getD i ([],false)) (by kernel_rfl) (by kernel_rfl) (fN rfl mv (fN rfl (nl rfl) (fN rfl (fa fs125 rfl) (fN rfl (lf (eL (cL ZIn.c) s.p) ty27 rfl) (fN rfl mv (fN rfl (EvN.ixL sl27 rfl rfl g2 (fun _=>rfl)) (fN rfl (lf (eL ZIn.c (s.p.getD t.toNat default)) ty57 rfl) (fN rfl mv (fN rfl (EvN.ixafp Try.underlying127 ty3 rfl rfl g1) (fN rfl (lf1 (fun z0=>I (Z3i.get pc z0)) g1 ty3 rfl rfl rfl rfl) (jD h fun g4 h=>fN rfl (EvN.ixL sl57 rfl rfl g4 (fun _=>rfl)) ?_))))))))))))))
  refine fN rfl (lf (.agg (ZIn.c ((s.p.getD t.toNat default).getD (Z3i.get pc t).toNat default))) ty56 rfl) (fN rfl mv (fN rfl (nl rfl) (fN rfl (fa fs125 rfl) (fN rfl (lf (eL (cL cI) s.number) ty37 rfl) (fN rfl mv (jD h fun g5 h=>fN rfl (EvN.ixL sl37 rfl rfl g5 (fun _=>rfl)) (fN rfl (lf (eL cI (s.number.getD t.toNat default)) ty23 rfl) (fN rfl mv (fN rfl (EvN.ixafp Try.underlying127 ty3 rfl rfl g1) (fN rfl (lf1 (fun z0=>I (Z3i.get pc z0)) g1 ty3 rfl rfl rfl rfl) (jD h fun g6 h=>fN rfl (EvN.ixL sl23 rfl rfl g6 (fun _=>rfl)) (fN rfl (lf (I ((s.number.getD t.toNat default).getD (Z3i.get pc t).toNat default)) ty3 rfl) (fW 0 [] rfl rfl (fun G hG=>EvA.alR 0 zs56 rfl rfl (hG.a0 rfl)) ?_)))))))))))))
  refine fV 0 [] rfl rfl (fun G hG=>EvA.st (cs:=(ZIn.c ((s.p.getD t.toNat default).getD (Z3i.get pc t).toNat default))) ⟨0,4,56,[(ZIn.c ((s.p.getD t.toNat default).getD (Z3i.get pc t).toNat default))]⟩ ty56 rfl rfl (hG.a0 rfl) rfl rfl rfl rfl rfl rfl) (fN rfl as' (TF.nil (T.seq (T.seq (T.clean (H0:=[some ⟨0,4,56,[(ZIn.c ((s.p.getD t.toNat default).getD (Z3i.get pc t).toNat default))]⟩]) (e0:=envOf [(8,I ((s.number.getD t.toNat default).getD (Z3i.get pc t).toNat default)),(7,.hp 0 0 4 0 0),(4,.fp (Z3i.c pc) 0),(0,.fp (ZTv.c s) 0)]) rfl (wkC rfl (wkC rfl (wkC rfl (wkC rfl wkN)))) (T.region (oN (fa fs56 rfl) (oA (lh (I (((s.p.getD t.toNat default).getD (Z3i.get pc t).toNat default).Op)) ty3 rfl rfl rfl) (oN (EvN.ieq rfl rfl) (TO.nil ?_))))))))))
  refine T.ifH rfl h (fun q7 h => ?_) (fun q7 h => ?_)
  ·refine T.sr (oN as' (TO.nil (T.ret ?_)))
   obtain rfl:=osj h
   exact finR rfl rfl rfl
  ·refine T.skip (T.seq (T.drawF (fun i=>[([],false),([],false),([],false),([],false),([],false),([],false),([0],false),([],false),([],false),([],false)].getD i ([],false)) (by kernel_rfl) (by kernel_rfl) (fN rfl mv (fN rfl (nl rfl) (fN rfl (EvN.fafpS 2 Try.underlying125 rfl (by kernel_rfl) rfl rfl (row2:=ZEx.c s.x)) (fN rfl (fa fs43 rfl) (fN rfl (lf (eL (cL cI) s.x.Order) ty37 rfl) (fN rfl (fa fs56 rfl) (fR [0] rfl (fun G hG=>EvA.loadhp (I (((s.p.getD t.toNat default).getD (Z3i.get pc t).toNat default).Loc)) ty3 rfl (hG.a0 rfl) rfl rfl rfl rfl) (jD h fun g8 h=>fN rfl (EvN.ixL sl37 rfl rfl g8 (fun _=>rfl)) (fN rfl (lf (eL cI (s.x.Order.getD (((s.p.getD t.toNat default).getD (Z3i.get pc t).toNat default).Loc).toNat default)) ty23 rfl) (fN rfl as' (TF.nil (T.sr ?_))))))))))))))
   refine oN mv (oN (lf (.agg (Z3i.c pc)) ty127 rfl) (oN (fa fs56 rfl) (oA (lh (I (((s.p.getD t.toNat default).getD (Z3i.get pc t).toNat default).Loc)) ty3 rfl rfl rfl) (oC h (fun _=>F_impl_tracer_last_P _ _ _) rfl rfl rfl rfl fun v9 _ h=>oN as' (TO.nil ?_)))))
   refine T.jU h (fun s10=>[(6,Bo s10)]) (fun s10=>[some ⟨0,4,56,[(ZIn.c ((s.p.getD t.toNat default).getD (Z3i.get pc t).toNat default))]⟩]) (fun s10 h => ?_) (fun s10 h => ?_)
   ·refine T.ret ?_
    obtain rfl:=osj h
    exact finR rfl rfl rfl
   ·refine T.clean (H0:=[some ⟨0,4,56,[(ZIn.c ((s.p.getD t.toNat default).getD (Z3i.get pc t).toNat default))]⟩]) (e0:=envOf [(10,I v9),(9,eL cI (s.x.Order.getD (((s.p.getD t.toNat default).getD (Z3i.get pc t).toNat default).Loc).toNat default)),(8,I ((s.number.getD t.toNat default).getD (Z3i.get pc t).toNat default)),(7,.hp 0 0 4 0 0),(0,.fp (ZTv.c s) 0)]) rfl (wkC rfl (wkC rfl (wkC rfl (wkC rfl (wkC rfl wkN))))) (T.drawG (fun i=>[([0],false),([],false),([],false),([],false),([],false),([],false),([],false),([],false),([],false),([],false),([],false),([],false),([],false),([],false),([],false),([],false),([],false),([],false),([],false),([0],false),([],false),([],false),([],false),([],false),([],false),([],false),([],false),([],false),([],false),([],false),([],false),([],false),([],false)].getD i ([],false)) (by kernel_rfl) (by kernel_rfl) (tR [0] rfl (fun G hG=>EvA.loadhp (.agg (ZIn.c ((s.p.getD t.toNat default).getD (Z3i.get pc t).toNat default))) ty56 rfl (hG.a0 rfl) rfl rfl rfl rfl) (jB h fun v11 cv11 h=>tN rfl (EvN.call rfl rfl rfl (F_impl_Instr_reads_P (⟨((s.p.getD t.toNat default).getD (Z3i.get pc t).toNat default).Op,((s.p.getD t.toNat default).getD (Z3i.get pc t).toNat default).Loc,((s.p.getD t.toNat default).getD (Z3i.get pc t).toNat default).Reg,((s.p.getD t.toNat default).getD (Z3i.get pc t).toNat default).Val⟩:ZIn) cv11) rfl) (tN rfl (EvN.not rfl) (tN rfl mv ?_)))))
    rcases bifL h with ⟨q12,h⟩ | ⟨q12,h⟩
    ·refine tgS rfl q12 (tgS rfl q12 (tgS rfl q12 (tgS rfl q12 (tgS rfl q12 (tgS rfl q12 (tgS rfl q12 (tgS rfl q12 (tgS rfl q12 (tgS rfl q12 (tgS rfl q12 (tgS rfl q12 (tgS rfl q12 (tN rfl (EvN.pickT rfl q12 (Bo true) rfl) (tN rfl mv (tgR rfl rfl [0] rfl (fun G hG=>EvA.loadhp (.agg (ZIn.c ((s.p.getD t.toNat default).getD (Z3i.get pc t).toNat default))) ty56 rfl (hG.a0 rfl) rfl rfl rfl rfl) ?_)))))))))))))))
     refine jB h fun v13 cv13 h=>tgN rfl rfl rfl (EvN.call rfl rfl rfl (F_impl_Instr_writes_P (⟨((s.p.getD t.toNat default).getD (Z3i.get pc t).toNat default).Op,((s.p.getD t.toNat default).getD (Z3i.get pc t).toNat default).Loc,((s.p.getD t.toNat default).getD (Z3i.get pc t).toNat default).Reg,((s.p.getD t.toNat default).getD (Z3i.get pc t).toNat default).Val⟩:ZIn) cv13) rfl) (tgN rfl rfl rfl (EvN.not rfl) (tgN rfl rfl rfl mv ?_))
     rcases bifL h with ⟨q14,h⟩ | ⟨q14,h⟩
     ·refine tgS rfl q14 (tgS rfl q14 (tgS rfl q14 (tgS rfl q14 (tgS rfl q14 (tgS rfl q14 (tgS rfl q14 (tgN rfl rfl rfl (EvN.pickT rfl q14 (Bo true) rfl) (tN rfl (EvN.pickT rfl rfl (Bo true) rfl) (tN rfl as' (TG.nil ?_))))))))))
      obtain rfl:=osj h
      exact ⟨(),trivial,kw rfl rfl⟩
     ·refine tgN rfl q14 rfl mv (tgN rfl q14 rfl mv (jW h fun g15 h=>tgN rfl q14 rfl (EvN.add rfl rfl g15) (jD h fun g16 h=>tgN rfl q14 rfl (EvN.ixL sl23 rfl rfl g16 (fun _=>rfl)) (tgN rfl q14 rfl (lf (I ((s.x.Order.getD (((s.p.getD t.toNat default).getD (Z3i.get pc t).toNat default).Loc).toNat default).getD (v9+(1:Int)).toNat default)) ty3 rfl) (tgN rfl q14 rfl mv (tgN rfl q14 rfl (EvN.ieq rfl rfl) (tgN rfl rfl rfl (EvN.pickF rfl q14 (Bo (((s.x.Order.getD (((s.p.getD t.toNat default).getD (Z3i.get pc t).toNat default).Loc).toNat default).getD (v9+(1:Int)).toNat default)==((s.number.getD t.toNat default).getD (Z3i.get pc t).toNat default))) rfl) (tN rfl (EvN.pickT rfl rfl (Bo (((s.x.Order.getD (((s.p.getD t.toNat default).getD (Z3i.get pc t).toNat default).Loc).toNat default).getD (v9+(1:Int)).toNat default)==((s.number.getD t.toNat default).getD (Z3i.get pc t).toNat default))) rfl) (tN rfl as' (TG.nil ?_))))))))))
      obtain rfl:=osj h
      exact ⟨(),trivial,kw rfl rfl⟩
    ·refine tgN rfl q12 rfl mv (tgN rfl q12 rfl (nl rfl) (tgN rfl q12 rfl (EvN.fafpS 2 Try.underlying125 rfl (by kernel_rfl) rfl rfl (row2:=ZEx.c s.x)) (tgN rfl q12 rfl (fa fs43 rfl) (tgN rfl q12 rfl (lf (eL cI s.x.From) ty23 rfl) (tgN rfl q12 rfl mv (jD h fun g17 h=>tgN rfl q12 rfl (EvN.ixL sl23 rfl rfl g17 (fun _=>rfl)) (tgN rfl q12 rfl (lf (I (s.x.From.getD ((s.number.getD t.toNat default).getD (Z3i.get pc t).toNat default).toNat default)) ty3 rfl) (tgN rfl q12 rfl mv (tgN rfl q12 rfl mv (jD h fun g18 h=>tgN rfl q12 rfl (EvN.ixL sl23 rfl rfl g18 (fun _=>rfl)) (tgN rfl q12 rfl (lf (I ((s.x.Order.getD (((s.p.getD t.toNat default).getD (Z3i.get pc t).toNat default).Loc).toNat default).getD v9.toNat default)) ty3 rfl) (tgN rfl q12 rfl (EvN.ieq rfl rfl) (tN rfl (EvN.pickF rfl q12 (Bo ((s.x.From.getD ((s.number.getD t.toNat default).getD (Z3i.get pc t).toNat default).toNat default)==((s.x.Order.getD (((s.p.getD t.toNat default).getD (Z3i.get pc t).toNat default).Loc).toNat default).getD v9.toNat default))) rfl) ?_)))))))))))))
     refine tN rfl mv ?_
     rcases bifL h with ⟨q19,h⟩ | ⟨q19,h⟩
     ·refine tgR rfl q19 [0] rfl (fun G hG=>EvA.loadhp (.agg (ZIn.c ((s.p.getD t.toNat default).getD (Z3i.get pc t).toNat default))) ty56 rfl (hG.a0 rfl) rfl rfl rfl rfl) (jB h fun v20 cv20 h=>tgN rfl q19 rfl (EvN.call rfl rfl rfl (F_impl_Instr_writes_P (⟨((s.p.getD t.toNat default).getD (Z3i.get pc t).toNat default).Op,((s.p.getD t.toNat default).getD (Z3i.get pc t).toNat default).Loc,((s.p.getD t.toNat default).getD (Z3i.get pc t).toNat default).Reg,((s.p.getD t.toNat default).getD (Z3i.get pc t).toNat default).Val⟩:ZIn) cv20) rfl) (tgN rfl q19 rfl (EvN.not rfl) (tgN rfl q19 rfl mv ?_)))
      rcases bifL h with ⟨q21,h⟩ | ⟨q21,h⟩
      ·refine tgS rfl q21 (tgS rfl q21 (tgS rfl q21 (tgS rfl q21 (tgS rfl q21 (tgS rfl q21 (tgS rfl q21 (tgN rfl q19 rfl (EvN.pickT rfl q21 (Bo true) rfl) (tN rfl (EvN.pickT rfl q19 (Bo true) rfl) (tN rfl as' (TG.nil ?_))))))))))
       obtain rfl:=osj h
       exact ⟨(),trivial,kw rfl rfl⟩
      ·refine tgN rfl q21 rfl mv (tgN rfl q21 rfl mv (jW h fun g22 h=>tgN rfl q21 rfl (EvN.add rfl rfl g22) (jD h fun g23 h=>tgN rfl q21 rfl (EvN.ixL sl23 rfl rfl g23 (fun _=>rfl)) (tgN rfl q21 rfl (lf (I ((s.x.Order.getD (((s.p.getD t.toNat default).getD (Z3i.get pc t).toNat default).Loc).toNat default).getD (v9+(1:Int)).toNat default)) ty3 rfl) (tgN rfl q21 rfl mv (tgN rfl q21 rfl (EvN.ieq rfl rfl) (tgN rfl q19 rfl (EvN.pickF rfl q21 (Bo (((s.x.Order.getD (((s.p.getD t.toNat default).getD (Z3i.get pc t).toNat default).Loc).toNat default).getD (v9+(1:Int)).toNat default)==((s.number.getD t.toNat default).getD (Z3i.get pc t).toNat default))) rfl) (tN rfl (EvN.pickT rfl q19 (Bo (((s.x.Order.getD (((s.p.getD t.toNat default).getD (Z3i.get pc t).toNat default).Loc).toNat default).getD (v9+(1:Int)).toNat default)==((s.number.getD t.toNat default).getD (Z3i.get pc t).toNat default))) rfl) (tN rfl as' (TG.nil ?_))))))))))
       obtain rfl:=osj h
       exact ⟨(),trivial,kw rfl rfl⟩
     ·refine tgS rfl q19 (tgS rfl q19 (tgS rfl q19 (tgS rfl q19 (tgU rfl (tgU rfl (tgU rfl (tgU rfl (tgU rfl (tgU rfl (tgU rfl (tgS rfl q19 (tN rfl (EvN.pickF rfl q19 (Bo false) rfl) (tN rfl as' (TG.nil ?_))))))))))))))
      obtain rfl:=osj h
      exact ⟨(),trivial,kw rfl rfl⟩
set_option maxHeartbeats 4000000 in
theorem F_impl_tracer_from_PN:∀ (nf:Nat) (s:ZTr) (pc:Z3i) (ver0:Nat) (ver1:Nat) {q:ZTr×Bool} (h:F_impl_tracer_from_N nf s pc=some q),BCall Try.prog 115 [.hp 0 ver0 6 0 0,.agg (Z3i.c pc)] [some ⟨ver0,6,125,[[eL (cL ZIn.c) s.p,eL cI s.x.From,eL (cL cI) s.x.Order,eL (cL cI) s.number,hS false 1 ver1 1 s.schedule.length,.mp 2 4]]⟩,bE false ver1 1 3 (s.schedule.map cI),(some (mB 3 1 kI3 cB s.failed))] (OutV (Bo q.2) fun ver=>[some ⟨ver0,6,125,[[eL (cL ZIn.c) q.1.p,eL cI q.1.x.From,eL (cL cI) q.1.x.Order,eL (cL cI) q.1.number,hS false 1 ver 1 q.1.schedule.length,.mp 2 4]]⟩,bE false ver 1 3 (q.1.schedule.map cI),(some (mB 3 1 kI3 cB q.1.failed))]):=by
 intro nf
 induction nf with
 | zero=>intros;rename_i h;cases h
 | succ nf ih=>
  intro s pc ver0 ver1 q h
  replace h:F_impl_tracer_from_B (F_impl_tracer_from_N nf) s pc=some q:=h
  refine BCall.mkS Try.func115 rfl (by kernel_rfl) rfl (by kernel_rfl) (e0:=envOf [(0,.hp 0 ver0 6 0 0),(1,.agg (Z3i.c pc))]) (wkC rfl (wkC rfl wkN)) (T.sr (oN (EvN.bxF (Z3i.c pc) rfl rfl rfl) (oN as' (TO.nil (T.seq (T.seq (T.drawF (fun i=>[([],false),([],false),([],false),([0],false),([],false),([2],false)].getD i ([],false)) (by kernel_rfl) (by kernel_rfl) (fN rfl mv (fN rfl (nl rfl) (fN rfl (fa fs125 rfl) (fR [0] rfl (fun G hG=>EvA.loadhp (.mp 2 4) ty123 rfl (hG.a0 rfl) rfl rfl rfl rfl) (fN rfl (lf (.agg (Z3i.c pc)) ty127 rfl) (fR [2] rfl (fun G hG=>EvA.lookB (l:=s.failed) km123 Try.underlying123 (by kernel_rfl) (pc.x0,pc.x1,pc.x2) rfl rfl (hG.a0 rfl)) (TF.nil ?_))))))))))))))
  refine T.ifH rfl h (fun q1 h => ?_) (fun q1 h => ?_)
  ·refine T.sr (oN as' (TO.nil (T.ret ?_)))
   obtain rfl:=osj h
   repeat (first|refine retS ?_|refine retB ?_)
   exact ⟨envOf [(4,Bo false)],[some ⟨ver0,6,125,[[eL (cL ZIn.c) s.p,eL cI s.x.From,eL (cL cI) s.x.Order,eL (cL cI) s.number,hS false 1 ver1 1 s.schedule.length,.mp 2 4]]⟩,bE false ver1 1 3 (s.schedule.map cI),(some (mB 3 1 kI3 cB s.failed))],kw rfl rfl,Fin.ret (vs:=[Bo false]) (.cons (.tmp rfl) .nil) ⟨ver1,rfl,rfl⟩⟩
  ·refine T.skip (T.sr (oN as' (TO.nil ?_)))
   refine T.jU h (fun s2=>[(5,Bo s2),(3,.fp (Z3i.c pc) 0),(0,.hp 0 ver0 6 0 0)]) (fun s2=>[some ⟨ver0,6,125,[[eL (cL ZIn.c) s.p,eL cI s.x.From,eL (cL cI) s.x.Order,eL (cL cI) s.number,hS false 1 ver1 1 s.schedule.length,.mp 2 4]]⟩,bE false ver1 1 3 (s.schedule.map cI),(some (mB 3 1 kI3 cB s.failed))]) (fun s2 h => ?_) (fun s2 h => ?_)
   ·refine T.seq (T.sr (oN mv (TO.nil ?_)))
    refine T.ifH rfl h (fun q13 h => ?_) (fun q13 h => ?_)
    ·refine T.sr (oN as' (TO.nil (T.ret ?_)))
     obtain rfl:=osj h
     repeat (first|refine retS ?_|refine retB ?_)
     exact ⟨envOf [(4,Bo true)],[some ⟨ver0,6,125,[[eL (cL ZIn.c) s.p,eL cI s.x.From,eL (cL cI) s.x.Order,eL (cL cI) s.number,hS false 1 ver1 1 s.schedule.length,.mp 2 4]]⟩,bE false ver1 1 3 (s.schedule.map cI),(some (mB 3 1 kI3 cB s.failed))],kw rfl rfl,Fin.ret (vs:=[Bo true]) (.cons (.tmp rfl) .nil) ⟨ver1,rfl,rfl⟩⟩
    ·refine T.skip ?_
     obtain ⟨Ks14,es14,ws14,h,ks14⟩:=sumL h
     refine T.join (S:=(List (List ZIn))×(List Int)×(List (List Int))×(List (List Int))×(List Int)×(List ((Int×Int×Int)×Bool))) (G:=Nat) (fun s14=>Ks14 s14=some q) (fun s14 gh=>True) (fun s14 gh=>[(3,.fp (Z3i.c pc) 0),(0,.hp 0 ver0 6 0 0)]) (fun s14 gh=>[some ⟨ver0,6,125,[[eL (cL ZIn.c) s14.1,eL cI s14.2.1,eL (cL cI) s14.2.2.1,eL (cL cI) s14.2.2.2.1,hS false 1 gh 1 s14.2.2.2.2.1.length,.mp 2 4]]⟩,bE false gh 1 3 (s14.2.2.2.2.1.map cI),(some (mB 3 1 kI3 cB s14.2.2.2.2.2))]) (fun s14 u35 h hg => ?_) ?_
     ·clear ks14
      subst es14
      refine T.seq (T.drawF (fun i=>[([],false),([],false),([],false),([0],false),([],false),([2],true)].getD i ([],false)) (by kernel_rfl) (by kernel_rfl) (fN rfl mv (fN rfl (nl rfl) (fN rfl (fa fs125 rfl) (fR [0] rfl (fun G hG=>EvA.loadhp (.mp 2 4) ty123 rfl (hG.a0 rfl) rfl rfl rfl rfl) (fN rfl (lf (.agg (Z3i.c pc)) ty127 rfl) (fV 2 [] rfl rfl (fun G hG=>EvA.msetB (l:=s14.2.2.2.2.2) km123 Try.underlying123 (pc.x0,pc.x1,pc.x2) true rfl rfl rfl (hG.a0 rfl)) (TF.nil (T.sr (oN as' (TO.nil (T.ret ?_))))))))))))
      obtain rfl:=osj h
      repeat (first|refine retS ?_|refine retB ?_)
      exact ⟨envOf [(4,Bo false)],[some ⟨ver0,6,125,[[eL (cL ZIn.c) s14.1,eL cI s14.2.1,eL (cL cI) s14.2.2.1,eL (cL cI) s14.2.2.2.1,hS false 1 u35 1 s14.2.2.2.2.1.length,.mp 2 4]]⟩,bE false u35 1 3 (s14.2.2.2.2.1.map cI),(some (mB 3 1 kI3 cB (mput s14.2.2.2.2.2 (pc.x0,pc.x1,pc.x2) true)))],kw rfl rfl,Fin.ret (vs:=[Bo false]) (.cons (.tmp rfl) .nil) ⟨u35,rfl,rfl⟩⟩
     ·refine T.sr (oN mv (oN (nl rfl) (oN (fa fs125 rfl) (oA (lh (eL (cL ZIn.c) s.p) ty27 rfl rfl rfl) (oN (EvN.lenL sl27 rfl) (oN mv (TO.nil (T.block ?_))))))))
      refine T.loop (S:=(List (List ZIn))×(List Int)×(List (List Int))×(List (List Int))×(List Int)×(List ((Int×Int×Int)×Bool))×Int) (G:=Nat) (F_impl_tracer_from_L19 (F_impl_tracer_from_N nf) s pc) (fun s18 gh=>True) (fun s18 gh=>[(45,I s18.2.2.2.2.2.2),(44,I (s.p.length:Int)),(3,.fp (Z3i.c pc) 0),(0,.hp 0 ver0 6 0 0)]) (fun s18 gh=>[some ⟨ver0,6,125,[[eL (cL ZIn.c) s18.1,eL cI s18.2.1,eL (cL cI) s18.2.2.1,eL (cL cI) s18.2.2.2.1,hS false 1 gh 1 s18.2.2.2.2.1.length,.mp 2 4]]⟩,bE false gh 1 3 (s18.2.2.2.2.1.map cI),(some (mB 3 1 kI3 cB s18.2.2.2.2.2.1))]) (s0:=(s.p,s.x.From,s.x.Order,s.number,s.schedule,s.failed,(0:Int))) ver1 h trivial (kw rfl rfl) (fun s18 u20 ws18 h hg => ?_)
      refine T.sr (oN (EvN.ilt rfl rfl) (TO.nil (T.seq ?_)))
      refine T.ifH rfl h (fun q21 h => ?_) (fun q21 h => ?_)
      ·refine T.skip ?_
       obtain ⟨Ks22,es22,ws22,h,ks22⟩:=sumL h
       refine T.join (S:=(List (List ZIn))×(List Int)×(List (List Int))×(List (List Int))×(List Int)×(List ((Int×Int×Int)×Bool))) (G:=Nat) (fun s22=>Ks22 s22=some ws18) (fun s22 gh=>True) (fun s22 gh=>[(45,I s18.2.2.2.2.2.2),(44,I (s.p.length:Int)),(3,.fp (Z3i.c pc) 0),(0,.hp 0 ver0 6 0 0)]) (fun s22 gh=>[some ⟨ver0,6,125,[[eL (cL ZIn.c) s22.1,eL cI s22.2.1,eL (cL cI) s22.2.2.1,eL (cL cI) s22.2.2.2.1,hS false 1 gh 1 s22.2.2.2.2.1.length,.mp 2 4]]⟩,bE false gh 1 3 (s22.2.2.2.2.1.map cI),(some (mB 3 1 kI3 cB s22.2.2.2.2.2))]) (fun s22 u33 h hg => ?_) ?_
       ·clear ks22
        subst es22
        refine T.region (jW h fun g34 h=>oN (EvN.add rfl rfl g34) (oN mv (TO.nil ?_)))
        obtain rfl:=osj h
        exact ⟨(s22.1,s22.2.1,s22.2.2.1,s22.2.2.2.1,s22.2.2.2.2.1,s22.2.2.2.2.2,(s18.2.2.2.2.2.2+(1:Int))),u33,rfl,trivial,kw rfl rfl⟩
       ·refine T.block (T.sr (oN mv (oN as' (TO.nil (T.seq (T.sr (oN mv (oN (lf (.agg (Z3i.c pc)) ty127 rfl) (oN mv (jB h fun v23 cv23 h=>oA (EvA.callTP rfl rfl (F_impl_tracer_can_P (⟨s18.1,(⟨s18.2.1,s18.2.2.1⟩:ZEx),s18.2.2.2.1⟩:ZTv) pc s18.2.2.2.2.2.2 cv23) (.cons (.hp (ver:=ver0) (s:=6) (ty:=125) (r:=[eL (cL ZIn.c) s18.1,eL cI s18.2.1,eL (cL cI) s18.2.2.1,eL (cL cI) s18.2.2.2.1]) (x:=[hS false 1 u20 1 s18.2.2.2.2.1.length,.mp 2 4]) rfl (.cons (.of_isF 9 _ rfl) (.cons (.of_isF 9 _ rfl) (.cons (.of_isF 9 _ rfl) (.cons (.of_isF 9 _ rfl) .nil))))) (.cons (.fz (.of_isF 9 _ rfl)) (.cons (.fz (.of_isF 9 _ rfl)) .nil))) rfl) (oN (EvN.not rfl) (TO.nil ?_))))))))))))
        refine T.ifH rfl h (fun q24 h => ?_) (fun q24 h => ?_)
        ·refine T.exit ?_
         obtain rfl:=osj h
         exact ⟨(s18.1,s18.2.1,s18.2.2.1,s18.2.2.2.1,s18.2.2.2.2.1,s18.2.2.2.2.2.1),u20,ks22,trivial,kw rfl rfl⟩
        ·refine T.skip (T.sr (oN (lf (.agg (Z3i.c pc)) ty127 rfl) (oA (EvA.al zs127 rfl rfl) (oV (sr (Z3i.c pc) ty127 rfl rfl rfl rfl) (TO.nil (T.sr (oN mv (jD h fun g25 h=>oN (EvN.ixahp Try.underlying127 ty3 rfl rfl g25) (oA (lh1 (fun z0=>I (Z3i.get pc z0)) g25 ty3 rfl rfl rfl rfl rfl) (jW h fun g26 h=>oN (EvN.add rfl rfl g26) (oN (EvN.ixahp Try.underlying127 ty3 rfl rfl g25) (oV (sr1 (fun z0=>(Z3i.c (Z3i.set pc z0 ((Z3i.get pc s18.2.2.2.2.2.2)+(1:Int))))) g25 ty3 rfl rfl rfl rfl rfl rfl) (TO.nil ?_)))))))))))))
         refine T.sr (oN mv (oN mv (oN (nl rfl) (oN (fa fs125 rfl) (oA (lh (hS false 1 u20 1 s18.2.2.2.2.1.length) ty23 rfl rfl rfl) (oN mv (oN (EvN.mkF (c:=cI) ([s18.2.2.2.2.2.2]:List Int) [[I s18.2.2.2.2.2.2]] sl23 rfl rfl rfl (fun _=>rfl) (fun _=>rfl) rfl) (jL h fun g27 h=>oA (EvA.app1 (g:=false) (l:=s18.2.2.2.2.1) s18.2.2.2.2.2.2 sl23 (by kernel_rfl) rfl rfl rfl nofun (SrcOk.fz (l:=([s18.2.2.2.2.2.2]:List Int)) rfl (fun _=>rfl)) g27) (oN (nl rfl) (oN (fa fs125 rfl) (oV (sr [eL (cL ZIn.c) s18.1,eL cI s18.2.1,eL (cL cI) s18.2.2.1,eL (cL cI) s18.2.2.2.1,hS false 1 (u20+1) 1 ((s18.2.2.2.2.1++[s18.2.2.2.2.2.2]).length),.mp 2 4] ty23 rfl rfl rfl rfl) (TO.nil (T.seq (T.seq ?_))))))))))))))
         refine T.clean (H0:=[some ⟨ver0,6,125,[[eL (cL ZIn.c) s18.1,eL cI s18.2.1,eL (cL cI) s18.2.2.1,eL (cL cI) s18.2.2.2.1,hS false 1 (u20+1) 1 ((s18.2.2.2.2.1++[s18.2.2.2.2.2.2]).length),.mp 2 4]]⟩,bE false (u20+1) 1 3 ((s18.2.2.2.2.1++[s18.2.2.2.2.2.2]).map cI),(some (mB 3 1 kI3 cB s18.2.2.2.2.2.1)),some ⟨0,3,127,[(Z3i.c (Z3i.set pc s18.2.2.2.2.2.2 ((Z3i.get pc s18.2.2.2.2.2.2)+(1:Int))))]⟩]) (e0:=envOf [(8,.hp 3 0 3 0 0),(45,I s18.2.2.2.2.2.2),(44,I (s.p.length:Int)),(3,.fp (Z3i.c pc) 0),(0,.hp 0 ver0 6 0 0)]) rfl (wkC rfl (wkC rfl (wkC rfl (wkC rfl (wkC rfl wkN))))) (T.region (oN mv (oA (lh (.agg (Z3i.c (Z3i.set pc s18.2.2.2.2.2.2 ((Z3i.get pc s18.2.2.2.2.2.2)+(1:Int))))) ty127 rfl rfl rfl) (jB h fun v28 cv28 h => ?_))))
         refine oW rfl rfl rfl (BCall.outAt (ih (⟨s18.1,(⟨s18.2.1,s18.2.2.1⟩:ZEx),s18.2.2.2.1,(s18.2.2.2.2.1++[s18.2.2.2.2.2.2]),s18.2.2.2.2.2.1⟩:ZTr) (Z3i.set pc s18.2.2.2.2.2.2 ((Z3i.get pc s18.2.2.2.2.2.2)+(1:Int))) ver0 (u20+1) cv28) [0,1,2] (by decide) (.cons rfl (.rowL (.cons (ren_isF 9 _ rfl) (.cons (ren_isF 9 _ rfl) (.cons (ren_isF 9 _ rfl) (.cons (ren_isF 9 _ rfl) (.cons (ren_hSg rfl) (.cons (.mp rfl) .nil))))))) (.cons rfl (RenK.bE' (fun _=>rfl)) (.cons rfl (RenK.mB _ (fun _=>rfl)) .nil))) (.cons (.hp rfl) (.cons (ren_isF 9 _ rfl) .nil)) (G:=fun v_=>[some ⟨ver0,6,125,[[eL (cL ZIn.c) v28.1.p,eL cI v28.1.x.From,eL (cL cI) v28.1.x.Order,eL (cL cI) v28.1.number,hS false 1 v_ 1 v28.1.schedule.length,.mp 2 4]]⟩,bE false v_ 1 3 (v28.1.schedule.map cI),(some (mB 3 1 kI3 cB v28.1.failed))]) (G':=fun v_=>[some ⟨ver0,6,125,[[eL (cL ZIn.c) v28.1.p,eL cI v28.1.x.From,eL (cL cI) v28.1.x.Order,eL (cL cI) v28.1.number,hS false 1 v_ 1 v28.1.schedule.length,.mp 2 4]]⟩,bE false v_ 1 3 (v28.1.schedule.map cI),(some (mB 3 1 kI3 cB v28.1.failed)),some ⟨0,3,127,[(Z3i.c (Z3i.set pc s18.2.2.2.2.2.2 ((Z3i.get pc s18.2.2.2.2.2.2)+(1:Int))))]⟩]) 4 rfl (fun v_ => .some (.rowL (.cons (ren_isF 9 _ rfl) (.cons (ren_isF 9 _ rfl) (.cons (ren_isF 9 _ rfl) (.cons (ren_isF 9 _ rfl) (.cons (ren_hSg (.inl rfl)) (.cons (.mp (.inl rfl)) .nil))))))) (.some (RenK.bE' (fun _=>rfl)) (.some (RenK.mB _ (fun _=>rfl)) .nil))) (fun _=>rfl) (r:=Bo v28.2) (ren_isF 9 _ rfl) (fun _=>rfl)) (fun u29 => ?_)
         refine TO.nil ?_
         refine T.ifH rfl h (fun q30 h => ?_) (fun q30 h => ?_)
         ·refine T.sr (oN as' (TO.nil (T.ret ?_)))
          obtain rfl:=osj h
          replace h:=congrArg some (show _=_ from ks22)
          refine lX h fun h => ?_
          obtain rfl:=osj h
          replace h:=congrArg some (show _=_ from ks14)
          obtain rfl:=osj h
          repeat (first|refine retS ?_|refine retB ?_)
          exact ⟨envOf [(4,Bo true)],[some ⟨ver0,6,125,[[eL (cL ZIn.c) v28.1.p,eL cI v28.1.x.From,eL (cL cI) v28.1.x.Order,eL (cL cI) v28.1.number,hS false 1 u29 1 v28.1.schedule.length,.mp 2 4]]⟩,bE false u29 1 3 (v28.1.schedule.map cI),(some (mB 3 1 kI3 cB v28.1.failed))],cutS rfl (.cons (.row (.cons (.fz (.of_isF 9 _ rfl)) (.cons (.fz (.of_isF 9 _ rfl)) (.cons (.fz (.of_isF 9 _ rfl)) (.cons (.fz (.of_isF 9 _ rfl)) (.cons (.hS (g:=false) (b:=1) (ver:=u29) (s:=1) (n:=v28.1.schedule.length) rfl) (.cons (.mp (Nat.le_of_ble_eq_true rfl)) .nil))))))) (.cons (.list (g:=false) (ver:=u29) (l:=v28.1.schedule) (fun _=>rfl)) (.cons (.mp (fun _=>rfl)) .nil))) (stl_cons (.fz (.of_isF 9 _ rfl)) stl_nil),Fin.ret (vs:=[Bo true]) (.cons (.tmp rfl) .nil) ⟨u29,rfl,rfl⟩⟩
         ·refine T.skip (T.drawH (fun i=>[([],false),([],false),([],false),([],false),([0],false),([],false),([],false),([],false),([0],false),([],false),([],false),([1],true),([],false),([],false),([0],true)].getD i ([],false)) (by kernel_rfl) (by kernel_rfl) (fN rfl mv (fN rfl mv (fN rfl (nl rfl) (fN rfl (fa fs125 rfl) (fR [0] rfl (fun G hG=>EvA.loadhp (hS false 1 u29 1 v28.1.schedule.length) ty23 rfl (hG.a0 rfl) rfl rfl rfl rfl) (fN rfl mv (fN rfl (nl rfl) (fN rfl (fa fs125 rfl) (fR [0] rfl (fun G hG=>EvA.loadhp (hS false 1 u29 1 v28.1.schedule.length) ty23 rfl (hG.a0 rfl) rfl rfl rfl rfl) (fN rfl (EvN.lenO (g:=false) sl23 rfl nofun) (jW h fun g31 h=>fN rfl (EvN.sub rfl rfl g31) (jD h fun g32 h=>fW 1 [] rfl rfl (fun G hG=>EvA.cutO (l:=v28.1.schedule) (zl:=(0:Int)) (zh:=((v28.1.schedule.length:Int)-(1:Int))) (EvN.slhs Try.underlying23 ty3 (l:=(0:Int)) (h:=((v28.1.schedule.length:Int)-(1:Int))) rfl .no (.yes rfl) g32) (hG.a0 rfl) rfl g32) ?_)))))))))))))
          refine fN rfl (nl rfl) (fN rfl (fa fs125 rfl) (fV 0 [] rfl rfl (fun G hG=>EvA.st (cs:=[hS false 1 (u29+1) 1 (((v28.1.schedule.drop (0:Int).toNat).take (((v28.1.schedule.length:Int)-(1:Int)).toNat-(0:Int).toNat)).length)]) ⟨ver0,6,125,[[eL (cL ZIn.c) v28.1.p,eL cI v28.1.x.From,eL (cL cI) v28.1.x.Order,eL (cL cI) v28.1.number,hS false 1 (u29+1) 1 (((v28.1.schedule.drop (0:Int).toNat).take (((v28.1.schedule.length:Int)-(1:Int)).toNat-(0:Int).toNat)).length),.mp 2 4]]⟩ ty23 rfl rfl (hG.a0 rfl) rfl rfl rfl rfl rfl rfl) (TF.nil ?_)))
          obtain rfl:=osj h
          exact ⟨(v28.1.p,v28.1.x.From,v28.1.x.Order,v28.1.number,((v28.1.schedule.drop (0:Int).toNat).take (((v28.1.schedule.length:Int)-(1:Int)).toNat-(0:Int).toNat)),v28.1.failed),u29+1,ks22,trivial,cutS rfl (.cons (.row (.cons (.fz (.of_isF 9 _ rfl)) (.cons (.fz (.of_isF 9 _ rfl)) (.cons (.fz (.of_isF 9 _ rfl)) (.cons (.fz (.of_isF 9 _ rfl)) (.cons (.hS (g:=false) (b:=1) (ver:=u29+1) (s:=1) (n:=((v28.1.schedule.drop (0:Int).toNat).take (((v28.1.schedule.length:Int)-(1:Int)).toNat-(0:Int).toNat)).length) rfl) (.cons (.mp (Nat.le_of_ble_eq_true rfl)) .nil))))))) (.cons (.list (g:=false) (ver:=u29+1) (l:=((v28.1.schedule.drop (0:Int).toNat).take (((v28.1.schedule.length:Int)-(1:Int)).toNat-(0:Int).toNat))) (fun _=>rfl)) (.cons (.mp (fun _=>rfl)) .nil))) (stl_cons (.fz (.of_isF 9 _ rfl)) (stl_cons (.fz (.of_isF 9 _ rfl)) (stl_cons (.fz (.of_isF 9 _ rfl)) (stl_cons (.hp (Nat.le_of_ble_eq_true rfl)) stl_nil))))⟩
      ·refine T.exit (lX h fun h => ?_)
       obtain rfl:=osj h
       exact ⟨(s18.1,s18.2.1,s18.2.2.1,s18.2.2.2.1,s18.2.2.2.2.1,s18.2.2.2.2.2.1),u20,ks14,trivial,kw rfl rfl⟩
   ·refine T.sr (oN mv (oN (nl rfl) (oN (fa fs125 rfl) (oA (lh (eL (cL ZIn.c) s.p) ty27 rfl rfl rfl) (oN (EvN.lenL sl27 rfl) (oN mv (TO.nil (T.block ?_))))))))
    refine T.lU h (fun s5=>[(20,I s5.1),(19,I (s.p.length:Int)),(5,Bo s5.2),(3,.fp (Z3i.c pc) 0),(0,.hp 0 ver0 6 0 0)]) (fun s5=>[some ⟨ver0,6,125,[[eL (cL ZIn.c) s.p,eL cI s.x.From,eL (cL cI) s.x.Order,eL (cL cI) s.number,hS false 1 ver1 1 s.schedule.length,.mp 2 4]]⟩,bE false ver1 1 3 (s.schedule.map cI),(some (mB 3 1 kI3 cB s.failed))]) (kw rfl rfl) (fun s5 ws5 h => ?_)
    refine T.sr (oN (EvN.ilt rfl rfl) (TO.nil (T.seq ?_)))
    refine T.ifH rfl h (fun q7 h => ?_) (fun q7 h => ?_)
    ·refine T.skip ?_
     refine T.jU h (fun s8=>[(5,Bo s8),(20,I s5.1),(19,I (s.p.length:Int)),(3,.fp (Z3i.c pc) 0),(0,.hp 0 ver0 6 0 0)]) (fun s8=>[some ⟨ver0,6,125,[[eL (cL ZIn.c) s.p,eL cI s.x.From,eL (cL cI) s.x.Order,eL (cL cI) s.number,hS false 1 ver1 1 s.schedule.length,.mp 2 4]]⟩,bE false ver1 1 3 (s.schedule.map cI),(some (mB 3 1 kI3 cB s.failed))]) (fun s8 h => ?_) (fun s8 h => ?_)
     ·refine T.region (jW h fun g12 h=>oN (EvN.add rfl rfl g12) (oN mv (TO.nil ?_)))
      exact lE h (kw rfl rfl)
     ·refine T.block (T.sr (oN mv (oN as' (TO.nil (T.drawG (fun i=>[([],false),([],false),([],false),([],false),([],false),([],false),([],false),([],false),([0],false),([],false),([],false),([],false),([],false),([],false),([],false),([],false)].getD i ([],false)) (by kernel_rfl) (by kernel_rfl) (tN rfl mv (tN rfl mv ?_)))))))
      rcases bifL h with ⟨q9,h⟩ | ⟨q9,h⟩
      ·refine tgN rfl q9 rfl mv (jD h fun g10 h=>tgN rfl q9 rfl (EvN.ixafp Try.underlying127 ty3 rfl rfl g10) (tgN rfl q9 rfl (lf1 (fun z0=>I (Z3i.get pc z0)) g10 ty3 rfl rfl rfl rfl) (tgN rfl q9 rfl mv (tgN rfl q9 rfl (nl rfl) (tgN rfl q9 rfl (fa fs125 rfl) (tgR rfl q9 [0] rfl (fun G hG=>EvA.loadhp (eL (cL ZIn.c) s.p) ty27 rfl (hG.a0 rfl) rfl rfl rfl rfl) (tgN rfl q9 rfl mv (jD h fun g11 h=>tgN rfl q9 rfl (EvN.ixL sl27 rfl rfl g11 (fun _=>rfl)) (tgN rfl q9 rfl (lf (eL ZIn.c (s.p.getD s5.1.toNat default)) ty57 rfl) (tgN rfl q9 rfl (EvN.lenL sl57 rfl) (tgN rfl q9 rfl (EvN.ieq rfl rfl) (tN rfl (EvN.pickT rfl q9 (Bo ((Z3i.get pc s5.1)==((s.p.getD s5.1.toNat default).length:Int))) rfl) (tN rfl as' ?_)))))))))))))
       refine TG.nil ?_
       obtain rfl:=osj h
       exact ⟨(),trivial,kw rfl rfl⟩
      ·refine tgS rfl q9 (tgS rfl q9 (tgS rfl q9 (tgS rfl q9 (tgS rfl q9 (tgS rfl q9 (tgS rfl q9 (tgS rfl q9 (tgS rfl q9 (tgS rfl q9 (tgS rfl q9 (tgS rfl q9 (tN rfl (EvN.pickF rfl q9 (Bo false) rfl) (tN rfl as' (TG.nil ?_))))))))))))))
       obtain rfl:=osj h
       exact ⟨(),trivial,kw rfl rfl⟩
    ·refine T.exit (lX h fun h => ?_)
     obtain rfl:=osj h
     exact ⟨(),trivial,kw rfl rfl⟩
set_option maxHeartbeats 4000000 in
theorem F_impl_tracer_from_P (s:ZTr) (pc:Z3i) (ver0:Nat) (ver1:Nat) {q:ZTr×Bool} (h:F_impl_tracer_from s pc=some q):BCall Try.prog 115 [.hp 0 ver0 6 0 0,.agg (Z3i.c pc)] [some ⟨ver0,6,125,[[eL (cL ZIn.c) s.p,eL cI s.x.From,eL (cL cI) s.x.Order,eL (cL cI) s.number,hS false 1 ver1 1 s.schedule.length,.mp 2 4]]⟩,bE false ver1 1 3 (s.schedule.map cI),(some (mB 3 1 kI3 cB s.failed))] (OutV (Bo q.2) fun ver=>[some ⟨ver0,6,125,[[eL (cL ZIn.c) q.1.p,eL cI q.1.x.From,eL (cL cI) q.1.x.Order,eL (cL cI) q.1.number,hS false 1 ver 1 q.1.schedule.length,.mp 2 4]]⟩,bE false ver 1 3 (q.1.schedule.map cI),(some (mB 3 1 kI3 cB q.1.failed))]):=by
 obtain ⟨nf,h⟩:=fixC_is h
 exact F_impl_tracer_from_PN nf s pc ver0 ver1 h
theorem F_impl_scheduleOf_OP (p:List (List ZIn)) (x:ZEx) {q:(List Int)×Bool} (h:F_impl_scheduleOf p x=some q):BCall Try.prog 64 [eL (cL ZIn.c) p,.agg (ZEx.c x)] [] (OwnR 1 3 (fun x => .tup [x,Bo q.2]) q.1.length (q.1.map cI) 0 []):=by
 refine BCall.mkO Try.func64 rfl (by kernel_rfl) rfl (by kernel_rfl) (e0:=envOf [(0,eL (cL ZIn.c) p),(1,.agg (ZEx.c x))]) (wkC rfl (wkC rfl wkN)) (ren_t1 rfl) (rowsM (fun _=>rfl)) (T.sr (oN (EvN.bxF (ZEx.c x) rfl rfl rfl) (oN as' (oN as' (TO.nil (T.seq (T.reserve (T.reserve (T.reserve (T.drawF (fun i=>[([],false),([],false),([],false),([],false),([0],true),([1],true),([],false),([2],true),([],false)].getD i ([],false)) (by kernel_rfl) (by kernel_rfl) (fN rfl mv (fN rfl (lf (.agg (ZEx.c x)) ty43 rfl) (fN rfl mv (fC h (fun _=>F_impl_numbers_P _) rfl rfl rfl rfl rfl fun v1 _ h=>fW 0 [] rfl rfl (fun G hG=>EvA.mkOR (c:=cI) 0 ([]:List Int) [] sl23 rfl rfl rfl (fun _=>rfl) (fun _=>rfl) rfl (hG.a0 rfl)) ?_))))))))))))))
 refine fW 1 [] rfl rfl (fun G hG=>EvA.mmkA (kn:=3) kI3 1 (hG.a0 rfl)) (fN rfl (EvN.build [eL (cL ZIn.c) p,eL cI x.From,eL (cL cI) x.Order,eL (cL cI) v1,hS false 0 0 1 (([]:List Int).length),.mp 1 4] Try.underlying125 zs125 fs125 rfl rfl) (fW 2 [] rfl rfl (fun G hG=>EvA.bxA (cs:=[eL (cL ZIn.c) p,eL cI x.From,eL (cL cI) x.Order,eL (cL cI) v1,hS false 0 0 1 (([]:List Int).length),.mp 1 4]) 2 rfl rfl (hG.a0 rfl)) (fN rfl as' (TF.nil (T.seq (T.sr (oN mv (oN (EvN.buildZ Try.underlying127 zs127 ty3) (jB h fun v2 cv2 h => ?_)))))))))
 refine oW rfl rfl rfl (BCall.outAt (F_impl_tracer_from_P (⟨p,(⟨x.From,x.Order⟩:ZEx),v1,([]:List Int),([]:List ((Int×Int×Int)×Bool))⟩:ZTr) (⟨(0:Int),(0:Int),(0:Int)⟩:Z3i) 0 0 cv2) [2,0,1] (by decide) (.cons rfl (.rowL (.cons (ren_isF 9 _ rfl) (.cons (ren_isF 9 _ rfl) (.cons (ren_isF 9 _ rfl) (.cons (ren_isF 9 _ rfl) (.cons (ren_hSg rfl) (.cons (.mp rfl) .nil))))))) (.cons rfl (RenK.bE' (fun _=>rfl)) (.cons rfl (RenK.mB _ (fun _=>rfl)) .nil))) (.cons (.hp rfl) (.cons (ren_isF 9 _ rfl) .nil)) (G:=fun v_=>[some ⟨0,6,125,[[eL (cL ZIn.c) v2.1.p,eL cI v2.1.x.From,eL (cL cI) v2.1.x.Order,eL (cL cI) v2.1.number,hS false 0 v_ 1 v2.1.schedule.length,.mp 1 4]]⟩,bE false v_ 1 3 (v2.1.schedule.map cI),(some (mB 3 1 kI3 cB v2.1.failed))]) (G':=fun v_=>[bE false v_ 1 3 (v2.1.schedule.map cI),(some (mB 3 1 kI3 cB v2.1.failed)),some ⟨0,6,125,[[eL (cL ZIn.c) v2.1.p,eL cI v2.1.x.From,eL (cL cI) v2.1.x.Order,eL (cL cI) v2.1.number,hS false 0 v_ 1 v2.1.schedule.length,.mp 1 4]]⟩]) 3 rfl (fun v_ => .some (.rowL (.cons (ren_isF 9 _ rfl) (.cons (ren_isF 9 _ rfl) (.cons (ren_isF 9 _ rfl) (.cons (ren_isF 9 _ rfl) (.cons (ren_hSg (.inl rfl)) (.cons (.mp (.inl rfl)) .nil))))))) (.some (RenK.bE' (fun _=>rfl)) (.some (RenK.mB _ (fun _=>rfl)) .nil))) (fun _=>rfl) (r:=Bo v2.2) (ren_isF 9 _ rfl) (fun _=>rfl)) (fun u3 => ?_)
 refine oN (EvN.not rfl) (TO.nil ?_)
 refine T.ifH rfl h (fun q4 h => ?_) (fun q4 h => ?_)
 ·refine T.seq (T.clean (H0:=[bE false u3 1 3 (v2.1.schedule.map cI),(some (mB 3 1 kI3 cB v2.1.failed)),some ⟨0,6,125,[[eL (cL ZIn.c) v2.1.p,eL cI v2.1.x.From,eL (cL cI) v2.1.x.Order,eL (cL cI) v2.1.number,hS false 0 u3 1 v2.1.schedule.length,.mp 1 4]]⟩]) (e0:=envOf []) rfl wkN (T.region (oN as' (oN as' (TO.nil (T.ret ?_))))))
  obtain rfl:=osj h
  repeat (first|refine retS ?_|refine retB ?_)
  exact Fin.ret (vs:=[.nil,Bo false]) (.cons (.tmp rfl) (.cons (.tmp rfl) .nil)) ⟨0,true,0,fun _=>rfl,rfl,nofun⟩
 ·refine T.skip (T.seq (T.clean (H0:=[bE false u3 1 3 (v2.1.schedule.map cI),(some (mB 3 1 kI3 cB v2.1.failed)),some ⟨0,6,125,[[eL (cL ZIn.c) v2.1.p,eL cI v2.1.x.From,eL (cL cI) v2.1.x.Order,eL (cL cI) v2.1.number,hS false 0 u3 1 v2.1.schedule.length,.mp 1 4]]⟩]) (e0:=envOf [(6,.hp 2 0 6 0 0)]) rfl (wkC rfl wkN) (T.region (oN mv (oN (nl rfl) (oN (fa fs125 rfl) (oA (lh (hS false 0 u3 1 v2.1.schedule.length) ty23 rfl rfl rfl) (oN (EvN.asg (hS false 0 u3 1 v2.1.schedule.length) rfl) (oN as' (TO.nil (T.ret ?_)))))))))))
  obtain rfl:=osj h
  repeat (first|refine retS ?_|refine retB ?_)
  exact Fin.ret (vs:=[hS false 0 u3 1 v2.1.schedule.length,Bo true]) (.cons (.tmp rfl) (.cons (.tmp rfl) .nil)) ⟨0,false,u3,nofun,rfl,ownB rfl⟩
theorem F_spec_l6Writers_P (events:List ZEv) (loc:Int) {q:(List Int)} (h:F_spec_l6Writers events loc=some q):PCall Try.prog 104 [eL ZEv.c events,I loc] (eL cI q):=by
 refine pM Try.func104 rfl (by kernel_rfl) rfl (T.sr (oN as' (TO.nil (T.sr (oA (EvA.mkO (c:=cI) ([]:List Int) [] sl23 rfl rfl rfl (fun _=>rfl) rfl rfl) (oN (EvN.asg (hS false 0 0 1 (([]:List Int).length)) rfl) (TO.nil ?_)))))))
 refine T.jF (G:=Nat) h (fun s1 gh=>True) (fun s1 gh=>[(5,hS false 0 gh 1 s1.length)]) (fun s1 gh=>[bE false gh 1 3 (s1.map cI)]) (fun s1 u17 h hg => ?_) (fun s1 h => ?_)
 ·refine T.sr (oN mv (oN (EvN.asg (hS false 0 u17 1 s1.length) rfl) (TO.nil (T.ret ?_))))
  obtain rfl:=osj h
  repeat (first|refine retS ?_|refine retB ?_)
  exact Fin.ret (vs:=[hS false 0 u17 1 s1.length]) (.cons (.tmp rfl) .nil) (Fz.own (g:=false) (ver:=u17) (l:=s1) rfl rfl rfl nofun (fun _=>rfl))
 ·refine T.sr (oN as' (TO.nil (T.block ?_)))
  refine T.loop (S:=(List Int)×Int) (G:=Nat) (F_spec_l6Writers_L6 events loc) (fun s5 gh=>True) (fun s5 gh=>[(6,I s5.2),(5,hS false 0 gh 1 s5.1.length),(0,eL ZEv.c events),(1,I loc)]) (fun s5 gh=>[bE false gh 1 3 (s5.1.map cI)]) (s0:=(([]:List Int),(0:Int))) 0 h trivial (kw rfl rfl) (fun s5 u7 ws5 h hg => ?_)
  refine T.seq (T.sr (oN mv (oN mv (oN (EvN.lenL sl98 rfl) (oN (EvN.ilt rfl rfl) (TO.nil ?_))))))
  refine T.ifH rfl h (fun q8 h => ?_) (fun q8 h => ?_)
  ·refine T.skip ?_
   refine T.jF (G:=Nat) h (fun s9 gh=>True) (fun s9 gh=>[(5,hS false 0 gh 1 s9.length),(6,I s5.2),(0,eL ZEv.c events),(1,I loc)]) (fun s9 gh=>[bE false gh 1 3 (s9.map cI)]) (fun s9 u15 h hg => ?_) (fun s9 h => ?_)
   ·refine T.region (oN mv (jW h fun g16 h=>oN (EvN.add rfl rfl g16) (oN as' (TO.nil ?_))))
    obtain rfl:=osj h
    exact ⟨(s9,(s5.2+(1:Int))),u15,rfl,trivial,kw rfl rfl⟩
   ·refine T.block (T.sr (oN mv (oN mv (jD h fun g10 h=>oN (EvN.ixL sl98 rfl rfl g10 (fun _=>rfl)) (oN (fa fs101 rfl) (oN (lf (Bo ((events.getD s5.2.toNat default).Writes)) ty4 rfl) (oN mv ?_)))))))
    refine TO.jB h 8 (fun s11=>[(27,Bo s11),(6,I s5.2),(5,hS false 0 u7 1 s5.1.length),(0,eL ZEv.c events),(1,I loc)]) (fun s11=>[bE false u7 1 3 (s5.1.map cI)]) (fun s11 q12 h js11 => ?_) (fun s11 q12 h js11 => ?_) (fun s11 h => ?_)
    ·refine gN rfl q12 mv (gN rfl q12 mv (gN rfl q12 (EvN.ixL sl98 rfl rfl g10 (fun _=>rfl)) (gN rfl q12 (fa fs101 rfl) (gN rfl q12 (lf (I ((events.getD s5.2.toNat default).Loc)) ty3 rfl) (gN rfl q12 mv (gN rfl q12 (EvN.ieq rfl rfl) (oN (EvN.pickT rfl q12 (Bo (((events.getD s5.2.toNat default).Loc)==loc)) rfl) ?_)))))))
     obtain rfl:=osj h
     exact js11 _ _ (kw rfl rfl)
    ·refine gS rfl q12 (gS rfl q12 (gS rfl q12 (gS rfl q12 (gS rfl q12 (gS rfl q12 (gS rfl q12 (oN (EvN.pickF rfl q12 (Bo false) rfl) ?_)))))))
     obtain rfl:=osj h
     exact js11 _ _ (kw rfl rfl)
    ·refine TO.nil ?_
     refine T.ifH rfl h (fun q13 h => ?_) (fun q13 h => ?_)
     ·refine T.region (oN mv (oN mv (oN (EvN.mkF (c:=cI) ([s5.2]:List Int) [[I s5.2]] sl23 rfl rfl rfl (fun _=>rfl) (fun _=>rfl) rfl) (jL h fun g14 h=>oA (EvA.app1 (g:=false) (l:=s5.1) s5.2 sl23 (by kernel_rfl) rfl rfl rfl nofun (SrcOk.fz (l:=([s5.2]:List Int)) rfl (fun _=>rfl)) g14) (oN (EvN.asg (hS false 0 (u7+1) 1 ((s5.1++[s5.2]).length)) rfl) (TO.nil ?_))))))
      obtain rfl:=osj h
      exact ⟨u7+1,trivial,kw rfl rfl⟩
     ·refine T.skip ?_
      obtain rfl:=osj h
      exact ⟨u7,trivial,kw rfl rfl⟩
  ·refine T.exit (lX h fun h => ?_)
   obtain rfl:=osj h
   exact ⟨u7,trivial,kw rfl rfl⟩
theorem F_spec_l6Place_P (list:List Int) (n:Int) {q:Int} (h:F_spec_l6Place list n=some q):PCall Try.prog 103 [eL cI list,I n] (I q):=by
 refine pM Try.func103 rfl (by kernel_rfl) rfl (T.sr (oN as' (TO.nil ?_)))
 obtain ⟨Ks1,es1,ws1,h,ks1⟩:=sumL h
 refine T.join (S:=Unit) (G:=Unit) (fun s1=>Ks1 s1=some q) (fun s1 gh=>True) (fun s1 gh=>[]) (fun s1 gh=>[]) (fun s1 gh h hg => ?_) ?_
 ·clear ks1
  subst es1
  refine T.sr (oN as' (TO.nil (T.ret ?_)))
  obtain rfl:=osj h
  exact finR rfl rfl rfl
 ·refine T.sr (oN as' (TO.nil (T.block ?_)))
  refine T.lU h (fun s4=>[(5,I s4),(0,eL cI list),(1,I n)]) (fun s4=>[]) (kw rfl rfl) (fun s4 ws4 h => ?_)
  refine T.seq (T.sr (oN mv (oN mv (oN (EvN.lenL sl23 rfl) (oN (EvN.ilt rfl rfl) (TO.nil ?_))))))
  refine T.ifH rfl h (fun q6 h => ?_) (fun q6 h => ?_)
  ·refine T.skip (T.seq (T.block (T.sr (oN mv (oN mv (jD h fun g7 h=>oN (EvN.ixL sl23 rfl rfl g7 (fun _=>rfl)) (oN (lf (I (list.getD s4.toNat default)) ty3 rfl) (oN mv (oN (EvN.ieq rfl rfl) (TO.nil ?_))))))))))
   refine T.ifH rfl h (fun q8 h => ?_) (fun q8 h => ?_)
   ·refine T.sr (oN mv (oN as' (TO.nil (T.ret (lX h fun h => ?_)))))
    obtain rfl:=osj h
    replace h:=congrArg some (show _=_ from ks1)
    obtain rfl:=osj h
    exact finR rfl rfl rfl
   ·refine T.skip (T.region (oN mv (jW h fun g9 h=>oN (EvN.add rfl rfl g9) (oN as' (TO.nil ?_)))))
    exact lE h (kw rfl rfl)
  ·refine T.exit (lX h fun h => ?_)
   obtain rfl:=osj h
   exact ⟨(),(),ks1,trivial,kw rfl rfl⟩
theorem F_spec_l6Order_P (list:List Int) (writers:List Int) {q:Bool} (h:F_spec_l6Order list writers=some q):PCall Try.prog 105 [eL cI list,eL cI writers] (Bo q):=by
 refine pM Try.func105 rfl (by kernel_rfl) rfl (T.sr (oN as' (TO.nil ?_)))
 obtain ⟨Ks1,es1,ws1,h,ks1⟩:=sumL h
 refine T.join (S:=Unit) (G:=Unit) (fun s1=>Ks1 s1=some q) (fun s1 gh=>True) (fun s1 gh=>[(0,eL cI list),(1,eL cI writers)]) (fun s1 gh=>[]) (fun s1 gh h hg => ?_) ?_
 ·clear ks1
  subst es1
  obtain ⟨Ks7,es7,ws7,h,ks7⟩:=sumL h
  refine T.join (S:=Unit) (G:=Unit) (fun s7=>Ks7 s7=some q) (fun s7 gh=>True) (fun s7 gh=>[]) (fun s7 gh=>[]) (fun s7 gh h hg => ?_) ?_
  ·clear ks7
   subst es7
   refine T.sr (oN as' (TO.nil (T.ret ?_)))
   obtain rfl:=osj h
   exact finR rfl rfl rfl
  ·refine T.sr (oN as' (TO.nil (T.block ?_)))
   refine T.lU h (fun s10=>[(5,I s10),(0,eL cI list),(1,eL cI writers)]) (fun s10=>[]) (kw rfl rfl) (fun s10 ws10 h => ?_)
   refine T.seq (T.sr (oN mv (oN mv (oN (EvN.lenL sl23 rfl) (oN (EvN.ilt rfl rfl) (TO.nil ?_))))))
   refine T.ifH rfl h (fun q12 h => ?_) (fun q12 h => ?_)
   ·refine T.skip (T.seq (T.block (T.sr (oN mv (oN mv (oN mv (jD h fun g13 h=>oN (EvN.ixL sl23 rfl rfl g13 (fun _=>rfl)) (oN (lf (I (writers.getD s10.toNat default)) ty3 rfl) (oC h (fun _=>F_spec_l6Place_P _ _) rfl rfl rfl rfl fun v14 _ h=>oN (EvN.ilt rfl rfl) (TO.nil ?_))))))))))
    refine T.ifH rfl h (fun q15 h => ?_) (fun q15 h => ?_)
    ·refine T.sr (oN as' (TO.nil (T.ret (lX h fun h => ?_))))
     obtain rfl:=osj h
     replace h:=congrArg some (show _=_ from ks7)
     obtain rfl:=osj h
     exact finR rfl rfl rfl
    ·refine T.skip (T.region (oN mv (jW h fun g16 h=>oN (EvN.add rfl rfl g16) (oN as' (TO.nil ?_)))))
     exact lE h (kw rfl rfl)
   ·refine T.exit (lX h fun h => ?_)
    obtain rfl:=osj h
    exact ⟨(),(),ks7,trivial,kw rfl rfl⟩
 ·refine T.jU h (fun s2=>[(19,Bo s2),(0,eL cI list),(1,eL cI writers)]) (fun s2=>[]) (fun s2 h => ?_) (fun s2 h => ?_)
  ·refine T.ifH rfl h (fun q6 h => ?_) (fun q6 h => ?_)
   ·refine T.sr (oN as' (TO.nil (T.ret ?_)))
    obtain rfl:=osj h
    replace h:=congrArg some (show _=_ from ks1)
    obtain rfl:=osj h
    exact finR rfl rfl rfl
   ·refine T.skip ?_
    obtain rfl:=osj h
    exact ⟨(),(),ks1,trivial,kw rfl rfl⟩
  ·refine T.drawG (fun _=>([],false)) (by kernel_rfl) (by kernel_rfl) (tN rfl mv (tN rfl (EvN.lenL sl23 rfl) (tN rfl mv (tN rfl (EvN.lenL sl23 rfl) (tN rfl (EvN.ine rfl rfl) (tN rfl mv ?_))))))
   rcases bifL h with ⟨q3,h⟩ | ⟨q3,h⟩
   ·refine tgS rfl q3 (tgS rfl q3 (tgS rfl q3 (tgS rfl q3 (tgS rfl q3 (tgS rfl q3 (tgS rfl q3 (tN rfl (EvN.pickT rfl q3 (Bo true) rfl) (TG.nil ?_))))))))
    obtain rfl:=osj h
    exact ⟨(),trivial,kw rfl rfl⟩
   ·refine tgN rfl q3 rfl mv (jD h fun g4 h=>tgN rfl q3 rfl (EvN.ixL sl23 rfl rfl g4 (fun _=>rfl)) (tgN rfl q3 rfl (lf (I (list.getD (0:Int).toNat default)) ty3 rfl) (tgN rfl q3 rfl mv (jD h fun g5 h=>tgN rfl q3 rfl (EvN.ixL sl23 rfl rfl g5 (fun _=>rfl)) (tgN rfl q3 rfl (lf (I (writers.getD (0:Int).toNat default)) ty3 rfl) (tgN rfl q3 rfl (EvN.ine rfl rfl) (tN rfl (EvN.pickF rfl q3 (Bo ((list.getD (0:Int).toNat default) != (writers.getD (0:Int).toNat default))) rfl) (TG.nil ?_))))))))
    obtain rfl:=osj h
    exact ⟨(),trivial,kw rfl rfl⟩
set_option maxHeartbeats 4000000 in
theorem F_spec_ExecValid_P (p:List (List ZIn)) (x:ZEx) {q:Bool} (h:F_spec_ExecValid p x=some q):PCall Try.prog 59 [eL (cL ZIn.c) p,.agg (ZEx.c x)] (Bo q):=by
 refine pM Try.func59 rfl (by kernel_rfl) rfl (T.sr (oN (EvN.bxF (ZEx.c x) rfl rfl rfl) (oN as' (TO.nil (T.seq (T.sr (oN mv (oC h (fun _=>F_spec_ProgramValid_P _) rfl rfl rfl rfl fun v1 _ h=>oN (EvN.not rfl) (TO.nil ?_)))))))))
 refine T.ifH rfl h (fun q2 h => ?_) (fun q2 h => ?_)
 ·refine T.sr (oN as' (TO.nil (T.ret ?_)))
  obtain rfl:=osj h
  exact finR rfl rfl rfl
 ·refine T.skip (T.sr (oN mv (oC h (fun _=>F_spec_l6Events_P _) rfl rfl rfl rfl fun v3 _ h=>oN as' (TO.nil (T.seq (T.sr (oN (fa fs43 rfl) (oN (lf (eL cI x.From) ty23 rfl) (oN (EvN.lenL sl23 rfl) (oN mv (oN (EvN.lenL sl98 rfl) (oN (EvN.ine rfl rfl) (oN mv ?_)))))))))))))
  refine TO.jB h 5 (fun s4=>[(24,Bo s4),(5,eL ZEv.c v3),(3,.fp (ZEx.c x) 0)]) (fun s4=>[]) (fun s4 q5 h js4 => ?_) (fun s4 q5 h js4 => ?_) (fun s4 h => ?_)
  ·refine gS rfl q5 (gS rfl q5 (gS rfl q5 (gS rfl q5 (oN (EvN.pickT rfl q5 (Bo true) rfl) ?_))))
   obtain rfl:=osj h
   exact js4 _ _ (kw rfl rfl)
  ·refine gN rfl q5 (fa fs43 rfl) (gN rfl q5 (lf (eL (cL cI) x.Order) ty37 rfl) (gN rfl q5 (EvN.lenL sl37 rfl) (gN rfl q5 (EvN.ine rfl rfl) (oN (EvN.pickF rfl q5 (Bo ((x.Order.length:Int) != (3:Int))) rfl) ?_))))
   obtain rfl:=osj h
   exact js4 _ _ (kw rfl rfl)
  ·refine TO.nil ?_
   refine T.ifH rfl h (fun q6 h => ?_) (fun q6 h => ?_)
   ·refine T.sr (oN as' (TO.nil (T.ret ?_)))
    obtain rfl:=osj h
    exact finR rfl rfl rfl
   ·refine T.skip ?_
    obtain ⟨Ks7,es7,ws7,h,ks7⟩:=sumL h
    refine T.join (S:=Unit) (G:=Unit) (fun s7=>Ks7 s7=some q) (fun s7 gh=>True) (fun s7 gh=>[(5,eL ZEv.c v3),(3,.fp (ZEx.c x) 0)]) (fun s7 gh=>[]) (fun s7 gh h hg => ?_) ?_
    ·clear ks7
     subst es7
     obtain ⟨Ks31,es31,ws31,h,ks31⟩:=sumL h
     refine T.join (S:=Unit) (G:=Unit) (fun s31=>Ks31 s31=some q) (fun s31 gh=>True) (fun s31 gh=>[]) (fun s31 gh=>[]) (fun s31 gh h hg => ?_) ?_
     ·clear ks31
      subst es31
      refine T.sr (oN as' (TO.nil (T.ret ?_)))
      obtain rfl:=osj h
      exact finR rfl rfl rfl
     ·refine T.sr (oN as' (TO.nil (T.block ?_)))
      refine T.lU h (fun s34=>[(7,I s34),(5,eL ZEv.c v3),(3,.fp (ZEx.c x) 0)]) (fun s34=>[]) (kw rfl rfl) (fun s34 ws34 h => ?_)
      refine T.seq (T.sr (oN mv (oN (EvN.ile rfl rfl) (TO.nil ?_))))
      refine T.ifH rfl h (fun q36 h => ?_) (fun q36 h => ?_)
      ·refine T.skip (T.seq (T.block (T.seq (T.drawF (fun _=>([],false)) (by kernel_rfl) (by kernel_rfl) (fN rfl (fa fs43 rfl) (fN rfl (lf (eL (cL cI) x.Order) ty37 rfl) (fN rfl mv (jD h fun g37 h=>fN rfl (EvN.ixL sl37 rfl rfl g37 (fun _=>rfl)) (fN rfl (lf (eL cI (x.Order.getD s34.toNat default)) ty23 rfl) (fN rfl mv (fN rfl mv (fC h (fun _=>F_spec_l6Writers_P _ _) rfl rfl rfl rfl rfl fun v38 _ h=>fC h (fun _=>F_spec_l6Order_P _ _) rfl rfl rfl rfl rfl fun v39 _ h=>fN rfl (EvN.not rfl) ?_))))))))))))
       refine TF.nil ?_
       refine T.ifH rfl h (fun q40 h => ?_) (fun q40 h => ?_)
       ·refine T.sr (oN as' (TO.nil (T.ret (lX h fun h => ?_))))
        obtain rfl:=osj h
        replace h:=congrArg some (show _=_ from ks31)
        obtain rfl:=osj h
        exact finR rfl rfl rfl
       ·refine T.skip (T.region (oN mv (jW h fun g41 h=>oN (EvN.add rfl rfl g41) (oN as' (TO.nil ?_)))))
        exact lE h (kw rfl rfl)
      ·refine T.exit (lX h fun h => ?_)
       obtain rfl:=osj h
       exact ⟨(),(),ks31,trivial,kw rfl rfl⟩
    ·refine T.sr (oN as' (TO.nil (T.block ?_)))
     refine T.lU h (fun s10=>[(6,I s10),(5,eL ZEv.c v3),(3,.fp (ZEx.c x) 0)]) (fun s10=>[]) (kw rfl rfl) (fun s10 ws10 h => ?_)
     refine T.seq (T.sr (oN mv (oN mv (oN (EvN.lenL sl98 rfl) (oN (EvN.ilt rfl rfl) (TO.nil ?_))))))
     refine T.ifH rfl h (fun q12 h => ?_) (fun q12 h => ?_)
     ·refine T.skip ?_
      obtain ⟨Ks13,es13,ws13,h,ks13⟩:=sumL h
      refine T.join (S:=Unit) (G:=Unit) (fun s13=>Ks13 s13=some ws10) (fun s13 gh=>True) (fun s13 gh=>[(6,I s10),(5,eL ZEv.c v3),(3,.fp (ZEx.c x) 0)]) (fun s13 gh=>[]) (fun s13 gh h hg => ?_) ?_
      ·clear ks13
       subst es13
       refine T.region (oN mv (jW h fun g30 h=>oN (EvN.add rfl rfl g30) (oN as' (TO.nil ?_))))
       exact lE h (kw rfl rfl)
      ·refine T.block ?_
       obtain ⟨Ks14,es14,ws14,h,ks14⟩:=sumL h
       refine T.join (S:=Unit) (G:=Unit) (fun s14=>Ks14 s14=some ws13) (fun s14 gh=>True) (fun s14 gh=>[(6,I s10),(5,eL ZEv.c v3),(3,.fp (ZEx.c x) 0)]) (fun s14 gh=>[]) (fun s14 gh h hg => ?_) ?_
       ·clear ks14
        subst es14
        refine T.sr (oN mv (oN mv (jD h fun g22 h=>oN (EvN.ixL sl98 rfl rfl g22 (fun _=>rfl)) (oN (fa fs101 rfl) (oN (lf (Bo ((v3.getD s10.toNat default).Reads)) ty4 rfl) (oN (EvN.not rfl) (oN mv ?_)))))))
        refine TO.jB h 7 (fun s23=>[(65,Bo s23),(6,I s10),(5,eL ZEv.c v3),(3,.fp (ZEx.c x) 0)]) (fun s23=>[]) (fun s23 q24 h js23 => ?_) (fun s23 q24 h js23 => ?_) (fun s23 h => ?_)
        ·refine gN rfl q24 (fa fs43 rfl) (gN rfl q24 (lf (eL cI x.From) ty23 rfl) (gN rfl q24 mv (jD h fun g25 h=>gN rfl q24 (EvN.ixL sl23 rfl rfl g25 (fun _=>rfl)) (gN rfl q24 (lf (I (x.From.getD s10.toNat default)) ty3 rfl) (gN rfl q24 (EvN.ine rfl rfl) (oN (EvN.pickT rfl q24 (Bo ((x.From.getD s10.toNat default) != (-1:Int))) rfl) ?_))))))
         obtain rfl:=osj h
         exact js23 _ _ (kw rfl rfl)
        ·refine gS rfl q24 (gS rfl q24 (gS rfl q24 (gS rfl q24 (gS rfl q24 (gS rfl q24 (oN (EvN.pickF rfl q24 (Bo false) rfl) ?_))))))
         obtain rfl:=osj h
         exact js23 _ _ (kw rfl rfl)
        ·refine oN mv ?_
         refine TO.jB h 8 (fun s26=>[(74,Bo s26),(6,I s10),(5,eL ZEv.c v3),(3,.fp (ZEx.c x) 0)]) (fun s26=>[]) (fun s26 q27 h js26 => ?_) (fun s26 q27 h js26 => ?_) (fun s26 h => ?_)
         ·refine gS rfl q27 (gS rfl q27 (gS rfl q27 (gS rfl q27 (gS rfl q27 (gS rfl q27 (gS rfl q27 (oN (EvN.pickT rfl q27 (Bo true) rfl) ?_)))))))
          obtain rfl:=osj h
          exact js26 _ _ (kw rfl rfl)
         ·refine gN rfl q27 (fa fs43 rfl) (gN rfl q27 (lf (eL cI x.From) ty23 rfl) (gN rfl q27 mv (jD h fun g28 h=>gN rfl q27 (EvN.ixL sl23 rfl rfl g28 (fun _=>rfl)) (gN rfl q27 (lf (I (x.From.getD s10.toNat default)) ty3 rfl) (gN rfl q27 mv (gN rfl q27 (EvN.ieq rfl rfl) (oN (EvN.pickF rfl q27 (Bo ((x.From.getD s10.toNat default)==s10)) rfl) ?_)))))))
          obtain rfl:=osj h
          exact js26 _ _ (kw rfl rfl)
         ·refine TO.nil ?_
          refine T.ifH rfl h (fun q29 h => ?_) (fun q29 h => ?_)
          ·refine T.sr (oN as' (TO.nil (T.ret ?_)))
           obtain rfl:=osj h
           replace h:=congrArg some (show _=_ from ks13)
           refine lX h fun h => ?_
           obtain rfl:=osj h
           replace h:=congrArg some (show _=_ from ks7)
           obtain rfl:=osj h
           exact finR rfl rfl rfl
          ·refine T.skip ?_
           obtain rfl:=osj h
           exact ⟨(),(),ks13,trivial,kw rfl rfl⟩
       ·refine T.jU h (fun s15=>[(51,Bo s15),(6,I s10),(5,eL ZEv.c v3),(3,.fp (ZEx.c x) 0)]) (fun s15=>[]) (fun s15 h => ?_) (fun s15 h => ?_)
        ·refine T.ifH rfl h (fun q21 h => ?_) (fun q21 h => ?_)
         ·refine T.sr (oN as' (TO.nil (T.ret ?_)))
          obtain rfl:=osj h
          replace h:=congrArg some (show _=_ from ks14)
          obtain rfl:=osj h
          replace h:=congrArg some (show _=_ from ks13)
          refine lX h fun h => ?_
          obtain rfl:=osj h
          replace h:=congrArg some (show _=_ from ks7)
          obtain rfl:=osj h
          exact finR rfl rfl rfl
         ·refine T.skip ?_
          obtain rfl:=osj h
          exact ⟨(),(),ks14,trivial,kw rfl rfl⟩
        ·refine T.drawG (fun _=>([],false)) (by kernel_rfl) (by kernel_rfl) (tN rfl mv (tN rfl mv (jD h fun g16 h=>tN rfl (EvN.ixL sl98 rfl rfl g16 (fun _=>rfl)) (tN rfl (fa fs101 rfl) (tN rfl (lf (Bo ((v3.getD s10.toNat default).Reads)) ty4 rfl) (tN rfl mv ?_))))))
         rcases bifL h with ⟨q17,h⟩ | ⟨q17,h⟩
         ·refine tgN rfl q17 rfl mv (tgN rfl q17 rfl mv (tgN rfl q17 rfl mv (tgN rfl q17 rfl (EvN.ixL sl98 rfl rfl g16 (fun _=>rfl)) (tgN rfl q17 rfl (fa fs101 rfl) (tgN rfl q17 rfl (lf (I ((v3.getD s10.toNat default).Loc)) ty3 rfl) (jB h fun v18 cv18 h=>tgN rfl q17 rfl (EvN.call rfl rfl rfl (F_spec_l6Writers_P v3 ((v3.getD s10.toNat default).Loc) cv18) rfl) (tgN rfl q17 rfl (fa fs43 rfl) (tgN rfl q17 rfl (lf (eL cI x.From) ty23 rfl) (tgN rfl q17 rfl mv (jD h fun g19 h=>tgN rfl q17 rfl (EvN.ixL sl23 rfl rfl g19 (fun _=>rfl)) (tgN rfl q17 rfl (lf (I (x.From.getD s10.toNat default)) ty3 rfl) (jB h fun v20 cv20 h=>tgN rfl q17 rfl (EvN.call rfl rfl rfl (F_spec_l6Place_P v18 (x.From.getD s10.toNat default) cv20) rfl) ?_))))))))))))
          refine tgN rfl q17 rfl (EvN.ilt rfl rfl) (tN rfl (EvN.pickT rfl q17 (Bo (decide (v20<(0:Int)))) rfl) (TG.nil ?_))
          obtain rfl:=osj h
          exact ⟨(),trivial,kw rfl rfl⟩
         ·refine tgS rfl q17 (tgS rfl q17 (tgS rfl q17 (tgS rfl q17 (tgS rfl q17 (tgS rfl q17 (tgS rfl q17 (tgS rfl q17 (tgS rfl q17 (tgS rfl q17 (tgS rfl q17 (tgS rfl q17 (tgS rfl q17 (tgS rfl q17 (tN rfl (EvN.pickF rfl q17 (Bo false) rfl) (TG.nil ?_)))))))))))))))
          obtain rfl:=osj h
          exact ⟨(),trivial,kw rfl rfl⟩
     ·refine T.exit (lX h fun h => ?_)
      obtain rfl:=osj h
      exact ⟨(),(),ks7,trivial,kw rfl rfl⟩
theorem F_spec_l6Before_P (x:ZEx) (loc:Int) (i:Int) (k_:Int) {q:Bool} (h:F_spec_l6Before x loc i k_=some q):PCall Try.prog 165 [.agg (ZEx.c x),I loc,I i,I k_] (Bo q):=by
 refine pM Try.func165 rfl (by kernel_rfl) rfl (T.sr (oN (EvN.bxF (ZEx.c x) rfl rfl rfl) (oN as' (TO.nil (T.seq (T.drawF (fun _=>([],false)) (by kernel_rfl) (by kernel_rfl) (fN rfl (fa fs43 rfl) (fN rfl (lf (eL (cL cI) x.Order) ty37 rfl) (fN rfl mv (jD h fun g1 h=>fN rfl (EvN.ixL sl37 rfl rfl g1 (fun _=>rfl)) (fN rfl (lf (eL cI (x.Order.getD loc.toNat default)) ty23 rfl) (fN rfl mv (fC h (fun _=>F_spec_l6Place_P _ _) rfl rfl rfl rfl rfl fun v2 _ h=>fN rfl (fa fs43 rfl) ?_)))))))))))))
 refine fN rfl (lf (eL (cL cI) x.Order) ty37 rfl) (fN rfl mv (fN rfl (EvN.ixL sl37 rfl rfl g1 (fun _=>rfl)) (fN rfl (lf (eL cI (x.Order.getD loc.toNat default)) ty23 rfl) (fN rfl mv (fC h (fun _=>F_spec_l6Place_P _ _) rfl rfl rfl rfl rfl fun v3 _ h=>fN rfl (EvN.ilt rfl rfl) (fN rfl as' (TF.nil (T.ret ?_))))))))
 obtain rfl:=osj h
 exact finR rfl rfl rfl
theorem F_spec_l6Fence_P (list:List ZIn) (from_:Int) (to:Int) {q:Bool} (h:F_spec_l6Fence list from_ to=some q):PCall Try.prog 166 [eL ZIn.c list,I from_,I to] (Bo q):=by
 refine pM Try.func166 rfl (by kernel_rfl) rfl (T.sr (oN as' (TO.nil ?_)))
 obtain ⟨Ks1,es1,ws1,h,ks1⟩:=sumL h
 refine T.join (S:=Unit) (G:=Unit) (fun s1=>Ks1 s1=some q) (fun s1 gh=>True) (fun s1 gh=>[]) (fun s1 gh=>[]) (fun s1 gh h hg => ?_) ?_
 ·clear ks1
  subst es1
  refine T.sr (oN as' (TO.nil (T.ret ?_)))
  obtain rfl:=osj h
  exact finR rfl rfl rfl
 ·refine T.sr (oN mv (jW h fun g2 h=>oN (EvN.add rfl rfl g2) (oN as' (TO.nil (T.block ?_)))))
  refine T.lU h (fun s5=>[(7,I s5),(0,eL ZIn.c list),(2,I to)]) (fun s5=>[]) (kw rfl rfl) (fun s5 ws5 h => ?_)
  refine T.seq (T.sr (oN mv (oN mv (oN (EvN.ilt rfl rfl) (TO.nil ?_)))))
  refine T.ifH rfl h (fun q7 h => ?_) (fun q7 h => ?_)
  ·refine T.skip (T.seq (T.block (T.sr (oN mv (oN mv (jD h fun g8 h=>oN (EvN.ixL sl57 rfl rfl g8 (fun _=>rfl)) (oN (fa fs56 rfl) (oN (lf (I ((list.getD s5.toNat default).Op)) ty3 rfl) (oN (EvN.ieq rfl rfl) (TO.nil ?_))))))))))
   refine T.ifH rfl h (fun q9 h => ?_) (fun q9 h => ?_)
   ·refine T.sr (oN as' (TO.nil (T.ret (lX h fun h => ?_))))
    obtain rfl:=osj h
    replace h:=congrArg some (show _=_ from ks1)
    obtain rfl:=osj h
    exact finR rfl rfl rfl
   ·refine T.skip (T.region (oN mv (jW h fun g10 h=>oN (EvN.add rfl rfl g10) (oN as' (TO.nil ?_)))))
    exact lE h (kw rfl rfl)
  ·refine T.exit (lX h fun h => ?_)
   obtain rfl:=osj h
   exact ⟨(),(),ks1,trivial,kw rfl rfl⟩
set_option maxHeartbeats 4000000 in
theorem F_spec_l6Pair_P (p:List (List ZIn)) (x:ZEx) (events:List ZEv) (name:ByteArray) (i:Int) (k_:Int) {q:Bool} (h:F_spec_l6Pair p x events name i k_=some q):PCall Try.prog 147 [eL (cL ZIn.c) p,.agg (ZEx.c x),eL ZEv.c events,St name,I i,I k_] (Bo q):=by
 refine pM Try.func147 rfl (by kernel_rfl) rfl (T.sr (oN (EvN.bxF (ZEx.c x) rfl rfl rfl) (oN as' (TO.nil (T.sr (oN mv (oN mv (jD h fun g1 h=>oN (EvN.ixL sl98 rfl rfl g1 (fun _=>rfl)) (oN (lf (.agg (ZEv.c (events.getD i.toNat default))) ty101 rfl) (oA (EvA.al zs101 rfl rfl) (oV (sr (ZEv.c (events.getD i.toNat default)) ty101 rfl rfl rfl rfl) (TO.nil (T.sr (oN mv ?_))))))))))))))
 refine oN mv (jD h fun g2 h=>oN (EvN.ixL sl98 rfl rfl g2 (fun _=>rfl)) (oN (lf (.agg (ZEv.c (events.getD k_.toNat default))) ty101 rfl) (oA (EvA.al zs101 rfl rfl) (oV (sr (ZEv.c (events.getD k_.toNat default)) ty101 rfl rfl rfl rfl) (TO.nil (T.sr (oN (fa fs101 rfl) (oA (lh (I ((events.getD i.toNat default).Thread)) ty3 rfl rfl rfl) (oN (fa fs101 rfl) (oA (lh (I ((events.getD k_.toNat default).Thread)) ty3 rfl rfl rfl) (oN (EvN.ieq rfl rfl) (oN mv ?_))))))))))))
 refine TO.jB h 4 (fun s3=>[(33,Bo s3),(14,.hp 1 0 5 0 0),(13,.hp 0 0 5 0 0),(7,.fp (ZEx.c x) 0),(0,eL (cL ZIn.c) p),(3,St name),(4,I i),(5,I k_)]) (fun s3=>[some ⟨0,5,101,[(ZEv.c (events.getD i.toNat default))]⟩,some ⟨0,5,101,[(ZEv.c (events.getD k_.toNat default))]⟩]) (fun s3 q4 h js3 => ?_) (fun s3 q4 h js3 => ?_) (fun s3 h => ?_)
 ·refine gN rfl q4 (fa fs101 rfl) (gA rfl q4 (lh (I ((events.getD i.toNat default).Thread)) ty3 rfl rfl rfl) (gN rfl q4 (EvN.ige rfl rfl) (oN (EvN.pickT rfl q4 (Bo (decide ((0:Int)<=((events.getD i.toNat default).Thread)))) rfl) ?_)))
  obtain rfl:=osj h
  exact js3 _ _ (kw rfl rfl)
 ·refine gS rfl q4 (gS rfl q4 (gS rfl q4 (oN (EvN.pickF rfl q4 (Bo false) rfl) ?_)))
  obtain rfl:=osj h
  exact js3 _ _ (kw rfl rfl)
 ·refine oN as' (TO.nil ?_)
  obtain ⟨Ks5,es5,ws5,h,ks5⟩:=sumL h
  refine T.join (S:=Unit) (G:=Unit) (fun s5=>Ks5 s5=some q) (fun s5 gh=>True) (fun s5 gh=>[(3,St name),(4,I i),(5,I k_)]) (fun s5 gh=>[some ⟨0,5,101,[(ZEv.c (events.getD i.toNat default))]⟩,some ⟨0,5,101,[(ZEv.c (events.getD k_.toNat default))]⟩]) (fun s5 gh h hg => ?_) ?_
  ·clear ks5
   subst es5
   refine T.sr (oN mv (oN (EvN.seq rfl rfl) (oN mv ?_)))
   refine TO.jB h 4 (fun s51=>[(188,Bo s51)]) (fun s51=>[some ⟨0,5,101,[(ZEv.c (events.getD i.toNat default))]⟩,some ⟨0,5,101,[(ZEv.c (events.getD k_.toNat default))]⟩]) (fun s51 q52 h js51 => ?_) (fun s51 q52 h js51 => ?_) (fun s51 h => ?_)
   ·refine gN rfl q52 mv (gN rfl q52 mv (gN rfl q52 (EvN.ieq rfl rfl) (oN (EvN.pickT rfl q52 (Bo (i==k_)) rfl) ?_)))
    obtain rfl:=osj h
    exact js51 _ _ (kw rfl rfl)
   ·refine gS rfl q52 (gS rfl q52 (gS rfl q52 (oN (EvN.pickF rfl q52 (Bo false) rfl) ?_)))
    obtain rfl:=osj h
    exact js51 _ _ (kw rfl rfl)
   ·refine oN as' (TO.nil (T.ret ?_))
    obtain rfl:=osj h
    exact finR rfl rfl rfl
  ·refine T.sr (oN mv (TO.nil (T.block (T.sr (oN (EvN.seq rfl rfl) (oN as' (TO.nil ?_)))))))
   refine T.ifH rfl h (fun q6 h => ?_) (fun q6 h => ?_)
   ·refine T.sr (oN mv (oN mv ?_))
    refine TO.jB h 6 (fun s7=>[(44,Bo s7)]) (fun s7=>[some ⟨0,5,101,[(ZEv.c (events.getD i.toNat default))]⟩,some ⟨0,5,101,[(ZEv.c (events.getD k_.toNat default))]⟩]) (fun s7 q8 h js7 => ?_) (fun s7 q8 h js7 => ?_) (fun s7 h => ?_)
    ·refine gN rfl q8 (fa fs101 rfl) (gA rfl q8 (lh (I ((events.getD i.toNat default).Index)) ty3 rfl rfl rfl) (gN rfl q8 (fa fs101 rfl) (gA rfl q8 (lh (I ((events.getD k_.toNat default).Index)) ty3 rfl rfl rfl) (gN rfl q8 (EvN.ilt rfl rfl) (oN (EvN.pickT rfl q8 (Bo (decide (((events.getD i.toNat default).Index)<((events.getD k_.toNat default).Index)))) rfl) ?_)))))
     obtain rfl:=osj h
     exact js7 _ _ (kw rfl rfl)
    ·refine gS rfl q8 (gS rfl q8 (gS rfl q8 (gS rfl q8 (gS rfl q8 (oN (EvN.pickF rfl q8 (Bo false) rfl) ?_)))))
     obtain rfl:=osj h
     exact js7 _ _ (kw rfl rfl)
    ·refine oN as' (TO.nil (T.ret ?_))
     obtain rfl:=osj h
     replace h:=congrArg some (show _=_ from ks5)
     obtain rfl:=osj h
     exact finR rfl rfl rfl
   ·refine T.sr (oN (EvN.seq rfl rfl) (oN as' (TO.nil ?_)))
    refine T.ifH rfl h (fun q9 h => ?_) (fun q9 h => ?_)
    ·refine T.sr (oN (fa fs101 rfl) (oA (lh (I ((events.getD i.toNat default).Loc)) ty3 rfl rfl rfl) (oN (fa fs101 rfl) (oA (lh (I ((events.getD k_.toNat default).Loc)) ty3 rfl rfl rfl) (oN (EvN.ieq rfl rfl) (oN as' (TO.nil (T.ret ?_))))))))
     obtain rfl:=osj h
     replace h:=congrArg some (show _=_ from ks5)
     obtain rfl:=osj h
     exact finR rfl rfl rfl
    ·refine T.sr (oN (EvN.seq rfl rfl) (oN as' (TO.nil ?_)))
     refine T.ifH rfl h (fun q10 h => ?_) (fun q10 h => ?_)
     ·refine T.sr (oN mv (oN (EvN.not rfl) (oN as' (TO.nil (T.ret ?_)))))
      obtain rfl:=osj h
      replace h:=congrArg some (show _=_ from ks5)
      obtain rfl:=osj h
      exact finR rfl rfl rfl
     ·refine T.sr (oN (EvN.seq rfl rfl) (oN as' (TO.nil ?_)))
      refine T.ifH rfl h (fun q11 h => ?_) (fun q11 h => ?_)
      ·refine T.sr (oN (fa fs101 rfl) (oA (lh (Bo ((events.getD k_.toNat default).Reads)) ty4 rfl rfl rfl) (oN mv ?_)))
       refine TO.jB h 8 (fun s12=>[(68,Bo s12)]) (fun s12=>[some ⟨0,5,101,[(ZEv.c (events.getD i.toNat default))]⟩,some ⟨0,5,101,[(ZEv.c (events.getD k_.toNat default))]⟩]) (fun s12 q13 h js12 => ?_) (fun s12 q13 h js12 => ?_) (fun s12 h => ?_)
       ·refine gN rfl q13 (fa fs43 rfl) (gN rfl q13 (lf (eL cI x.From) ty23 rfl) (gN rfl q13 mv (jD h fun g14 h=>gN rfl q13 (EvN.ixL sl23 rfl rfl g14 (fun _=>rfl)) (gN rfl q13 (lf (I (x.From.getD k_.toNat default)) ty3 rfl) (gN rfl q13 mv (gN rfl q13 (EvN.ieq rfl rfl) (oN (EvN.pickT rfl q13 (Bo ((x.From.getD k_.toNat default)==i)) rfl) ?_)))))))
        obtain rfl:=osj h
        exact js12 _ _ (kw rfl rfl)
       ·refine gS rfl q13 (gS rfl q13 (gS rfl q13 (gS rfl q13 (gS rfl q13 (gS rfl q13 (gS rfl q13 (oN (EvN.pickF rfl q13 (Bo false) rfl) ?_)))))))
        obtain rfl:=osj h
        exact js12 _ _ (kw rfl rfl)
       ·refine oN as' (TO.nil (T.ret ?_))
        obtain rfl:=osj h
        replace h:=congrArg some (show _=_ from ks5)
        obtain rfl:=osj h
        exact finR rfl rfl rfl
      ·refine T.sr (oN (EvN.seq rfl rfl) (oN as' (TO.nil ?_)))
       refine T.ifH rfl h (fun q15 h => ?_) (fun q15 h => ?_)
       ·refine T.sr (oN (fa fs101 rfl) (oA (lh (Bo ((events.getD i.toNat default).Writes)) ty4 rfl rfl rfl) (oN mv ?_)))
        refine TO.jB h 3 (fun s16=>[(76,Bo s16),(14,.hp 1 0 5 0 0),(13,.hp 0 0 5 0 0),(7,.fp (ZEx.c x) 0),(4,I i),(5,I k_)]) (fun s16=>[some ⟨0,5,101,[(ZEv.c (events.getD i.toNat default))]⟩,some ⟨0,5,101,[(ZEv.c (events.getD k_.toNat default))]⟩]) (fun s16 q17 h js16 => ?_) (fun s16 q17 h js16 => ?_) (fun s16 h => ?_)
        ·refine gN rfl q17 (fa fs101 rfl) (gA rfl q17 (lh (Bo ((events.getD k_.toNat default).Writes)) ty4 rfl rfl rfl) (oN (EvN.pickT rfl q17 (Bo ((events.getD k_.toNat default).Writes)) rfl) ?_))
         obtain rfl:=osj h
         exact js16 _ _ (kw rfl rfl)
        ·refine gS rfl q17 (gS rfl q17 (oN (EvN.pickF rfl q17 (Bo false) rfl) ?_))
         obtain rfl:=osj h
         exact js16 _ _ (kw rfl rfl)
        ·refine oN mv ?_
         refine TO.jB h 6 (fun s18=>[(83,Bo s18),(13,.hp 0 0 5 0 0),(7,.fp (ZEx.c x) 0),(4,I i),(5,I k_)]) (fun s18=>[some ⟨0,5,101,[(ZEv.c (events.getD i.toNat default))]⟩,some ⟨0,5,101,[(ZEv.c (events.getD k_.toNat default))]⟩]) (fun s18 q19 h js18 => ?_) (fun s18 q19 h js18 => ?_) (fun s18 h => ?_)
         ·refine gN rfl q19 (fa fs101 rfl) (gA rfl q19 (lh (I ((events.getD i.toNat default).Loc)) ty3 rfl rfl rfl) (gN rfl q19 (fa fs101 rfl) (gA rfl q19 (lh (I ((events.getD k_.toNat default).Loc)) ty3 rfl rfl rfl) (gN rfl q19 (EvN.ieq rfl rfl) (oN (EvN.pickT rfl q19 (Bo (((events.getD i.toNat default).Loc)==((events.getD k_.toNat default).Loc))) rfl) ?_)))))
          obtain rfl:=osj h
          exact js18 _ _ (kw rfl rfl)
         ·refine gS rfl q19 (gS rfl q19 (gS rfl q19 (gS rfl q19 (gS rfl q19 (oN (EvN.pickF rfl q19 (Bo false) rfl) ?_)))))
          obtain rfl:=osj h
          exact js18 _ _ (kw rfl rfl)
         ·refine oN mv ?_
          refine TO.jB h 7 (fun s20=>[(91,Bo s20)]) (fun s20=>[some ⟨0,5,101,[(ZEv.c (events.getD i.toNat default))]⟩,some ⟨0,5,101,[(ZEv.c (events.getD k_.toNat default))]⟩]) (fun s20 q21 h js20 => ?_) (fun s20 q21 h js20 => ?_) (fun s20 h => ?_)
          ·refine gN rfl q21 (lf (.agg (ZEx.c x)) ty43 rfl) (gN rfl q21 (fa fs101 rfl) (gA rfl q21 (lh (I ((events.getD i.toNat default).Loc)) ty3 rfl rfl rfl) (gN rfl q21 mv (gN rfl q21 mv (jB h fun v22 cv22 h=>gN rfl q21 (EvN.call rfl rfl rfl (F_spec_l6Before_P x ((events.getD i.toNat default).Loc) i k_ cv22) rfl) (oN (EvN.pickT rfl q21 (Bo v22) rfl) ?_))))))
           obtain rfl:=osj h
           exact js20 _ _ (kw rfl rfl)
          ·refine gS rfl q21 (gS rfl q21 (gS rfl q21 (gS rfl q21 (gS rfl q21 (gS rfl q21 (oN (EvN.pickF rfl q21 (Bo false) rfl) ?_))))))
           obtain rfl:=osj h
           exact js20 _ _ (kw rfl rfl)
          ·refine oN as' (TO.nil (T.ret ?_))
           obtain rfl:=osj h
           replace h:=congrArg some (show _=_ from ks5)
           obtain rfl:=osj h
           exact finR rfl rfl rfl
       ·refine T.sr (oN (EvN.seq rfl rfl) (oN as' (TO.nil ?_)))
        refine T.ifH rfl h (fun q23 h => ?_) (fun q23 h => ?_)
        ·refine T.jU h (fun s24=>[(12,Bo s24)]) (fun s24=>[some ⟨0,5,101,[(ZEv.c (events.getD i.toNat default))]⟩,some ⟨0,5,101,[(ZEv.c (events.getD k_.toNat default))]⟩]) (fun s24 h => ?_) (fun s24 h => ?_)
         ·refine T.ret ?_
          obtain rfl:=osj h
          replace h:=congrArg some (show _=_ from ks5)
          obtain rfl:=osj h
          exact finR rfl rfl rfl
         ·refine T.clean (H0:=[some ⟨0,5,101,[(ZEv.c (events.getD i.toNat default))]⟩,some ⟨0,5,101,[(ZEv.c (events.getD k_.toNat default))]⟩]) (e0:=envOf [(14,.hp 1 0 5 0 0),(13,.hp 0 0 5 0 0),(7,.fp (ZEx.c x) 0),(4,I i),(5,I k_)]) rfl (wkC rfl (wkC rfl (wkC rfl (wkC rfl (wkC rfl wkN))))) (T.drawG (fun i=>[([],false),([0],false),([],false),([],false),([1],false),([],false),([],false),([],false),([0],false),([],false),([1],false),([],false),([],false),([],false),([],false),([],false),([],false),([],false),([],false),([],false),([],false),([0],false),([],false),([],false),([],false),([],false),([],false),([],false),([],false),([],false),([],false)].getD i ([],false)) (by kernel_rfl) (by kernel_rfl) (tN rfl (fa fs101 rfl) (tR [0] rfl (fun G hG=>EvA.loadhp (Bo ((events.getD i.toNat default).Reads)) ty4 rfl (hG.a0 rfl) rfl rfl rfl rfl) (tN rfl mv ?_))))
          rcases bifL h with ⟨q25,h⟩ | ⟨q25,h⟩
          ·refine tgN rfl q25 rfl (fa fs101 rfl) (tgR rfl q25 [1] rfl (fun G hG=>EvA.loadhp (Bo ((events.getD k_.toNat default).Writes)) ty4 rfl (hG.a0 rfl) rfl rfl rfl rfl) (tN rfl (EvN.pickT rfl q25 (Bo ((events.getD k_.toNat default).Writes)) rfl) (tN rfl mv ?_)))
           rcases bifL h with ⟨q26,h⟩ | ⟨q26,h⟩
           ·refine tgN rfl q26 rfl (fa fs101 rfl) (tgR rfl q26 [0] rfl (fun G hG=>EvA.loadhp (I ((events.getD i.toNat default).Loc)) ty3 rfl (hG.a0 rfl) rfl rfl rfl rfl) (tgN rfl q26 rfl (fa fs101 rfl) (tgR rfl q26 [1] rfl (fun G hG=>EvA.loadhp (I ((events.getD k_.toNat default).Loc)) ty3 rfl (hG.a0 rfl) rfl rfl rfl rfl) (tgN rfl q26 rfl (EvN.ieq rfl rfl) (tN rfl (EvN.pickT rfl q26 (Bo (((events.getD i.toNat default).Loc)==((events.getD k_.toNat default).Loc))) rfl) (tN rfl mv ?_))))))
            rcases bifL h with ⟨q27,h⟩ | ⟨q27,h⟩
            ·refine tgN rfl q27 rfl mv (tgN rfl q27 rfl mv (tgN rfl q27 rfl (EvN.ine rfl rfl) (tN rfl (EvN.pickT rfl q27 (Bo (i != k_)) rfl) (tN rfl mv ?_))))
             rcases bifL h with ⟨q28,h⟩ | ⟨q28,h⟩
             ·refine tgN rfl q28 rfl (lf (.agg (ZEx.c x)) ty43 rfl) (tgN rfl q28 rfl (fa fs101 rfl) (tgR rfl q28 [0] rfl (fun G hG=>EvA.loadhp (I ((events.getD i.toNat default).Loc)) ty3 rfl (hG.a0 rfl) rfl rfl rfl rfl) (tgN rfl q28 rfl (fa fs43 rfl) (tgN rfl q28 rfl (lf (eL cI x.From) ty23 rfl) (tgN rfl q28 rfl mv (jD h fun g29 h=>tgN rfl q28 rfl (EvN.ixL sl23 rfl rfl g29 (fun _=>rfl)) (tgN rfl q28 rfl (lf (I (x.From.getD i.toNat default)) ty3 rfl) (tgN rfl q28 rfl mv (jB h fun v30 cv30 h=>tgN rfl q28 rfl (EvN.call rfl rfl rfl (F_spec_l6Before_P x ((events.getD i.toNat default).Loc) (x.From.getD i.toNat default) k_ cv30) rfl) (tN rfl (EvN.pickT rfl q28 (Bo v30) rfl) (tN rfl as' (TG.nil ?_))))))))))))
              obtain rfl:=osj h
              exact ⟨(),trivial,kw rfl rfl⟩
             ·refine tgS rfl q28 (tgS rfl q28 (tgS rfl q28 (tgS rfl q28 (tgS rfl q28 (tgS rfl q28 (tgS rfl q28 (tgS rfl q28 (tgS rfl q28 (tgS rfl q28 (tN rfl (EvN.pickF rfl q28 (Bo false) rfl) (tN rfl as' (TG.nil ?_))))))))))))
              obtain rfl:=osj h
              exact ⟨(),trivial,kw rfl rfl⟩
            ·refine tgS rfl q27 (tgS rfl q27 (tgS rfl q27 (tN rfl (EvN.pickF rfl q27 (Bo false) rfl) (tN rfl mv (tgS rfl rfl (tgS rfl rfl (tgS rfl rfl (tgS rfl rfl (tgS rfl rfl (tgS rfl rfl (tgS rfl rfl (tgS rfl rfl (tgS rfl rfl (tgS rfl rfl (tN rfl (EvN.pickF rfl rfl (Bo false) rfl) ?_)))))))))))))))
             refine tN rfl as' (TG.nil ?_)
             obtain rfl:=osj h
             exact ⟨(),trivial,kw rfl rfl⟩
           ·refine tgS rfl q26 (tgS rfl q26 (tgS rfl q26 (tgS rfl q26 (tgS rfl q26 (tN rfl (EvN.pickF rfl q26 (Bo false) rfl) (tN rfl mv (tgS rfl rfl (tgS rfl rfl (tgS rfl rfl (tN rfl (EvN.pickF rfl rfl (Bo false) rfl) (tN rfl mv (tgS rfl rfl (tgS rfl rfl (tgS rfl rfl (tgS rfl rfl ?_)))))))))))))))
            refine tgS rfl rfl (tgS rfl rfl (tgS rfl rfl (tgS rfl rfl (tgS rfl rfl (tgS rfl rfl (tN rfl (EvN.pickF rfl rfl (Bo false) rfl) (tN rfl as' (TG.nil ?_))))))))
            obtain rfl:=osj h
            exact ⟨(),trivial,kw rfl rfl⟩
          ·refine tgS rfl q25 (tgS rfl q25 (tN rfl (EvN.pickF rfl q25 (Bo false) rfl) (tN rfl mv (tgS rfl rfl (tgS rfl rfl (tgS rfl rfl (tgS rfl rfl (tgS rfl rfl (tN rfl (EvN.pickF rfl rfl (Bo false) rfl) (tN rfl mv (tgS rfl rfl (tgS rfl rfl (tgS rfl rfl (tN rfl (EvN.pickF rfl rfl (Bo false) rfl) (tN rfl mv ?_)))))))))))))))
           refine tgS rfl rfl (tgS rfl rfl (tgS rfl rfl (tgS rfl rfl (tgS rfl rfl (tgS rfl rfl (tgS rfl rfl (tgS rfl rfl (tgS rfl rfl (tgS rfl rfl (tN rfl (EvN.pickF rfl rfl (Bo false) rfl) (tN rfl as' (TG.nil ?_))))))))))))
           obtain rfl:=osj h
           exact ⟨(),trivial,kw rfl rfl⟩
        ·refine T.sr (oN (EvN.seq rfl rfl) (oN as' (TO.nil ?_)))
         refine T.ifH rfl h (fun q31 h => ?_) (fun q31 h => ?_)
         ·refine T.jU h (fun s32=>[(12,Bo s32)]) (fun s32=>[some ⟨0,5,101,[(ZEv.c (events.getD i.toNat default))]⟩,some ⟨0,5,101,[(ZEv.c (events.getD k_.toNat default))]⟩]) (fun s32 h => ?_) (fun s32 h => ?_)
          ·refine T.ret ?_
           obtain rfl:=osj h
           replace h:=congrArg some (show _=_ from ks5)
           obtain rfl:=osj h
           exact finR rfl rfl rfl
          ·refine T.clean (H0:=[some ⟨0,5,101,[(ZEv.c (events.getD i.toNat default))]⟩,some ⟨0,5,101,[(ZEv.c (events.getD k_.toNat default))]⟩]) (e0:=envOf [(15,Bo s3),(14,.hp 1 0 5 0 0),(13,.hp 0 0 5 0 0),(0,eL (cL ZIn.c) p)]) rfl (wkC rfl (wkC rfl (wkC rfl (wkC rfl wkN)))) (T.drawG (fun i=>[([],false),([],false),([],false),([0],false),([],false),([1],false),([],false),([],false),([],false),([],false),([],false),([0],false),([],false),([],false),([],false),([0],false),([],false),([1],false),([],false),([],false),([],false)].getD i ([],false)) (by kernel_rfl) (by kernel_rfl) (tN rfl mv (tN rfl mv ?_)))
           rcases bifL h with ⟨q33,h⟩ | ⟨q33,h⟩
           ·refine tgN rfl q33 rfl (fa fs101 rfl) (tgR rfl q33 [0] rfl (fun G hG=>EvA.loadhp (I ((events.getD i.toNat default).Index)) ty3 rfl (hG.a0 rfl) rfl rfl rfl rfl) (tgN rfl q33 rfl (fa fs101 rfl) (tgR rfl q33 [1] rfl (fun G hG=>EvA.loadhp (I ((events.getD k_.toNat default).Index)) ty3 rfl (hG.a0 rfl) rfl rfl rfl rfl) (tgN rfl q33 rfl (EvN.ilt rfl rfl) (tN rfl (EvN.pickT rfl q33 (Bo (decide (((events.getD i.toNat default).Index)<((events.getD k_.toNat default).Index)))) rfl) (tN rfl mv ?_))))))
            rcases bifL h with ⟨q34,h⟩ | ⟨q34,h⟩
            ·refine tgN rfl q34 rfl mv (tgN rfl q34 rfl (fa fs101 rfl) (tgR rfl q34 [0] rfl (fun G hG=>EvA.loadhp (I ((events.getD i.toNat default).Thread)) ty3 rfl (hG.a0 rfl) rfl rfl rfl rfl) (jD h fun g35 h=>tgN rfl q34 rfl (EvN.ixL sl27 rfl rfl g35 (fun _=>rfl)) (tgN rfl q34 rfl (lf (eL ZIn.c (p.getD ((events.getD i.toNat default).Thread).toNat default)) ty57 rfl) (tgN rfl q34 rfl (fa fs101 rfl) (tgR rfl q34 [0] rfl (fun G hG=>EvA.loadhp (I ((events.getD i.toNat default).Index)) ty3 rfl (hG.a0 rfl) rfl rfl rfl rfl) (tgN rfl q34 rfl (fa fs101 rfl) (tgR rfl q34 [1] rfl (fun G hG=>EvA.loadhp (I ((events.getD k_.toNat default).Index)) ty3 rfl (hG.a0 rfl) rfl rfl rfl rfl) (jB h fun v36 cv36 h=>tgN rfl q34 rfl (EvN.call rfl rfl rfl (F_spec_l6Fence_P (p.getD ((events.getD i.toNat default).Thread).toNat default) ((events.getD i.toNat default).Index) ((events.getD k_.toNat default).Index) cv36) rfl) (tN rfl (EvN.pickT rfl q34 (Bo v36) rfl) (tN rfl as' (TG.nil ?_))))))))))))
             obtain rfl:=osj h
             exact ⟨(),trivial,kw rfl rfl⟩
            ·refine tgS rfl q34 (tgS rfl q34 (tgS rfl q34 (tgS rfl q34 (tgS rfl q34 (tgS rfl q34 (tgS rfl q34 (tgS rfl q34 (tgS rfl q34 (tgS rfl q34 (tN rfl (EvN.pickF rfl q34 (Bo false) rfl) (tN rfl as' (TG.nil ?_))))))))))))
             obtain rfl:=osj h
             exact ⟨(),trivial,kw rfl rfl⟩
           ·refine tgS rfl q33 (tgS rfl q33 (tgS rfl q33 (tgS rfl q33 (tgS rfl q33 (tN rfl (EvN.pickF rfl q33 (Bo false) rfl) (tN rfl mv (tgS rfl rfl (tgS rfl rfl (tgS rfl rfl (tgS rfl rfl (tgS rfl rfl (tgS rfl rfl (tgS rfl rfl (tgS rfl rfl (tgS rfl rfl ?_)))))))))))))))
            refine tgS rfl rfl (tN rfl (EvN.pickF rfl rfl (Bo false) rfl) (tN rfl as' (TG.nil ?_)))
            obtain rfl:=osj h
            exact ⟨(),trivial,kw rfl rfl⟩
         ·refine T.seq (T.clean (H0:=[some ⟨0,5,101,[(ZEv.c (events.getD i.toNat default))]⟩,some ⟨0,5,101,[(ZEv.c (events.getD k_.toNat default))]⟩]) (e0:=envOf [(34,St name),(14,.hp 1 0 5 0 0),(13,.hp 0 0 5 0 0),(3,St name),(4,I i),(5,I k_)]) rfl (wkC rfl (wkC rfl (wkC rfl (wkC rfl (wkC rfl (wkC rfl wkN)))))) (T.region (oN (EvN.seq rfl rfl) (oN as' (TO.nil ?_)))))
          refine T.ifH rfl h (fun q37 h => ?_) (fun q37 h => ?_)
          ·refine T.sr (oN (fa fs101 rfl) (oA (lh (Bo ((events.getD i.toNat default).Writes)) ty4 rfl rfl rfl) (oN mv ?_)))
           refine TO.jB h 4 (fun s38=>[(154,Bo s38),(14,.hp 1 0 5 0 0)]) (fun s38=>[some ⟨0,5,101,[(ZEv.c (events.getD i.toNat default))]⟩,some ⟨0,5,101,[(ZEv.c (events.getD k_.toNat default))]⟩]) (fun s38 q39 h js38 => ?_) (fun s38 q39 h js38 => ?_) (fun s38 h => ?_)
           ·refine gN rfl q39 (fa fs101 rfl) (gA rfl q39 (lh (Bo ((events.getD i.toNat default).Reads)) ty4 rfl rfl rfl) (gN rfl q39 (EvN.not rfl) (oN (EvN.pickT rfl q39 (Bo (!((events.getD i.toNat default).Reads))) rfl) ?_)))
            obtain rfl:=osj h
            exact js38 _ _ (kw rfl rfl)
           ·refine gS rfl q39 (gS rfl q39 (gS rfl q39 (oN (EvN.pickF rfl q39 (Bo false) rfl) ?_)))
            obtain rfl:=osj h
            exact js38 _ _ (kw rfl rfl)
           ·refine oN mv ?_
            refine TO.jB h 3 (fun s40=>[(158,Bo s40),(14,.hp 1 0 5 0 0)]) (fun s40=>[some ⟨0,5,101,[(ZEv.c (events.getD i.toNat default))]⟩,some ⟨0,5,101,[(ZEv.c (events.getD k_.toNat default))]⟩]) (fun s40 q41 h js40 => ?_) (fun s40 q41 h js40 => ?_) (fun s40 h => ?_)
            ·refine gN rfl q41 (fa fs101 rfl) (gA rfl q41 (lh (Bo ((events.getD k_.toNat default).Reads)) ty4 rfl rfl rfl) (oN (EvN.pickT rfl q41 (Bo ((events.getD k_.toNat default).Reads)) rfl) ?_))
             obtain rfl:=osj h
             exact js40 _ _ (kw rfl rfl)
            ·refine gS rfl q41 (gS rfl q41 (oN (EvN.pickF rfl q41 (Bo false) rfl) ?_))
             obtain rfl:=osj h
             exact js40 _ _ (kw rfl rfl)
            ·refine oN mv ?_
             refine TO.jB h 4 (fun s42=>[(163,Bo s42)]) (fun s42=>[some ⟨0,5,101,[(ZEv.c (events.getD i.toNat default))]⟩,some ⟨0,5,101,[(ZEv.c (events.getD k_.toNat default))]⟩]) (fun s42 q43 h js42 => ?_) (fun s42 q43 h js42 => ?_) (fun s42 h => ?_)
             ·refine gN rfl q43 (fa fs101 rfl) (gA rfl q43 (lh (Bo ((events.getD k_.toNat default).Writes)) ty4 rfl rfl rfl) (gN rfl q43 (EvN.not rfl) (oN (EvN.pickT rfl q43 (Bo (!((events.getD k_.toNat default).Writes))) rfl) ?_)))
              obtain rfl:=osj h
              exact js42 _ _ (kw rfl rfl)
             ·refine gS rfl q43 (gS rfl q43 (gS rfl q43 (oN (EvN.pickF rfl q43 (Bo false) rfl) ?_)))
              obtain rfl:=osj h
              exact js42 _ _ (kw rfl rfl)
             ·refine oN as' (TO.nil (T.ret ?_))
              obtain rfl:=osj h
              replace h:=congrArg some (show _=_ from ks5)
              obtain rfl:=osj h
              exact finR rfl rfl rfl
          ·refine T.sr (oN (EvN.seq rfl rfl) (oN as' (TO.nil ?_)))
           refine T.ifH rfl h (fun q44 h => ?_) (fun q44 h => ?_)
           ·refine T.sr (oN (fa fs101 rfl) (oA (lh (Bo ((events.getD i.toNat default).Writes)) ty4 rfl rfl rfl) (oN mv ?_)))
            refine TO.jB h 4 (fun s45=>[(172,Bo s45),(14,.hp 1 0 5 0 0)]) (fun s45=>[some ⟨0,5,101,[(ZEv.c (events.getD i.toNat default))]⟩,some ⟨0,5,101,[(ZEv.c (events.getD k_.toNat default))]⟩]) (fun s45 q46 h js45 => ?_) (fun s45 q46 h js45 => ?_) (fun s45 h => ?_)
            ·refine gN rfl q46 (fa fs101 rfl) (gA rfl q46 (lh (Bo ((events.getD i.toNat default).Reads)) ty4 rfl rfl rfl) (gN rfl q46 (EvN.not rfl) (oN (EvN.pickT rfl q46 (Bo (!((events.getD i.toNat default).Reads))) rfl) ?_)))
             obtain rfl:=osj h
             exact js45 _ _ (kw rfl rfl)
            ·refine gS rfl q46 (gS rfl q46 (gS rfl q46 (oN (EvN.pickF rfl q46 (Bo false) rfl) ?_)))
             obtain rfl:=osj h
             exact js45 _ _ (kw rfl rfl)
            ·refine oN mv ?_
             refine TO.jB h 3 (fun s47=>[(176,Bo s47),(14,.hp 1 0 5 0 0)]) (fun s47=>[some ⟨0,5,101,[(ZEv.c (events.getD i.toNat default))]⟩,some ⟨0,5,101,[(ZEv.c (events.getD k_.toNat default))]⟩]) (fun s47 q48 h js47 => ?_) (fun s47 q48 h js47 => ?_) (fun s47 h => ?_)
             ·refine gN rfl q48 (fa fs101 rfl) (gA rfl q48 (lh (Bo ((events.getD k_.toNat default).Writes)) ty4 rfl rfl rfl) (oN (EvN.pickT rfl q48 (Bo ((events.getD k_.toNat default).Writes)) rfl) ?_))
              obtain rfl:=osj h
              exact js47 _ _ (kw rfl rfl)
             ·refine gS rfl q48 (gS rfl q48 (oN (EvN.pickF rfl q48 (Bo false) rfl) ?_))
              obtain rfl:=osj h
              exact js47 _ _ (kw rfl rfl)
             ·refine oN mv ?_
              refine TO.jB h 4 (fun s49=>[(181,Bo s49)]) (fun s49=>[some ⟨0,5,101,[(ZEv.c (events.getD i.toNat default))]⟩,some ⟨0,5,101,[(ZEv.c (events.getD k_.toNat default))]⟩]) (fun s49 q50 h js49 => ?_) (fun s49 q50 h js49 => ?_) (fun s49 h => ?_)
              ·refine gN rfl q50 (fa fs101 rfl) (gA rfl q50 (lh (Bo ((events.getD k_.toNat default).Reads)) ty4 rfl rfl rfl) (gN rfl q50 (EvN.not rfl) (oN (EvN.pickT rfl q50 (Bo (!((events.getD k_.toNat default).Reads))) rfl) ?_)))
               obtain rfl:=osj h
               exact js49 _ _ (kw rfl rfl)
              ·refine gS rfl q50 (gS rfl q50 (gS rfl q50 (oN (EvN.pickF rfl q50 (Bo false) rfl) ?_)))
               obtain rfl:=osj h
               exact js49 _ _ (kw rfl rfl)
              ·refine oN as' (TO.nil (T.ret ?_))
               obtain rfl:=osj h
               replace h:=congrArg some (show _=_ from ks5)
               obtain rfl:=osj h
               exact finR rfl rfl rfl
           ·refine T.skip ?_
            obtain rfl:=osj h
            exact ⟨(),(),ks5,trivial,kw rfl rfl⟩
theorem F_spec_l6Rel_P (p:List (List ZIn)) (x:ZEx) (name:ByteArray) {q:(List Int)} (h:F_spec_l6Rel p x name=some q):PCall Try.prog 109 [eL (cL ZIn.c) p,.agg (ZEx.c x),St name] (eL cI q):=by
 refine pM Try.func109 rfl (by kernel_rfl) rfl (T.sr (oN (EvN.bxF (ZEx.c x) rfl rfl rfl) (oN as' (TO.nil (T.sr (oN mv (oC h (fun _=>F_spec_l6Events_P _) rfl rfl rfl rfl fun v1 _ h=>oN as' (TO.nil (T.sr (oA (EvA.mkO (c:=cI) ([]:List Int) [] sl23 rfl rfl rfl (fun _=>rfl) rfl rfl) (oN (EvN.asg (hS false 0 0 1 (([]:List Int).length)) rfl) (TO.nil ?_))))))))))))
 refine T.jF (G:=Nat) h (fun s2 gh=>True) (fun s2 gh=>[(8,hS false 0 gh 1 s2.length)]) (fun s2 gh=>[bE false gh 1 3 (s2.map cI)]) (fun s2 u25 h hg => ?_) (fun s2 h => ?_)
 ·refine T.sr (oN mv (oN (EvN.asg (hS false 0 u25 1 s2.length) rfl) (TO.nil (T.ret ?_))))
  obtain rfl:=osj h
  repeat (first|refine retS ?_|refine retB ?_)
  exact Fin.ret (vs:=[hS false 0 u25 1 s2.length]) (.cons (.tmp rfl) .nil) (Fz.own (g:=false) (ver:=u25) (l:=s2) rfl rfl rfl nofun (fun _=>rfl))
 ·refine T.sr (oN as' (TO.nil (T.block ?_)))
  refine T.loop (S:=(List Int)×Int) (G:=Nat) (F_spec_l6Rel_L7 p x name v1) (fun s6 gh=>True) (fun s6 gh=>[(9,I s6.2),(8,hS false 0 gh 1 s6.1.length),(7,eL ZEv.c v1),(4,.fp (ZEx.c x) 0),(0,eL (cL ZIn.c) p),(2,St name)]) (fun s6 gh=>[bE false gh 1 3 (s6.1.map cI)]) (s0:=(([]:List Int),(0:Int))) 0 h trivial (kw rfl rfl) (fun s6 u8 ws6 h hg => ?_)
  refine T.seq (T.sr (oN mv (oN mv (oN (EvN.lenL sl98 rfl) (oN (EvN.ilt rfl rfl) (TO.nil ?_))))))
  refine T.ifH rfl h (fun q9 h => ?_) (fun q9 h => ?_)
  ·refine T.skip ?_
   refine T.jF (G:=Nat) h (fun s10 gh=>True) (fun s10 gh=>[(8,hS false 0 gh 1 s10.length),(9,I s6.2),(7,eL ZEv.c v1),(4,.fp (ZEx.c x) 0),(0,eL (cL ZIn.c) p),(2,St name)]) (fun s10 gh=>[bE false gh 1 3 (s10.map cI)]) (fun s10 u23 h hg => ?_) (fun s10 h => ?_)
   ·refine T.region (oN mv (jW h fun g24 h=>oN (EvN.add rfl rfl g24) (oN as' (TO.nil ?_))))
    obtain rfl:=osj h
    exact ⟨(s10,(s6.2+(1:Int))),u23,rfl,trivial,kw rfl rfl⟩
   ·refine T.block (T.sr (oN as' (TO.nil ?_)))
    refine T.jU h (fun s11=>[(10,I s11),(9,I s6.2),(8,hS false 0 u8 1 s6.1.length),(7,eL ZEv.c v1),(4,.fp (ZEx.c x) 0),(0,eL (cL ZIn.c) p),(2,St name)]) (fun s11=>[bE false u8 1 3 (s6.1.map cI)]) (fun s11 h => ?_) (fun s11 h => ?_)
    ·refine T.region (oN mv (oN mv (oN (EvN.mkF (c:=cI) ([s11]:List Int) [[I s11]] sl23 rfl rfl rfl (fun _=>rfl) (fun _=>rfl) rfl) (jL h fun g22 h=>oA (EvA.app1 (g:=false) (l:=s6.1) s11 sl23 (by kernel_rfl) rfl rfl rfl nofun (SrcOk.fz (l:=([s11]:List Int)) rfl (fun _=>rfl)) g22) (oN (EvN.asg (hS false 0 (u8+1) 1 ((s6.1++[s11]).length)) rfl) (TO.nil ?_))))))
     obtain rfl:=osj h
     exact ⟨u8+1,trivial,kw rfl rfl⟩
    ·refine T.sr (oN as' (TO.nil (T.block ?_)))
     refine T.lU h (fun s14=>[(11,I s14.1),(10,I s14.2),(9,I s6.2),(8,hS false 0 u8 1 s6.1.length),(7,eL ZEv.c v1),(4,.fp (ZEx.c x) 0),(0,eL (cL ZIn.c) p),(2,St name)]) (fun s14=>[bE false u8 1 3 (s6.1.map cI)]) (kw rfl rfl) (fun s14 ws14 h => ?_)
     refine T.seq (T.sr (oN mv (oN mv (oN (EvN.lenL sl98 rfl) (oN (EvN.ilt rfl rfl) (TO.nil ?_))))))
     refine T.ifH rfl h (fun q16 h => ?_) (fun q16 h => ?_)
     ·refine T.skip ?_
      refine T.jU h (fun s17=>[(10,I s17),(11,I s14.1),(9,I s6.2),(8,hS false 0 u8 1 s6.1.length),(7,eL ZEv.c v1),(4,.fp (ZEx.c x) 0),(0,eL (cL ZIn.c) p),(2,St name)]) (fun s17=>[bE false u8 1 3 (s6.1.map cI)]) (fun s17 h => ?_) (fun s17 h => ?_)
      ·refine T.region (oN mv (jW h fun g21 h=>oN (EvN.add rfl rfl g21) (oN as' (TO.nil ?_))))
       exact lE h (kw rfl rfl)
      ·refine T.block (T.sr (oN mv (oN (lf (.agg (ZEx.c x)) ty43 rfl) (oN mv (oN mv (oN mv (oN mv (oC h (fun _=>F_spec_l6Pair_P _ _ _ _ _ _) rfl rfl rfl rfl fun v18 _ h=>TO.nil ?_))))))))
       refine T.ifH rfl h (fun q19 h => ?_) (fun q19 h => ?_)
       ·refine T.region (oN mv (oN mv (jD h fun g20 h=>oN (EvN.shl rfl rfl g20) (oN (EvN.bor rfl rfl) (oN as' (TO.nil ?_))))))
        obtain rfl:=osj h
        exact ⟨(),trivial,kw rfl rfl⟩
       ·refine T.skip ?_
        obtain rfl:=osj h
        exact ⟨(),trivial,kw rfl rfl⟩
     ·refine T.exit (lX h fun h => ?_)
      obtain rfl:=osj h
      exact ⟨(),trivial,kw rfl rfl⟩
  ·refine T.exit (lX h fun h => ?_)
   obtain rfl:=osj h
   exact ⟨u8,trivial,kw rfl rfl⟩
theorem F_spec_l2Union_P (a:List Int) (b:List Int) {q:(List Int)} (h:F_spec_l2Union a b=some q):PCall Try.prog 110 [eL cI a,eL cI b] (eL cI q):=by
 refine pM Try.func110 rfl (by kernel_rfl) rfl (T.sr (oN as' (TO.nil (T.sr (oA (EvA.mkO (c:=cI) ([]:List Int) [] sl23 rfl rfl rfl (fun _=>rfl) rfl rfl) (oN (EvN.asg (hS false 0 0 1 (([]:List Int).length)) rfl) (TO.nil ?_)))))))
 refine T.jF (G:=Nat) h (fun s1 gh=>True) (fun s1 gh=>[(5,hS false 0 gh 1 s1.length)]) (fun s1 gh=>[bE false gh 1 3 (s1.map cI)]) (fun s1 u13 h hg => ?_) (fun s1 h => ?_)
 ·refine T.sr (oN mv (oN (EvN.asg (hS false 0 u13 1 s1.length) rfl) (TO.nil (T.ret ?_))))
  obtain rfl:=osj h
  repeat (first|refine retS ?_|refine retB ?_)
  exact Fin.ret (vs:=[hS false 0 u13 1 s1.length]) (.cons (.tmp rfl) .nil) (Fz.own (g:=false) (ver:=u13) (l:=s1) rfl rfl rfl nofun (fun _=>rfl))
 ·refine T.sr (oN as' (TO.nil (T.block ?_)))
  refine T.loop (S:=(List Int)×Int) (G:=Nat) (F_spec_l2Union_L6 a b) (fun s5 gh=>True) (fun s5 gh=>[(6,I s5.2),(5,hS false 0 gh 1 s5.1.length),(0,eL cI a),(1,eL cI b)]) (fun s5 gh=>[bE false gh 1 3 (s5.1.map cI)]) (s0:=(([]:List Int),(0:Int))) 0 h trivial (kw rfl rfl) (fun s5 u7 ws5 h hg => ?_)
  refine T.seq (T.sr (oN mv (oN mv (oN (EvN.lenL sl23 rfl) (oN (EvN.ilt rfl rfl) (TO.nil ?_))))))
  refine T.ifH rfl h (fun q8 h => ?_) (fun q8 h => ?_)
  ·refine T.skip (T.seq (T.block (T.drawF (fun i=>[([],false),([],false),([],false),([],false),([],false),([],false),([],false),([],false),([],false),([],false),([],false),([0],true),([],false)].getD i ([],false)) (by kernel_rfl) (by kernel_rfl) (fN rfl mv (fN rfl mv (fN rfl mv (jD h fun g9 h=>fN rfl (EvN.ixL sl23 rfl rfl g9 (fun _=>rfl)) (fN rfl (lf (I (a.getD s5.2.toNat default)) ty3 rfl) (fN rfl mv (fN rfl mv (jD h fun g10 h=>fN rfl (EvN.ixL sl23 rfl rfl g10 (fun _=>rfl)) (fN rfl (lf (I (b.getD s5.2.toNat default)) ty3 rfl) (fN rfl (EvN.bor rfl rfl) ?_)))))))))))))
   refine fN rfl (EvN.mkF (c:=cI) ([(bOr .i64 (a.getD s5.2.toNat default) (b.getD s5.2.toNat default))]:List Int) [[I (bOr .i64 (a.getD s5.2.toNat default) (b.getD s5.2.toNat default))]] sl23 rfl rfl rfl (fun _=>rfl) (fun _=>rfl) rfl) (jL h fun g11 h=>fW 0 [] rfl rfl (fun G hG=>EvA.app1 (g:=false) (l:=s5.1) (bOr .i64 (a.getD s5.2.toNat default) (b.getD s5.2.toNat default)) sl23 (by kernel_rfl) rfl rfl (hG.a0 rfl) nofun (SrcOk.fz (l:=([(bOr .i64 (a.getD s5.2.toNat default) (b.getD s5.2.toNat default))]:List Int)) rfl (fun _=>rfl)) g11) (fN rfl (EvN.asg (hS false 0 (u7+1) 1 ((s5.1++[(bOr .i64 (a.getD s5.2.toNat default) (b.getD s5.2.toNat default))]).length)) rfl) (TF.nil (T.clean (H0:=[bE false (u7+1) 1 3 ((s5.1++[(bOr .i64 (a.getD s5.2.toNat default) (b.getD s5.2.toNat default))]).map cI)]) (e0:=envOf [(5,hS false 0 (u7+1) 1 ((s5.1++[(bOr .i64 (a.getD s5.2.toNat default) (b.getD s5.2.toNat default))]).length)),(6,I s5.2),(0,eL cI a),(1,eL cI b)]) rfl (wkC rfl (wkC rfl (wkC rfl (wkC rfl wkN)))) (T.region (oN mv (jW h fun g12 h=>oN (EvN.add rfl rfl g12) (oN as' (TO.nil ?_)))))))))
   obtain rfl:=osj h
   exact ⟨((s5.1++[(bOr .i64 (a.getD s5.2.toNat default) (b.getD s5.2.toNat default))]),(s5.2+(1:Int))),u7+1,rfl,trivial,kw rfl rfl⟩
  ·refine T.exit (lX h fun h => ?_)
   obtain rfl:=osj h
   exact ⟨u7,trivial,kw rfl rfl⟩
theorem F_spec_l13Before_P (p:List (List ZIn)) (x:ZEx) {q:(List Int)} (h:F_spec_l13Before p x=some q):PCall Try.prog 61 [eL (cL ZIn.c) p,.agg (ZEx.c x)] (eL cI q):=by
 refine pM Try.func61 rfl (by kernel_rfl) rfl (T.sr (oN (EvN.bxF (ZEx.c x) rfl rfl rfl) (oN as' (TO.nil (T.sr (oN mv (oN (lf (.agg (ZEx.c x)) ty43 rfl) (oC h (fun _=>F_spec_l6Rel_P _ _ _) rfl rfl rfl rfl fun v1 _ h=>oN as' (TO.nil (T.sr (oN mv (oN mv (oN (lf (.agg (ZEx.c x)) ty43 rfl) (oC h (fun _=>F_spec_l6Rel_P _ _ _) rfl rfl rfl rfl fun v2 _ h => ?_))))))))))))))
 refine oC h (fun _=>F_spec_l2Union_P _ _) rfl rfl rfl rfl fun v3 _ h=>oN as' (TO.nil (T.sr (oN mv (oN mv (oN (lf (.agg (ZEx.c x)) ty43 rfl) (oC h (fun _=>F_spec_l6Rel_P _ _ _) rfl rfl rfl rfl fun v4 _ h=>oC h (fun _=>F_spec_l2Union_P _ _) rfl rfl rfl rfl fun v5 _ h=>oN as' (TO.nil (T.seq (T.clean (H0:=[]) (e0:=envOf [(5,eL cI v5),(3,.fp (ZEx.c x) 0),(0,eL (cL ZIn.c) p)]) rfl (wkC rfl (wkC rfl (wkC rfl wkN))) (T.region (oN mv (oN mv ?_))))))))))))
 refine oN (lf (.agg (ZEx.c x)) ty43 rfl) (oC h (fun _=>F_spec_l6Rel_P _ _ _) rfl rfl rfl rfl fun v6 _ h=>oC h (fun _=>F_spec_l2Union_P _ _) rfl rfl rfl rfl fun v7 _ h=>oN as' (TO.nil (T.ret ?_)))
 obtain rfl:=osj h
 exact finR rfl rfl rfl
theorem F_spec_l2Full_P (n:Int) {q:Int} (h:F_spec_l2Full n=some q):PCall Try.prog 106 [I n] (I q):=by
 refine pM Try.func106 rfl (by kernel_rfl) rfl (T.sr (oN as' (TO.nil (T.sr (oN mv (jD h fun g1 h=>oN (EvN.shl rfl rfl g1) (jW h fun g2 h=>oN (EvN.sub rfl rfl g2) (oN as' (TO.nil (T.ret ?_))))))))))
 obtain rfl:=osj h
 exact finR rfl rfl rfl
theorem F_spec_l13Event_P (events:List ZEv) (t:Int) (index:Int) {q:Int} (h:F_spec_l13Event events t index=some q):PCall Try.prog 107 [eL ZEv.c events,I t,I index] (I q):=by
 refine pM Try.func107 rfl (by kernel_rfl) rfl (T.sr (oN as' (TO.nil ?_)))
 obtain ⟨Ks1,es1,ws1,h,ks1⟩:=sumL h
 refine T.join (S:=Unit) (G:=Unit) (fun s1=>Ks1 s1=some q) (fun s1 gh=>True) (fun s1 gh=>[]) (fun s1 gh=>[]) (fun s1 gh h hg => ?_) ?_
 ·clear ks1
  subst es1
  refine T.sr (oN as' (TO.nil (T.ret ?_)))
  obtain rfl:=osj h
  exact finR rfl rfl rfl
 ·refine T.sr (oN as' (TO.nil (T.block ?_)))
  refine T.lU h (fun s4=>[(7,I s4),(0,eL ZEv.c events),(1,I t),(2,I index)]) (fun s4=>[]) (kw rfl rfl) (fun s4 ws4 h => ?_)
  refine T.seq (T.sr (oN mv (oN mv (oN (EvN.lenL sl98 rfl) (oN (EvN.ilt rfl rfl) (TO.nil ?_))))))
  refine T.ifH rfl h (fun q6 h => ?_) (fun q6 h => ?_)
  ·refine T.skip (T.seq (T.block (T.sr (oN mv (oN mv (jD h fun g7 h=>oN (EvN.ixL sl98 rfl rfl g7 (fun _=>rfl)) (oN (fa fs101 rfl) (oN (lf (I ((events.getD s4.toNat default).Thread)) ty3 rfl) (oN mv (oN (EvN.ieq rfl rfl) (oN mv ?_)))))))))))
   refine TO.jB h 8 (fun s8=>[(29,Bo s8),(7,I s4),(0,eL ZEv.c events),(1,I t),(2,I index)]) (fun s8=>[]) (fun s8 q9 h js8 => ?_) (fun s8 q9 h js8 => ?_) (fun s8 h => ?_)
   ·refine gN rfl q9 mv (gN rfl q9 mv (gN rfl q9 (EvN.ixL sl98 rfl rfl g7 (fun _=>rfl)) (gN rfl q9 (fa fs101 rfl) (gN rfl q9 (lf (I ((events.getD s4.toNat default).Index)) ty3 rfl) (gN rfl q9 mv (gN rfl q9 (EvN.ieq rfl rfl) (oN (EvN.pickT rfl q9 (Bo (((events.getD s4.toNat default).Index)==index)) rfl) ?_)))))))
    obtain rfl:=osj h
    exact js8 _ _ (kw rfl rfl)
   ·refine gS rfl q9 (gS rfl q9 (gS rfl q9 (gS rfl q9 (gS rfl q9 (gS rfl q9 (gS rfl q9 (oN (EvN.pickF rfl q9 (Bo false) rfl) ?_)))))))
    obtain rfl:=osj h
    exact js8 _ _ (kw rfl rfl)
   ·refine TO.nil ?_
    refine T.ifH rfl h (fun q10 h => ?_) (fun q10 h => ?_)
    ·refine T.sr (oN mv (oN as' (TO.nil (T.ret (lX h fun h => ?_)))))
     obtain rfl:=osj h
     replace h:=congrArg some (show _=_ from ks1)
     obtain rfl:=osj h
     exact finR rfl rfl rfl
    ·refine T.skip (T.region (oN mv (jW h fun g11 h=>oN (EvN.add rfl rfl g11) (oN as' (TO.nil ?_)))))
     exact lE h (kw rfl rfl)
  ·refine T.exit (lX h fun h => ?_)
   obtain rfl:=osj h
   exact ⟨(),(),ks1,trivial,kw rfl rfl⟩
theorem F_spec_l2Has_P (r_:List Int) (i:Int) (k_:Int) {q:Bool} (h:F_spec_l2Has r_ i k_=some q):PCall Try.prog 146 [eL cI r_,I i,I k_] (Bo q):=by
 refine pM Try.func146 rfl (by kernel_rfl) rfl (T.sr (oN as' (TO.nil (T.sr (oN mv (oN mv (jD h fun g1 h=>oN (EvN.ixL sl23 rfl rfl g1 (fun _=>rfl)) (oN (lf (I (r_.getD i.toNat default)) ty3 rfl) (oN mv (jD h fun g2 h=>oN (EvN.shr rfl rfl g2) (oN (EvN.band rfl rfl) (oN (EvN.ieq rfl rfl) (oN as' ?_)))))))))))))
 refine TO.nil (T.ret ?_)
 obtain rfl:=osj h
 exact finR rfl rfl rfl
theorem F_spec_l13Ready_P (before:List Int) (done:Int) (k_:Int) {q:Bool} (h:F_spec_l13Ready before done k_=some q):PCall Try.prog 108 [eL cI before,I done,I k_] (Bo q):=by
 refine pM Try.func108 rfl (by kernel_rfl) rfl (T.sr (oN as' (TO.nil ?_)))
 obtain ⟨Ks1,es1,ws1,h,ks1⟩:=sumL h
 refine T.join (S:=Unit) (G:=Unit) (fun s1=>Ks1 s1=some q) (fun s1 gh=>True) (fun s1 gh=>[]) (fun s1 gh=>[]) (fun s1 gh h hg => ?_) ?_
 ·clear ks1
  subst es1
  refine T.sr (oN as' (TO.nil (T.ret ?_)))
  obtain rfl:=osj h
  exact finR rfl rfl rfl
 ·refine T.sr (oN as' (TO.nil (T.block ?_)))
  refine T.lU h (fun s4=>[(7,I s4),(0,eL cI before),(1,I done),(2,I k_)]) (fun s4=>[]) (kw rfl rfl) (fun s4 ws4 h => ?_)
  refine T.seq (T.sr (oN mv (oN mv (oN (EvN.lenL sl23 rfl) (oN (EvN.ilt rfl rfl) (TO.nil ?_))))))
  refine T.ifH rfl h (fun q6 h => ?_) (fun q6 h => ?_)
  ·refine T.skip (T.seq (T.block (T.sr (oN mv (oN mv (oN mv (oC h (fun _=>F_spec_l2Has_P _ _ _) rfl rfl rfl rfl fun v7 _ h=>oN mv ?_)))))))
   refine TO.jB h 6 (fun s8=>[(24,Bo s8),(7,I s4),(0,eL cI before),(1,I done),(2,I k_)]) (fun s8=>[]) (fun s8 q9 h js8 => ?_) (fun s8 q9 h js8 => ?_) (fun s8 h => ?_)
   ·refine gN rfl q9 mv (gN rfl q9 mv (jD h fun g10 h=>gN rfl q9 (EvN.shr rfl rfl g10) (gN rfl q9 (EvN.band rfl rfl) (gN rfl q9 (EvN.ieq rfl rfl) (oN (EvN.pickT rfl q9 (Bo ((bAnd .i64 (bShr .i64 done s4) (1:Int))==(0:Int))) rfl) ?_)))))
    obtain rfl:=osj h
    exact js8 _ _ (kw rfl rfl)
   ·refine gS rfl q9 (gS rfl q9 (gS rfl q9 (gS rfl q9 (gS rfl q9 (oN (EvN.pickF rfl q9 (Bo false) rfl) ?_)))))
    obtain rfl:=osj h
    exact js8 _ _ (kw rfl rfl)
   ·refine TO.nil ?_
    refine T.ifH rfl h (fun q11 h => ?_) (fun q11 h => ?_)
    ·refine T.sr (oN as' (TO.nil (T.ret (lX h fun h => ?_))))
     obtain rfl:=osj h
     replace h:=congrArg some (show _=_ from ks1)
     obtain rfl:=osj h
     exact finR rfl rfl rfl
    ·refine T.skip (T.region (oN mv (jW h fun g12 h=>oN (EvN.add rfl rfl g12) (oN as' (TO.nil ?_)))))
     exact lE h (kw rfl rfl)
  ·refine T.exit (lX h fun h => ?_)
   obtain rfl:=osj h
   exact ⟨(),(),ks1,trivial,kw rfl rfl⟩
set_option maxHeartbeats 4000000 in
theorem F_spec_l13Sort_P (p:List (List ZIn)) (before:List Int) {q:(List Int)×Bool} (h:F_spec_l13Sort p before=some q):PCall Try.prog 60 [eL (cL ZIn.c) p,eL cI before] (.tup [eL cI q.1,Bo q.2]):=by
 refine pM Try.func60 rfl (by kernel_rfl) rfl (T.sr (oN as' (oN as' (TO.nil (T.sr (oN mv (oC h (fun _=>F_spec_l6Events_P _) rfl rfl rfl rfl fun v1 _ h=>oN as' (TO.nil (T.sr (oN mv (oN (EvN.lenL sl27 rfl) (jD h fun g2 h=>oA (EvA.mkN (c:=cI) (default:Int) sl23 rfl rfl g2 rfl rfl rfl) (oN (EvN.asg (hS false 0 0 1 ((List.replicate (p.length:Int).toNat (default:Int)).length)) rfl) ?_)))))))))))))
 refine TO.nil (T.sr (oC h (fun _=>F_spec_l2Full_P _) rfl rfl rfl rfl fun v3 _ h=>oN as' (TO.nil (T.sr (oA (EvA.mkO (c:=cI) ([]:List Int) [] sl23 rfl rfl rfl (fun _=>rfl) rfl rfl) (oN (EvN.asg (hS false 1 0 1 (([]:List Int).length)) rfl) (TO.nil (T.sr (oN as' (TO.nil ?_))))))))))
 refine T.jF (G:=Nat×Nat) h (fun s4 gh=>True) (fun s4 gh=>[(9,hS false 1 gh.2 1 s4.2.length),(7,hS false 0 gh.1 1 s4.1.length),(0,eL (cL ZIn.c) p)]) (fun s4 gh=>[bE false gh.1 1 3 (s4.1.map cI),bE false gh.2 1 3 (s4.2.map cI)]) (fun s4 gh h hg => ?_) (fun s4 h => ?_)
 ·obtain ⟨u42,u43⟩:=gh
  obtain ⟨Ks44,es44,ws44,h,ks44⟩:=sumL h
  refine T.join (S:=Unit) (G:=Unit) (fun s44=>Ks44 s44=some q) (fun s44 gh=>True) (fun s44 gh=>[(9,hS false 1 u43 1 s4.2.length)]) (fun s44 gh=>[bE false u42 1 3 (s4.1.map cI),bE false u43 1 3 (s4.2.map cI)]) (fun s44 gh h hg => ?_) ?_
  ·clear ks44
   subst es44
   refine T.sr (oN mv (oN (EvN.asg (hS false 1 u43 1 s4.2.length) rfl) (oN as' (TO.nil (T.ret ?_)))))
   obtain rfl:=osj h
   repeat (first|refine retS ?_|refine retB ?_)
   exact Fin.ret (vs:=[hS false 1 u43 1 s4.2.length,Bo true]) (.cons (.tmp rfl) (.cons (.tmp rfl) .nil)) (.tupL (.cons (Fz.own (g:=false) (ver:=u43) (l:=s4.2) rfl rfl rfl nofun (fun _=>rfl)) (.cons (.of_isF 9 _ rfl) .nil)))
  ·refine T.sr (oN as' (TO.nil (T.block ?_)))
   refine T.lU h (fun s47=>[(13,I s47),(9,hS false 1 u43 1 s4.2.length),(7,hS false 0 u42 1 s4.1.length),(0,eL (cL ZIn.c) p)]) (fun s47=>[bE false u42 1 3 (s4.1.map cI),bE false u43 1 3 (s4.2.map cI)]) (kw rfl rfl) (fun s47 ws47 h => ?_)
   refine T.seq (T.sr (oN mv (oN mv (oN (EvN.lenL sl27 rfl) (oN (EvN.ilt rfl rfl) (TO.nil ?_))))))
   refine T.ifH rfl h (fun q49 h => ?_) (fun q49 h => ?_)
   ·refine T.skip (T.seq (T.block (T.seq (T.drawF (fun i=>[([],false),([],false),([],false),([0],false),([],false),([],false),([],false),([],false),([],false),([],false)].getD i ([],false)) (by kernel_rfl) (by kernel_rfl) (fN rfl mv (fN rfl mv (jD h fun g50 h=>fN rfl (EvN.ixO (g:=false) sl23 rfl rfl nofun g50) (fR [0] rfl (fun G hG=>EvA.ldO (g:=false) (l:=s4.1) (I (s4.1.getD s47.toNat default)) ty3 rfl (hG.a0 rfl) nofun (toNat_lt' rfl g50) rfl) (fN rfl mv (fN rfl mv (jD h fun g51 h=>fN rfl (EvN.ixL sl27 rfl rfl g51 (fun _=>rfl)) (fN rfl (lf (eL ZIn.c (p.getD s47.toNat default)) ty57 rfl) (fN rfl (EvN.lenL sl57 rfl) ?_)))))))))))))
    refine fN rfl (EvN.ilt rfl rfl) (TF.nil ?_)
    refine T.ifH rfl h (fun q52 h => ?_) (fun q52 h => ?_)
    ·refine T.seq (T.clean (H0:=[bE false u42 1 3 (s4.1.map cI),bE false u43 1 3 (s4.2.map cI)]) (e0:=envOf []) rfl wkN (T.region (oN (EvN.mkF (c:=cI) ([]:List Int) [] sl23 rfl rfl rfl (fun _=>rfl) (fun _=>rfl) rfl) (oN as' (oN as' (TO.nil (T.ret (lX h fun h => ?_))))))))
     obtain rfl:=osj h
     replace h:=congrArg some (show _=_ from ks44)
     obtain rfl:=osj h
     repeat (first|refine retS ?_|refine retB ?_)
     exact Fin.ret (vs:=[eL cI ([]:List Int),Bo false]) (.cons (.tmp rfl) (.cons (.tmp rfl) .nil)) (.tupL (.cons (.of_isF 9 _ rfl) (.cons (.of_isF 9 _ rfl) .nil)))
    ·refine T.skip (T.region (oN mv (jW h fun g53 h=>oN (EvN.add rfl rfl g53) (oN as' (TO.nil ?_)))))
     exact lE h (kw rfl rfl)
   ·refine T.exit (lX h fun h => ?_)
    obtain rfl:=osj h
    exact ⟨(),(),ks44,trivial,kw rfl rfl⟩
 ·refine T.block ?_
  refine T.loop (S:=(List Int)×(List Int)×Bool×Int) (G:=Nat×Nat) (F_spec_l13Sort_L10 p before v1) (fun s9 gh=>True) (fun s9 gh=>[(10,Bo s9.2.2.1),(9,hS false 1 gh.2 1 s9.2.1.length),(8,I s9.2.2.2),(7,hS false 0 gh.1 1 s9.1.length),(6,eL ZEv.c v1),(0,eL (cL ZIn.c) p),(1,eL cI before)]) (fun s9 gh=>[bE false gh.1 1 3 (s9.1.map cI),bE false gh.2 1 3 (s9.2.1.map cI)]) (s0:=((List.replicate (p.length:Int).toNat (default:Int)),([]:List Int),true,v3)) (0,0) h trivial (kw rfl rfl) (fun s9 gh ws9 h hg => ?_)
  obtain ⟨u11,u12⟩:=gh
  refine T.seq (T.sr (oN mv (TO.nil ?_)))
  refine T.ifH rfl h (fun q13 h => ?_) (fun q13 h => ?_)
  ·refine T.skip (T.block (T.sr (oN as' (TO.nil (T.sr (oN as' (TO.nil (T.block ?_))))))))
   refine T.loop (S:=(List Int)×(List Int)×Int×Bool×Int) (G:=Nat×Nat) (F_spec_l13Sort_L19 p before v1) (fun s18 gh=>True) (fun s18 gh=>[(11,I s18.2.2.1),(10,Bo s18.2.2.2.1),(9,hS false 1 gh.2 1 s18.2.1.length),(8,I s18.2.2.2.2),(7,hS false 0 gh.1 1 s18.1.length),(6,eL ZEv.c v1),(0,eL (cL ZIn.c) p),(1,eL cI before)]) (fun s18 gh=>[bE false gh.1 1 3 (s18.1.map cI),bE false gh.2 1 3 (s18.2.1.map cI)]) (s0:=(s9.1,s9.2.1,(0:Int),false,s9.2.2.2)) (u11,u12) h trivial (kw rfl rfl) (fun s18 gh ws18 h hg => ?_)
   let d0:=s18.1.getD s18.2.2.1.toNat default
   obtain ⟨u20,u21⟩:=gh
   refine T.seq (T.sr (oN mv (oN mv (oN (EvN.lenL sl27 rfl) (oN (EvN.ilt rfl rfl) (oN mv ?_))))))
   refine TO.jB h 3 (fun s22=>[(29,Bo s22),(11,I s18.2.2.1),(10,Bo s18.2.2.2.1),(9,hS false 1 u21 1 s18.2.1.length),(8,I s18.2.2.2.2),(7,hS false 0 u20 1 s18.1.length),(6,eL ZEv.c v1),(0,eL (cL ZIn.c) p),(1,eL cI before)]) (fun s22=>[bE false u20 1 3 (s18.1.map cI),bE false u21 1 3 (s18.2.1.map cI)]) (fun s22 q23 h js22 => ?_) (fun s22 q23 h js22 => ?_) (fun s22 h => ?_)
   ·refine gN rfl q23 mv (gN rfl q23 (EvN.not rfl) (oN (EvN.pickT rfl q23 (Bo (!s18.2.2.2.1)) rfl) ?_))
    obtain rfl:=osj h
    exact js22 _ _ (kw rfl rfl)
   ·refine gS rfl q23 (gS rfl q23 (oN (EvN.pickF rfl q23 (Bo false) rfl) ?_))
    obtain rfl:=osj h
    exact js22 _ _ (kw rfl rfl)
   ·refine TO.nil ?_
    refine T.ifH rfl h (fun q24 h => ?_) (fun q24 h => ?_)
    ·refine T.skip ?_
     refine T.jF (G:=Nat×Nat) h (fun s25 gh=>True) (fun s25 gh=>[(11,I s18.2.2.1),(10,Bo s25.2.2.1),(9,hS false 1 gh.2 1 s25.2.1.length),(8,I s25.2.2.2),(7,hS false 0 gh.1 1 s25.1.length),(6,eL ZEv.c v1),(0,eL (cL ZIn.c) p),(1,eL cI before)]) (fun s25 gh=>[bE false gh.1 1 3 (s25.1.map cI),bE false gh.2 1 3 (s25.2.1.map cI)]) (fun s25 gh h hg => ?_) (fun s25 h => ?_)
     ·obtain ⟨u39,u40⟩:=gh
      refine T.region (oN mv (jW h fun g41 h=>oN (EvN.add rfl rfl g41) (oN as' (TO.nil ?_))))
      obtain rfl:=osj h
      exact ⟨(s25.1,s25.2.1,(s18.2.2.1+(1:Int)),s25.2.2.1,s25.2.2.2),(u39,u40),rfl,trivial,kw rfl rfl⟩
     ·refine T.block (T.seq (T.seq (T.drawF (fun i=>[([],false),([],false),([],false),([0],false),([],false),([],false),([],false),([],false),([],false),([],false)].getD i ([],false)) (by kernel_rfl) (by kernel_rfl) (fN rfl mv (fN rfl mv (jD h fun g26 h=>fN rfl (EvN.ixO (g:=false) sl23 rfl rfl nofun g26) (fR [0] rfl (fun G hG=>EvA.ldO (g:=false) (l:=s18.1) (I d0) ty3 rfl (hG.a0 rfl) nofun (toNat_lt' rfl g26) rfl) (fN rfl mv (fN rfl mv (jD h fun g27 h=>fN rfl (EvN.ixL sl27 rfl rfl g27 (fun _=>rfl)) (fN rfl (lf (eL ZIn.c (p.getD s18.2.2.1.toNat default)) ty57 rfl) (fN rfl (EvN.lenL sl57 rfl) (fN rfl (EvN.ieq rfl rfl) ?_)))))))))))))
      refine TF.nil ?_
      refine T.ifH rfl h (fun q28 h => ?_) (fun q28 h => ?_)
      ·refine T.exit ?_
       obtain rfl:=osj h
       exact ⟨(u20,u21),trivial,kw rfl rfl⟩
      ·refine T.skip (T.sr (oN mv (oN mv (oN mv (oN mv (oN (EvN.ixO (g:=false) sl23 rfl rfl nofun g26) (oA (EvA.ldO (g:=false) (l:=s18.1) (I d0) ty3 rfl rfl nofun (toNat_lt' rfl g26) rfl) (oC h (fun _=>F_spec_l13Event_P _ _ _) rfl rfl rfl rfl fun v29 _ h=>oN as' (TO.nil (T.seq (T.seq (T.clean (H0:=[bE false u20 1 3 (s18.1.map cI),bE false u21 1 3 (s18.2.1.map cI)]) (e0:=envOf [(12,I v29),(11,I s18.2.2.1),(10,Bo s18.2.2.2.1),(9,hS false 1 u21 1 s18.2.1.length),(8,I s18.2.2.2.2),(7,hS false 0 u20 1 s18.1.length),(6,eL ZEv.c v1),(0,eL (cL ZIn.c) p),(1,eL cI before)]) rfl (wkC rfl (wkC rfl (wkC rfl (wkC rfl (wkC rfl (wkC rfl (wkC rfl (wkC rfl (wkC rfl wkN))))))))) (T.region (oN mv ?_))))))))))))))
       refine oN (EvN.ige rfl rfl) (oN mv ?_)
       refine TO.jB h 6 (fun s30=>[(57,Bo s30),(12,I v29),(11,I s18.2.2.1),(10,Bo s18.2.2.2.1),(9,hS false 1 u21 1 s18.2.1.length),(8,I s18.2.2.2.2),(7,hS false 0 u20 1 s18.1.length),(6,eL ZEv.c v1),(0,eL (cL ZIn.c) p),(1,eL cI before)]) (fun s30=>[bE false u20 1 3 (s18.1.map cI),bE false u21 1 3 (s18.2.1.map cI)]) (fun s30 q31 h js30 => ?_) (fun s30 q31 h js30 => ?_) (fun s30 h => ?_)
       ·refine gN rfl q31 mv (gN rfl q31 mv (gN rfl q31 mv (jB h fun v32 cv32 h=>gN rfl q31 (EvN.call rfl rfl rfl (F_spec_l13Ready_P before s18.2.2.2.2 v29 cv32) rfl) (gN rfl q31 (EvN.not rfl) (oN (EvN.pickT rfl q31 (Bo (!v32)) rfl) ?_)))))
        obtain rfl:=osj h
        exact js30 _ _ (kw rfl rfl)
       ·refine gS rfl q31 (gS rfl q31 (gS rfl q31 (gS rfl q31 (gS rfl q31 (oN (EvN.pickF rfl q31 (Bo false) rfl) ?_)))))
        obtain rfl:=osj h
        exact js30 _ _ (kw rfl rfl)
       ·refine TO.nil ?_
        refine T.ifH rfl h (fun q33 h => ?_) (fun q33 h => ?_)
        ·refine T.exit ?_
         obtain rfl:=osj h
         exact ⟨(u20,u21),trivial,kw rfl rfl⟩
        ·refine T.skip ?_
         refine T.jU h (fun s34=>[(8,I s34),(11,I s18.2.2.1),(9,hS false 1 u21 1 s18.2.1.length),(7,hS false 0 u20 1 s18.1.length),(6,eL ZEv.c v1),(0,eL (cL ZIn.c) p),(1,eL cI before)]) (fun s34=>[bE false u20 1 3 (s18.1.map cI),bE false u21 1 3 (s18.2.1.map cI)]) (fun s34 h => ?_) (fun s34 h => ?_)
         ·refine T.sr (oN mv (oN mv (oN mv (oN mv (oN (EvN.ixO (g:=false) sl23 rfl rfl nofun g26) (oA (EvA.ldO (g:=false) (l:=s18.1) (I d0) ty3 rfl rfl nofun (toNat_lt' rfl g26) rfl) (jW h fun g37 h=>oN (EvN.add rfl rfl g37) (oN (EvN.ixO (g:=false) sl23 rfl rfl nofun g26) (oV (EvA.stO (g:=false) (l:=s18.1) (cs:=[I (d0+(1:Int))]) (d0+(1:Int)) ty3 rfl rfl rfl nofun (toNat_lt' rfl g26) rfl rfl rfl) (TO.nil (T.sr (oN mv (oN mv (oN (EvN.mkF (c:=cI) ([s18.2.2.1]:List Int) [[I s18.2.2.1]] sl23 rfl rfl rfl (fun _=>rfl) (fun _=>rfl) rfl) ?_))))))))))))))
          refine jL h fun g38 h=>oA (EvA.app1 (g:=false) (l:=s18.2.1) s18.2.2.1 sl23 (by kernel_rfl) rfl rfl rfl nofun (SrcOk.fz (l:=([s18.2.2.1]:List Int)) rfl (fun _=>rfl)) g38) (oN (EvN.asg (hS false 1 (u21+1) 1 ((s18.2.1++[s18.2.2.1]).length)) rfl) (TO.nil (T.region (oN as' (TO.nil ?_)))))
          obtain rfl:=osj h
          exact ⟨(u20,u21+1),trivial,cutW rfl (wkC rfl (wkC rfl (wkC rfl (wkC rfl (wkC (congrArg (hS false 0 u20 1) (by simp:s18.1.length=(s18.1.set s18.2.2.1.toNat (d0+(1:Int))).length)) (wkC rfl (wkC rfl (wkC rfl wkN))))))))⟩
         ·refine T.sr (oN mv (oN (EvN.ige rfl rfl) (TO.nil ?_)))
          refine T.ifH rfl h (fun q35 h => ?_) (fun q35 h => ?_)
          ·refine T.region (oN mv (oN mv (jD h fun g36 h=>oN (EvN.shl rfl rfl g36) (oN (EvN.bor rfl rfl) (oN as' (TO.nil ?_))))))
           obtain rfl:=osj h
           exact ⟨(),trivial,kw rfl rfl⟩
          ·refine T.skip ?_
           obtain rfl:=osj h
           exact ⟨(),trivial,kw rfl rfl⟩
    ·refine T.exit (lX h fun h => ?_)
     obtain rfl:=osj h
     exact ⟨(s18.1,s18.2.1,s18.2.2.2.1,s18.2.2.2.2),(u20,u21),rfl,trivial,kw rfl rfl⟩
  ·refine T.exit (lX h fun h => ?_)
   obtain rfl:=osj h
   exact ⟨(u11,u12),trivial,kw rfl rfl⟩
theorem F_spec_ScheduleOf_P (p:List (List ZIn)) (x:ZEx) {q:(List Int)×Bool} (h:F_spec_ScheduleOf p x=some q):PCall Try.prog 24 [eL (cL ZIn.c) p,.agg (ZEx.c x)] (.tup [eL cI q.1,Bo q.2]):=by
 refine pM Try.func24 rfl (by kernel_rfl) rfl (T.sr (oN (EvN.bxF (ZEx.c x) rfl rfl rfl) (oN as' (oN as' (TO.nil (T.seq (T.sr (oN mv (oN (lf (.agg (ZEx.c x)) ty43 rfl) (oC h (fun _=>F_spec_ExecValid_P _ _) rfl rfl rfl rfl fun v1 _ h=>oN (EvN.not rfl) (TO.nil ?_)))))))))))
 refine T.ifH rfl h (fun q2 h => ?_) (fun q2 h => ?_)
 ·refine T.sr (oN (EvN.mkF (c:=cI) ([]:List Int) [] sl23 rfl rfl rfl (fun _=>rfl) (fun _=>rfl) rfl) (oN as' (oN as' (TO.nil (T.ret ?_)))))
  obtain rfl:=osj h
  repeat (first|refine retS ?_|refine retB ?_)
  exact Fin.ret (vs:=[eL cI ([]:List Int),Bo false]) (.cons (.tmp rfl) (.cons (.tmp rfl) .nil)) (.tupL (.cons (.of_isF 9 _ rfl) (.cons (.of_isF 9 _ rfl) .nil)))
 ·refine T.skip (T.sr (oN mv (oN mv (oN (lf (.agg (ZEx.c x)) ty43 rfl) (oC h (fun _=>F_spec_l13Before_P _ _) rfl rfl rfl rfl fun v3 _ h=>oC h (fun _=>F_spec_l13Sort_P _ _) rfl rfl rfl rfl fun v4 _ h=>oN (EvN.ext (eL cI v4.1) rfl rfl) (oN (EvN.ext (Bo v4.2) rfl rfl) (oN as' (oN as' (TO.nil (T.ret ?_))))))))))
  obtain rfl:=osj h
  repeat (first|refine retS ?_|refine retB ?_)
  exact Fin.ret (vs:=[eL cI v4.1,Bo v4.2]) (.cons (.tmp rfl) (.cons (.tmp rfl) .nil)) (.tupL (.cons (.of_isF 9 _ rfl) (.cons (.of_isF 9 _ rfl) .nil)))
end Go.Proofs.Ytlmjnhnpahicmaa
