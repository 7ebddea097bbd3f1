/-
 The program's code computes the functions over plain values; printed by lift.py. No conditions.
-/
import Derived.Test.YtlgfihlflchhgaaS34d
import Derived.Test.YtlgfihlflchhgaaSf
import Derived.Test.YtlgfihlflchhgaaGH
import Derived.Test.YtlgfihlflchhgaaBrDi
import Derived.Test.YtlgfihlflchhgaaBrDs
import Derived.Test.YtlgfihlflchhgaaMu2
import Derived.Test.YtlgfihlflchhgaaSM1
import Derived.Test.YtlgfihlflchhgaaSP1
import Derived.Test.YtlgfihlflchhgaaSQ1
import Derived.Test.YtlgfihlflchhgaaSR1
namespace Go.Proofs.Ytlgfihlflchhgaa
open Go.RowKit
set_option maxRecDepth 100000
theorem F_spec_l12Two_P (code:List Int) {q:(List (List ZIn))×Int×Int} (h:F_spec_l12Two code=some q):PCall Try.prog 15 [eL cY code] (.tup [eL (cL ZIn.c) q.1,I q.2.1,I q.2.2]):=by
 refine pM Try.func15 rfl (by kernel_rfl) rfl (T.sr (oN as' (oN as' (oN as' (TO.nil (T.sr (oN mv (jB h fun v1 cv1 h=>oA (EvA.call rfl rfl rfl ((F_spec_l17Open_P code cv1).fresh rfl (rowsF_row rfl) 0 rfl)) (oN as' (TO.nil (T.sr (oN mv (oN mv (jB h fun v2 cv2 h => ?_))))))))))))))
 refine oA (EvA.call rfl rfl rfl ((F_spec_l8Small_P (⟨v1.b,v1.p⟩:Xspec_l17Rd) 0 cv2).one 0 rfl (.cons (.hp rfl) .nil) (rowsF_row rfl) (rowsF_row rfl) rfl)) (jB h fun v3 cv3 h=>oA (EvA.call rfl rfl rfl ((F_spec_l1Mutate_P (⟨v2.1.b,v2.1.p⟩:Xspec_l17Rd) v2.2 0 cv3).one 0 rfl (.cons (.hp rfl) (.cons (.pF rfl) .nil)) (rowsF_row rfl) (rowsF_row rfl) rfl)) (oN as' (TO.nil (T.sr (oN mv (oN mv (oN (EvN.mkF (c:=cI) ([(0:Int),(1:Int),(0:Int),(2:Int),(-1:Int)]:List Int) [[I (0:Int)],[I (1:Int)],[I (0:Int)],[I (2:Int)],[I (-1:Int)]] sl63 rfl rfl rfl (fun _=>rfl) (fun _=>rfl) rfl) (jB h fun v4 cv4 h=>oA (EvA.call rfl rfl rfl ((F_spec_l17Rd_num_P (⟨v3.1.b,v3.1.p⟩:Xspec_l17Rd) ([(0:Int),(1:Int),(0:Int),(2:Int),(-1:Int)]:List Int) 0 cv4).one 0 rfl (.cons (.hp rfl) (.cons (.pF rfl) .nil)) (rowsF_row rfl) (rowsF_row rfl) rfl)) (oN mv (oN (EvN.mkF (c:=cI) ([(1:Int),(0:Int),(2:Int),(3:Int)]:List Int) [[I (1:Int)],[I (0:Int)],[I (2:Int)],[I (3:Int)]] sl63 rfl rfl rfl (fun _=>rfl) (fun _=>rfl) rfl) (jB h fun v5 cv5 h=>oA (EvA.call rfl rfl rfl ((F_spec_l17Rd_num_P (⟨v4.1.b,v4.1.p⟩:Xspec_l17Rd) ([(1:Int),(0:Int),(2:Int),(3:Int)]:List Int) 0 cv5).one 0 rfl (.cons (.hp rfl) (.cons (.pF rfl) .nil)) (rowsF_row rfl) (rowsF_row rfl) rfl)) (oN as' ?_))))))))))))
 refine oN as' (oN as' (TO.nil (T.ret ?_)))
 obtain rfl:=osj h
 repeat (first|refine retS ?_|refine retB ?_)
 exact Fin.ret (vs:=[eL (cL ZIn.c) v3.2,I v4.2,I v5.2]) (.cons (.tmp rfl) (.cons (.tmp rfl) (.cons (.tmp rfl) .nil))) (.tupL (.cons (.of_isF 9 _ rfl) (.cons (.of_isF 9 _ rfl) (.cons (.of_isF 9 _ rfl) .nil))))
theorem F_spec_DrawDropThread_P (code:List Int) {q:(List (List ZIn))×Int} (h:F_spec_DrawDropThread code=some q):PCall Try.prog 5 [eL cY code] (.tup [eL (cL ZIn.c) q.1,I q.2]):=by
 refine pM Try.func5 rfl (by kernel_rfl) rfl (T.sr (oN as' (oN as' (TO.nil (T.sr (oN mv (oC h (fun _=>F_spec_l12Two_P _) rfl rfl rfl rfl fun v1 _ h=>oN mv (oN (EvN.ext (eL (cL ZIn.c) v1.1) rfl rfl) (oN (EvN.ext (I v1.2.1) rfl rfl) (oN (EvN.ext (I v1.2.2) rfl rfl) (oN as' (oN as' (oN as' (TO.nil ?_))))))))))))))
 refine T.sr (oN mv (oN mv (oN as' (oN as' (TO.nil (T.ret ?_))))))
 obtain rfl:=osj h
 repeat (first|refine retS ?_|refine retB ?_)
 exact Fin.ret (vs:=[eL (cL ZIn.c) v1.1,I v1.2.1]) (.cons (.tmp rfl) (.cons (.tmp rfl) .nil)) (.tupL (.cons (.of_isF 9 _ rfl) (.cons (.of_isF 9 _ rfl) .nil)))
set_option maxHeartbeats 4000000 in
theorem F_laws_FnDropThread_P (code:List Int) {q:Bool} (h:F_laws_FnDropThread code=some q):PCall Try.prog 3 [eL cY code] (Bo q):=by
 refine pM Try.func3 rfl (by kernel_rfl) rfl (T.sr (oN as' (TO.nil (T.seq (T.sr (oN mv (oN (EvN.lenL sl22 rfl) (oN (EvN.igt rfl rfl) (TO.nil ?_)))))))))
 refine T.ifH rfl h (fun q1 h => ?_) (fun q1 h => ?_)
 ·refine T.sr (oN as' (TO.nil (T.ret ?_)))
  obtain rfl:=osj h
  exact finR rfl rfl rfl
 ·refine T.skip (T.sr (oN mv (oC h (fun _=>F_spec_DrawDropThread_P _) rfl rfl rfl rfl fun v2 _ h=>oN mv (oN (EvN.ext (eL (cL ZIn.c) v2.1) rfl rfl) (oN (EvN.ext (I v2.2) rfl rfl) (oN as' (oN as' (TO.nil (T.sr (oN mv (oN mv (oC h (fun _=>F_impl_DropThread_P _ _) rfl rfl rfl rfl fun v3 _ h=>oN mv (oN (EvN.ext (eL (cL ZIn.c) v3.1) rfl rfl) ?_)))))))))))))
  refine oN (EvN.ext (Bo v3.2) rfl rfl) (oN as' (oN as' (TO.nil (T.seq (T.clean (H0:=[]) (e0:=envOf [(6,Bo v3.2),(5,eL (cL ZIn.c) v3.1),(4,I v2.2),(3,eL (cL ZIn.c) v2.1)]) rfl (wkC rfl (wkC rfl (wkC rfl (wkC rfl wkN)))) (T.region (oN mv (oN mv (oC h (fun _=>F_spec_DropThread_P _ _) rfl rfl rfl rfl fun v4 _ h=>oN mv (oN (EvN.ext (eL (cL ZIn.c) v4.1) rfl rfl) (oN (EvN.ext (Bo v4.2) rfl rfl) (oN as' (oN as' (TO.nil ?_))))))))))))))
  refine T.seq (T.sr (oN mv (oN mv (oN (EvN.bne bt4 rfl rfl) (oN mv ?_)))))
  refine TO.jB h 5 (fun s5=>[(41,Bo s5),(8,Bo v4.2),(7,eL (cL ZIn.c) v4.1),(6,Bo v3.2),(5,eL (cL ZIn.c) v3.1),(4,I v2.2),(3,eL (cL ZIn.c) v2.1)]) (fun s5=>[]) (fun s5 q6 h js5 => ?_) (fun s5 q6 h js5 => ?_) (fun s5 h => ?_)
  ·refine gS rfl q6 (gS rfl q6 (gS rfl q6 (gS rfl q6 (oN (EvN.pickT rfl q6 (Bo true) rfl) ?_))))
   obtain rfl:=osj h
   exact js5 _ _ (kw rfl rfl)
  ·refine gN rfl q6 mv (gN rfl q6 mv (jB h fun v7 cv7 h=>gN rfl q6 (EvN.call rfl rfl rfl (F_impl_ProgramSame_P v3.1 v4.1 cv7) rfl) (gN rfl q6 (EvN.not rfl) (oN (EvN.pickF rfl q6 (Bo (!v7)) rfl) ?_))))
   obtain rfl:=osj h
   exact js5 _ _ (kw rfl rfl)
  ·refine oN mv ?_
   refine TO.jB h 3 (fun s8=>[(45,Bo s8),(8,Bo v4.2),(7,eL (cL ZIn.c) v4.1),(6,Bo v3.2),(5,eL (cL ZIn.c) v3.1),(4,I v2.2),(3,eL (cL ZIn.c) v2.1)]) (fun s8=>[]) (fun s8 q9 h js8 => ?_) (fun s8 q9 h js8 => ?_) (fun s8 h => ?_)
   ·refine gS rfl q9 (gS rfl q9 (oN (EvN.pickT rfl q9 (Bo true) rfl) ?_))
    obtain rfl:=osj h
    exact js8 _ _ (kw rfl rfl)
   ·refine gN rfl q9 mv (gN rfl q9 (EvN.not rfl) (oN (EvN.pickF rfl q9 (Bo (!v3.2)) rfl) ?_))
    obtain rfl:=osj h
    exact js8 _ _ (kw rfl rfl)
   ·refine TO.nil ?_
    refine T.ifH rfl h (fun q10 h => ?_) (fun q10 h => ?_)
    ·refine T.sr (oN mv (oN mv (oN (EvN.beq bt4 rfl rfl) (oN mv ?_))))
     refine TO.jB h 4 (fun s11=>[(53,Bo s11)]) (fun s11=>[]) (fun s11 q12 h js11 => ?_) (fun s11 q12 h js11 => ?_) (fun s11 h => ?_)
     ·refine gN rfl q12 mv (gN rfl q12 mv (jB h fun v13 cv13 h=>gN rfl q12 (EvN.call rfl rfl rfl (F_impl_ProgramSame_P v3.1 v4.1 cv13) rfl) (oN (EvN.pickT rfl q12 (Bo v13) rfl) ?_)))
      obtain rfl:=osj h
      exact js11 _ _ (kw rfl rfl)
     ·refine gS rfl q12 (gS rfl q12 (gS rfl q12 (oN (EvN.pickF rfl q12 (Bo false) rfl) ?_)))
      obtain rfl:=osj h
      exact js11 _ _ (kw rfl rfl)
     ·refine oN as' (TO.nil (T.ret ?_))
      obtain rfl:=osj h
      exact finR rfl rfl rfl
    ·refine T.skip (T.sr (oN mv (oC h (fun _=>F_impl_RunSeq_P _) rfl rfl rfl rfl fun v14 _ h=>oN as' (TO.nil (T.sr (oN mv (oC h (fun _=>F_impl_RunSeq_P _) rfl rfl rfl rfl fun v15 _ h=>oN as' (TO.nil (T.sr (oN as' (TO.nil ?_)))))))))))
     refine T.jU h (fun s16=>[(11,Bo s16),(10,eL (cL cI) v15),(9,eL (cL cI) v14),(5,eL (cL ZIn.c) v3.1),(3,eL (cL ZIn.c) v2.1)]) (fun s16=>[]) (fun s16 h => ?_) (fun s16 h => ?_)
     ·refine T.sr (oN mv (oN (EvN.lenL sl23 rfl) (oN mv (oN (EvN.lenL sl23 rfl) (jW h fun g29 h=>oN (EvN.sub rfl rfl g29) (oN (EvN.ieq rfl rfl) (oN mv ?_)))))))
      refine TO.jB h 10 (fun s30=>[(106,Bo s30)]) (fun s30=>[]) (fun s30 q31 h js30 => ?_) (fun s30 q31 h js30 => ?_) (fun s30 h => ?_)
      ·refine gN rfl q31 mv (gN rfl q31 (EvN.not rfl) (gN rfl q31 mv ?_))
       refine TO.jB h 6 (fun s32=>[(105,Bo s32),(96,Bo ((v3.1.length:Int)==((v2.1.length:Int)-(1:Int))))]) (fun s32=>[]) (fun s32 q33 h js32 => ?_) (fun s32 q33 h js32 => ?_) (fun s32 h => ?_)
       ·refine gS rfl q33 (gS rfl q33 (gS rfl q33 (gS rfl q33 (gS rfl q33 (gN rfl q31 (EvN.pickT rfl q33 (Bo true) rfl) ?_)))))
        obtain rfl:=osj h
        exact js32 _ _ (kw rfl rfl)
       ·refine gN rfl q33 mv (gN rfl q33 (EvN.lenL sl29 rfl) (gN rfl q33 mv (gN rfl q33 (EvN.lenL sl29 rfl) (gN rfl q33 (EvN.ile rfl rfl) (gN rfl q31 (EvN.pickF rfl q33 (Bo (decide ((v15.length:Int)<=(v14.length:Int)))) rfl) ?_)))))
        obtain rfl:=osj h
        exact js32 _ _ (kw rfl rfl)
       ·refine oN (EvN.pickT rfl q31 (Bo s32) rfl) ?_
        obtain rfl:=osj h
        exact js30 _ _ (kw rfl rfl)
      ·refine gS rfl q31 (gS rfl q31 (gS rfl q31 (gU rfl (gU rfl (gU rfl (gU rfl (gU rfl (gS rfl q31 (oN (EvN.pickF rfl q31 (Bo false) rfl) ?_)))))))))
       obtain rfl:=osj h
       exact js30 _ _ (kw rfl rfl)
      ·refine oN as' (TO.nil (T.ret ?_))
       obtain rfl:=osj h
       exact finR rfl rfl rfl
     ·refine T.sr (oN as' (TO.nil (T.block ?_)))
      refine T.lU h (fun s19=>[(12,I s19.1),(11,Bo s19.2),(10,eL (cL cI) v15),(9,eL (cL cI) v14),(5,eL (cL ZIn.c) v3.1),(4,I v2.2),(3,eL (cL ZIn.c) v2.1)]) (fun s19=>[]) (kw rfl rfl) (fun s19 ws19 h => ?_)
      refine T.seq (T.sr (oN mv (oN mv (oN mv (jD h fun g21 h=>oN (EvN.ixL sl23 rfl rfl g21 (fun _=>rfl)) (oN (lf (eL ZIn.c (v2.1.getD v2.2.toNat default)) ty31 rfl) (oN (EvN.lenL sl31 rfl) (oN (EvN.ilt rfl rfl) (TO.nil ?_)))))))))
      refine T.ifH rfl h (fun q22 h => ?_) (fun q22 h => ?_)
      ·refine T.skip (T.seq (T.block (T.region (oN mv (oN mv ?_)))))
       refine TO.jB h 21 (fun s23=>[(89,Bo s23),(12,I s19.1),(10,eL (cL cI) v15),(9,eL (cL cI) v14),(5,eL (cL ZIn.c) v3.1),(4,I v2.2),(3,eL (cL ZIn.c) v2.1)]) (fun s23=>[]) (fun s23 q24 h js23 => ?_) (fun s23 q24 h js23 => ?_) (fun s23 h => ?_)
       ·refine gN rfl q24 mv (gN rfl q24 mv (gN rfl q24 (EvN.ixL sl23 rfl rfl g21 (fun _=>rfl)) (gN rfl q24 (lf (eL ZIn.c (v2.1.getD v2.2.toNat default)) ty31 rfl) (gN rfl q24 mv (jD h fun g25 h=>gN rfl q24 (EvN.ixL sl31 rfl rfl g25 (fun _=>rfl)) (gN rfl q24 (fa fs33 rfl) (gN rfl q24 (lf (I (((v2.1.getD v2.2.toNat default).getD s19.1.toNat default).Op)) ty3 rfl) (gN rfl q24 (EvN.ieq rfl rfl) (gN rfl q24 mv ?_)))))))))
        refine TO.jB h 10 (fun s26=>[(88,Bo s26),(78,Bo ((((v2.1.getD v2.2.toNat default).getD s19.1.toNat default).Op)==(1:Int))),(77,Bo ((((v2.1.getD v2.2.toNat default).getD s19.1.toNat default).Op)==(1:Int))),(76,I (((v2.1.getD v2.2.toNat default).getD s19.1.toNat default).Op)),(75,.fp (ZIn.c ((v2.1.getD v2.2.toNat default).getD s19.1.toNat default)) 0),(74,.fp (ZIn.c ((v2.1.getD v2.2.toNat default).getD s19.1.toNat default)) 0),(73,I s19.1),(72,eL ZIn.c (v2.1.getD v2.2.toNat default)),(71,.fp ((cL ZIn.c) (v2.1.getD v2.2.toNat default)) 0),(70,I v2.2),(69,eL (cL ZIn.c) v2.1),(68,Bo s19.2),(12,I s19.1),(10,eL (cL cI) v15),(9,eL (cL cI) v14),(5,eL (cL ZIn.c) v3.1),(4,I v2.2),(3,eL (cL ZIn.c) v2.1)]) (fun s26=>[]) (fun s26 q27 h js26 => ?_) (fun s26 q27 h js26 => ?_) (fun s26 h => ?_)
        ·refine gS rfl q27 (gS rfl q27 (gS rfl q27 (gS rfl q27 (gS rfl q27 (gS rfl q27 (gS rfl q27 (gS rfl q27 (gS rfl q27 (gN rfl q24 (EvN.pickT rfl q27 (Bo true) rfl) ?_)))))))))
         obtain rfl:=osj h
         exact js26 _ _ (kw rfl rfl)
        ·refine gN rfl q27 mv (gN rfl q27 mv (gN rfl q27 (EvN.ixL sl23 rfl rfl g21 (fun _=>rfl)) (gN rfl q27 (lf (eL ZIn.c (v2.1.getD v2.2.toNat default)) ty31 rfl) (gN rfl q27 mv (gN rfl q27 (EvN.ixL sl31 rfl rfl g25 (fun _=>rfl)) (gN rfl q27 (fa fs33 rfl) (gN rfl q27 (lf (I (((v2.1.getD v2.2.toNat default).getD s19.1.toNat default).Op)) ty3 rfl) (gN rfl q27 (EvN.ieq rfl rfl) (gN rfl q24 (EvN.pickF rfl q27 (Bo ((((v2.1.getD v2.2.toNat default).getD s19.1.toNat default).Op)==(4:Int))) rfl) ?_)))))))))
         obtain rfl:=osj h
         exact js26 _ _ (kw rfl rfl)
        ·refine oN (EvN.pickT rfl q24 (Bo s26) rfl) ?_
         obtain rfl:=osj h
         exact js23 _ _ (kw rfl rfl)
       ·refine gS rfl q24 (gS rfl q24 (gS rfl q24 (gS rfl q24 (gS rfl q24 (gS rfl q24 (gS rfl q24 (gS rfl q24 (gS rfl q24 (gS rfl q24 (gU rfl (gU rfl (gU rfl (gU rfl (gU rfl (gU rfl ?_)))))))))))))))
        refine gU rfl (gU rfl (gU rfl (gS rfl q24 (oN (EvN.pickF rfl q24 (Bo false) rfl) ?_))))
        obtain rfl:=osj h
        exact js23 _ _ (kw rfl rfl)
       ·refine oN as' (TO.nil (T.region (oN mv (jW h fun g28 h=>oN (EvN.add rfl rfl g28) (oN as' (TO.nil ?_))))))
        exact lE h (kw rfl rfl)
      ·refine T.exit (lX h fun h => ?_)
       obtain rfl:=osj h
       exact ⟨(),trivial,kw rfl rfl⟩
end Go.Proofs.Ytlgfihlflchhgaa
