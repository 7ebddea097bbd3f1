/-
 The program's code computes the functions over plain values; printed by lift.py. No conditions.
-/
import Derived.Test.YtlmjnhnpahicmaaS35d
import Derived.Test.YtlmjnhnpahicmaaSf
import Derived.Test.YtlmjnhnpahicmaaL15
import Derived.Test.YtlmjnhnpahicmaaGH
import Derived.Test.YtlmjnhnpahicmaaS262
import Derived.Test.YtlmjnhnpahicmaaS331
import Derived.Test.YtlmjnhnpahicmaaSD1
namespace Go.Proofs.Ytlmjnhnpahicmaa
open Go.RowKit
set_option maxRecDepth 100000
set_option maxHeartbeats 4000000 in
theorem F_laws_FnLeastSchedule_P (code:List Int) {q:Bool} (h:F_laws_FnLeastSchedule code=some q):PCall Try.prog 10 [eL cY code] (Bo q):=by
 refine pM Try.func10 rfl (by kernel_rfl) rfl (T.sr (oN as' (TO.nil (T.seq (T.sr (oN mv (oN (EvN.lenL sl52 rfl) (oN (EvN.igt rfl rfl) (TO.nil ?_)))))))))
 refine T.ifH rfl h (fun q1 h => ?_) (fun q1 h => ?_)
 ·refine T.sr (oN as' (TO.nil (T.ret ?_)))
  obtain rfl:=osj h
  exact finR rfl rfl rfl
 ·refine T.skip (T.sr (oN mv (oC h (fun _=>F_spec_DrawLeastSchedule_P _) rfl rfl rfl rfl fun v2 _ h=>oN mv (oN (EvN.ext (eL (cL ZIn.c) v2.1) rfl rfl) (oN (EvN.ext (eL cI v2.2) rfl rfl) (oN as' (oN as' (TO.nil (T.sr (oN mv (oN mv (oC h (fun _=>F_impl_LeastSchedule_P _ _) rfl rfl rfl rfl fun v3 _ h=>oN mv (oN (EvN.ext (eL cI v3.1) rfl rfl) ?_)))))))))))))
  refine oN (EvN.ext (Bo v3.2) rfl rfl) (oN as' (oN as' (TO.nil (T.seq (T.clean (H0:=[]) (e0:=envOf [(6,Bo v3.2),(5,eL cI v3.1),(4,eL cI v2.2),(3,eL (cL ZIn.c) v2.1)]) rfl (wkC rfl (wkC rfl (wkC rfl (wkC rfl wkN)))) (T.region (oN mv (oN mv (oC h (fun _=>F_spec_LeastSchedule_P _ _) rfl rfl rfl rfl fun v4 _ h=>oN mv (oN (EvN.ext (eL cI v4.1) rfl rfl) (oN (EvN.ext (Bo v4.2) rfl rfl) (oN as' (oN as' (TO.nil ?_))))))))))))))
  refine T.seq (T.sr (oN mv (oN mv (oN (EvN.bne bt4 rfl rfl) (oN mv ?_)))))
  refine TO.jB h 5 (fun s5=>[(42,Bo s5),(8,Bo v4.2),(7,eL cI v4.1),(6,Bo v3.2),(5,eL cI v3.1),(4,eL cI v2.2),(3,eL (cL ZIn.c) v2.1)]) (fun s5=>[]) (fun s5 q6 h js5 => ?_) (fun s5 q6 h js5 => ?_) (fun s5 h => ?_)
  ·refine gS rfl q6 (gS rfl q6 (gS rfl q6 (gS rfl q6 (oN (EvN.pickT rfl q6 (Bo true) rfl) ?_))))
   obtain rfl:=osj h
   exact js5 _ _ (kw rfl rfl)
  ·refine gN rfl q6 mv (gN rfl q6 mv (jB h fun v7 cv7 h=>gN rfl q6 (EvN.call rfl rfl rfl (F_laws_wmInts_P v3.1 v4.1 cv7) rfl) (gN rfl q6 (EvN.not rfl) (oN (EvN.pickF rfl q6 (Bo (!v7)) rfl) ?_))))
   obtain rfl:=osj h
   exact js5 _ _ (kw rfl rfl)
  ·refine oN mv ?_
   refine TO.jB h 3 (fun s8=>[(46,Bo s8),(8,Bo v4.2),(7,eL cI v4.1),(6,Bo v3.2),(5,eL cI v3.1),(4,eL cI v2.2),(3,eL (cL ZIn.c) v2.1)]) (fun s8=>[]) (fun s8 q9 h js8 => ?_) (fun s8 q9 h js8 => ?_) (fun s8 h => ?_)
   ·refine gS rfl q9 (gS rfl q9 (oN (EvN.pickT rfl q9 (Bo true) rfl) ?_))
    obtain rfl:=osj h
    exact js8 _ _ (kw rfl rfl)
   ·refine gN rfl q9 mv (gN rfl q9 (EvN.not rfl) (oN (EvN.pickF rfl q9 (Bo (!v3.2)) rfl) ?_))
    obtain rfl:=osj h
    exact js8 _ _ (kw rfl rfl)
   ·refine TO.nil ?_
    refine T.ifH rfl h (fun q10 h => ?_) (fun q10 h => ?_)
    ·refine T.sr (oN mv (oN mv (oN (EvN.beq bt4 rfl rfl) (oN mv ?_))))
     refine TO.jB h 4 (fun s11=>[(54,Bo s11)]) (fun s11=>[]) (fun s11 q12 h js11 => ?_) (fun s11 q12 h js11 => ?_) (fun s11 h => ?_)
     ·refine gN rfl q12 mv (gN rfl q12 mv (jB h fun v13 cv13 h=>gN rfl q12 (EvN.call rfl rfl rfl (F_laws_wmInts_P v3.1 v4.1 cv13) rfl) (oN (EvN.pickT rfl q12 (Bo v13) rfl) ?_)))
      obtain rfl:=osj h
      exact js11 _ _ (kw rfl rfl)
     ·refine gS rfl q12 (gS rfl q12 (gS rfl q12 (oN (EvN.pickF rfl q12 (Bo false) rfl) ?_)))
      obtain rfl:=osj h
      exact js11 _ _ (kw rfl rfl)
     ·refine oN as' (TO.nil (T.ret ?_))
      obtain rfl:=osj h
      exact finR rfl rfl rfl
    ·refine T.skip (T.sr (oN mv (oN mv (oC h (fun _=>F_impl_RunSchedule_P _ _) rfl rfl rfl rfl fun v14 _ h=>oN mv (oN (EvN.ext (eL cI v14.1) rfl rfl) (oN (EvN.ext (Bo v14.2) rfl rfl) (oN as' (oN as' (TO.nil (T.sr (oN mv (oN mv (oC h (fun _=>F_impl_RunSchedule_P _ _) rfl rfl rfl rfl fun v15 _ h=>oN mv ?_)))))))))))))
     refine oN (EvN.ext (eL cI v15.1) rfl rfl) (oN (EvN.ext (Bo v15.2) rfl rfl) (oN as' (oN as' (TO.nil (T.seq (T.clean (H0:=[]) (e0:=envOf [(12,Bo v15.2),(11,eL cI v15.1),(10,Bo v14.2),(9,eL cI v14.1),(5,eL cI v3.1),(4,eL cI v2.2),(3,eL (cL ZIn.c) v2.1)]) rfl (wkC rfl (wkC rfl (wkC rfl (wkC rfl (wkC rfl (wkC rfl (wkC rfl wkN))))))) (T.region (oN as' (TO.nil ?_)))))))))
     refine T.jU h (fun s16=>[(13,I s16),(12,Bo v15.2),(11,eL cI v15.1),(10,Bo v14.2),(9,eL cI v14.1),(5,eL cI v3.1),(4,eL cI v2.2),(3,eL (cL ZIn.c) v2.1)]) (fun s16=>[]) (fun s16 h => ?_) (fun s16 h => ?_)
     ·refine T.jU h (fun s28=>[(2,Bo s28)]) (fun s28=>[]) (fun s28 h => ?_) (fun s28 h => ?_)
      ·refine T.ret ?_
       obtain rfl:=osj h
       exact finR rfl rfl rfl
      ·refine T.drawG (fun _=>([],false)) (by kernel_rfl) (by kernel_rfl) (tN rfl mv (tN rfl mv ?_))
       rcases bifL h with ⟨q29,h⟩ | ⟨q29,h⟩
       ·refine tgN rfl q29 rfl mv (tN rfl (EvN.pickT rfl q29 (Bo v15.2) rfl) (tN rfl mv ?_))
        rcases bifL h with ⟨q30,h⟩ | ⟨q30,h⟩
        ·refine tgN rfl q30 rfl mv (tgN rfl q30 rfl mv (jB h fun v31 cv31 h=>tgN rfl q30 rfl (EvN.call rfl rfl rfl (F_laws_wmInts_P v14.1 v15.1 cv31) rfl) (tN rfl (EvN.pickT rfl q30 (Bo v31) rfl) (tN rfl mv ?_))))
         rcases bifL h with ⟨q32,h⟩ | ⟨q32,h⟩
         ·refine tgN rfl q32 rfl mv (tgN rfl q32 rfl mv (tgN rfl q32 rfl mv (jB h fun v33 cv33 h=>tgN rfl q32 rfl (EvN.call rfl rfl rfl (F_impl_SameTrace_P v2.1 v2.2 v3.1 cv33) rfl) (tN rfl (EvN.pickT rfl q32 (Bo v33) rfl) (tN rfl mv ?_)))))
          rcases bifL h with ⟨q34,h⟩ | ⟨q34,h⟩
          ·refine tgN rfl q34 rfl mv (tgN rfl q34 rfl mv (tgN rfl q34 rfl (EvN.lenL sl23 rfl) (tgN rfl q34 rfl (EvN.ieq rfl rfl) (tgN rfl q34 rfl mv ?_))))
           rcases bifL h with ⟨q35,h⟩ | ⟨q35,h⟩
           ·refine tgS rfl q35 (tgS rfl q35 (tgS rfl q35 (tgS rfl q35 (tgS rfl q35 (tgS rfl q35 (tgS rfl q35 (tgS rfl q35 (tgS rfl q35 (tgN rfl q34 rfl (EvN.pickT rfl q35 (Bo true) rfl) (tN rfl (EvN.pickT rfl q34 (Bo true) rfl) (tN rfl as' (TG.nil ?_))))))))))))
            obtain rfl:=osj h
            exact ⟨(),trivial,kw rfl rfl⟩
           ·refine tgN rfl q35 rfl mv (tgN rfl q35 rfl mv (jD h fun g36 h=>tgN rfl q35 rfl (EvN.ixL sl23 rfl rfl g36 (fun _=>rfl)) (tgN rfl q35 rfl (lf (I (v3.1.getD s16.toNat default)) ty3 rfl) (tgN rfl q35 rfl mv (tgN rfl q35 rfl mv (jD h fun g37 h=>tgN rfl q35 rfl (EvN.ixL sl23 rfl rfl g37 (fun _=>rfl)) (tgN rfl q35 rfl (lf (I (v2.2.getD s16.toNat default)) ty3 rfl) (tgN rfl q35 rfl (EvN.ilt rfl rfl) (tgN rfl q34 rfl (EvN.pickF rfl q35 (Bo (decide ((v3.1.getD s16.toNat default)<(v2.2.getD s16.toNat default)))) rfl) (tN rfl (EvN.pickT rfl q34 (Bo (decide ((v3.1.getD s16.toNat default)<(v2.2.getD s16.toNat default)))) rfl) (tN rfl as' (TG.nil ?_))))))))))))
            obtain rfl:=osj h
            exact ⟨(),trivial,kw rfl rfl⟩
          ·refine tgS rfl q34 (tgS rfl q34 (tgS rfl q34 (tgS rfl q34 (tgS rfl q34 (tgU rfl (tgU rfl (tgU rfl (tgU rfl (tgU rfl (tgU rfl (tgU rfl (tgU rfl (tgU rfl (tgS rfl q34 (tN rfl (EvN.pickF rfl q34 (Bo false) rfl) ?_)))))))))))))))
           refine tN rfl as' (TG.nil ?_)
           obtain rfl:=osj h
           exact ⟨(),trivial,kw rfl rfl⟩
         ·refine tgS rfl q32 (tgS rfl q32 (tgS rfl q32 (tgS rfl q32 (tN rfl (EvN.pickF rfl q32 (Bo false) rfl) (tN rfl mv (tgS rfl rfl (tgS rfl rfl (tgS rfl rfl (tgS rfl rfl (tgS rfl rfl (tgU rfl (tgU rfl (tgU rfl (tgU rfl (tgU rfl ?_)))))))))))))))
          refine tgU rfl (tgU rfl (tgU rfl (tgU rfl (tgS rfl rfl (tN rfl (EvN.pickF rfl rfl (Bo false) rfl) (tN rfl as' (TG.nil ?_)))))))
          obtain rfl:=osj h
          exact ⟨(),trivial,kw rfl rfl⟩
        ·refine tgS rfl q30 (tgS rfl q30 (tgS rfl q30 (tN rfl (EvN.pickF rfl q30 (Bo false) rfl) (tN rfl mv (tgS rfl rfl (tgS rfl rfl (tgS rfl rfl (tgS rfl rfl (tN rfl (EvN.pickF rfl rfl (Bo false) rfl) (tN rfl mv (tgS rfl rfl (tgS rfl rfl (tgS rfl rfl (tgS rfl rfl (tgS rfl rfl ?_)))))))))))))))
         refine tgU rfl (tgU rfl (tgU rfl (tgU rfl (tgU rfl (tgU rfl (tgU rfl (tgU rfl (tgU rfl (tgS rfl rfl (tN rfl (EvN.pickF rfl rfl (Bo false) rfl) (tN rfl as' (TG.nil ?_))))))))))))
         obtain rfl:=osj h
         exact ⟨(),trivial,kw rfl rfl⟩
       ·refine tgS rfl q29 (tN rfl (EvN.pickF rfl q29 (Bo false) rfl) (tN rfl mv (tgS rfl rfl (tgS rfl rfl (tgS rfl rfl (tN rfl (EvN.pickF rfl rfl (Bo false) rfl) (tN rfl mv (tgS rfl rfl (tgS rfl rfl (tgS rfl rfl (tgS rfl rfl (tN rfl (EvN.pickF rfl rfl (Bo false) rfl) (tN rfl mv (tgS rfl rfl (tgS rfl rfl ?_)))))))))))))))
        refine tgS rfl rfl (tgS rfl rfl (tgS rfl rfl (tgU rfl (tgU rfl (tgU rfl (tgU rfl (tgU rfl (tgU rfl (tgU rfl (tgU rfl (tgU rfl (tgS rfl rfl (tN rfl (EvN.pickF rfl rfl (Bo false) rfl) (tN rfl as' (TG.nil ?_)))))))))))))))
        obtain rfl:=osj h
        exact ⟨(),trivial,kw rfl rfl⟩
     ·refine T.block ?_
      refine T.lU h (fun s19=>[(13,I s19),(12,Bo v15.2),(11,eL cI v15.1),(10,Bo v14.2),(9,eL cI v14.1),(5,eL cI v3.1),(4,eL cI v2.2),(3,eL (cL ZIn.c) v2.1)]) (fun s19=>[]) (kw rfl rfl) (fun s19 ws19 h => ?_)
      obtain ⟨Ks21,es21,ws21,h,ks21⟩:=sumL h
      refine T.join (S:=Unit) (G:=Unit) (fun s21=>Ks21 s21=some ws19) (fun s21 gh=>True) (fun s21 gh=>[(13,I s19),(12,Bo v15.2),(11,eL cI v15.1),(10,Bo v14.2),(9,eL cI v14.1),(5,eL cI v3.1),(4,eL cI v2.2),(3,eL (cL ZIn.c) v2.1)]) (fun s21 gh=>[]) (fun s21 gh h hg => ?_) ?_
      ·clear ks21
       subst es21
       refine T.block (T.region (oN mv (jW h fun g27 h=>oN (EvN.add rfl rfl g27) (oN as' (TO.nil ?_)))))
       exact lE h (kw rfl rfl)
      ·refine T.jU h (fun s22=>[(81,Bo s22),(13,I s19),(12,Bo v15.2),(11,eL cI v15.1),(10,Bo v14.2),(9,eL cI v14.1),(5,eL cI v3.1),(4,eL cI v2.2),(3,eL (cL ZIn.c) v2.1)]) (fun s22=>[]) (fun s22 h => ?_) (fun s22 h => ?_)
       ·refine T.ifH rfl h (fun q26 h => ?_) (fun q26 h => ?_)
        ·refine T.skip ?_
         obtain rfl:=osj h
         exact ⟨(),(),ks21,trivial,kw rfl rfl⟩
        ·refine T.exit ?_
         obtain rfl:=osj h
         replace h:=congrArg some (show _=_ from ks21)
         refine lX h fun h => ?_
         obtain rfl:=osj h
         exact ⟨(),trivial,kw rfl rfl⟩
       ·refine T.drawG (fun _=>([],false)) (by kernel_rfl) (by kernel_rfl) (tN rfl mv (tN rfl mv (tN rfl (EvN.lenL sl23 rfl) (tN rfl (EvN.ilt rfl rfl) (tN rfl mv ?_)))))
        rcases bifL h with ⟨q23,h⟩ | ⟨q23,h⟩
        ·refine tgN rfl q23 rfl mv (tgN rfl q23 rfl mv (jD h fun g24 h=>tgN rfl q23 rfl (EvN.ixL sl23 rfl rfl g24 (fun _=>rfl)) (tgN rfl q23 rfl (lf (I (v3.1.getD s19.toNat default)) ty3 rfl) (tgN rfl q23 rfl mv (tgN rfl q23 rfl mv (jD h fun g25 h=>tgN rfl q23 rfl (EvN.ixL sl23 rfl rfl g25 (fun _=>rfl)) (tgN rfl q23 rfl (lf (I (v2.2.getD s19.toNat default)) ty3 rfl) (tgN rfl q23 rfl (EvN.ieq rfl rfl) (tN rfl (EvN.pickT rfl q23 (Bo ((v3.1.getD s19.toNat default)==(v2.2.getD s19.toNat default))) rfl) (TG.nil ?_))))))))))
         obtain rfl:=osj h
         exact ⟨(),trivial,kw rfl rfl⟩
        ·refine tgS rfl q23 (tgS rfl q23 (tgS rfl q23 (tgS rfl q23 (tgS rfl q23 (tgS rfl q23 (tgS rfl q23 (tgS rfl q23 (tgS rfl q23 (tN rfl (EvN.pickF rfl q23 (Bo false) rfl) (TG.nil ?_))))))))))
         obtain rfl:=osj h
         exact ⟨(),trivial,kw rfl rfl⟩
end Go.Proofs.Ytlmjnhnpahicmaa
