/-
 The program's code computes the functions over plain values; printed by lift.py. No conditions.
-/
import Derived.Test.YtlmjnhnpahicmaaS32d
import Derived.Test.YtlmjnhnpahicmaaSf
import Derived.Test.YtlmjnhnpahicmaaGH
import Derived.Test.YtlmjnhnpahicmaaS262
import Derived.Test.YtlmjnhnpahicmaaS331
import Derived.Test.YtlmjnhnpahicmaaSD1
namespace Go.Proofs.Ytlmjnhnpahicmaa
open Go.RowKit
set_option maxRecDepth 100000
set_option maxHeartbeats 4000000 in
theorem F_laws_FnSameTrace_P (code:List Int) {q:Bool} (h:F_laws_FnSameTrace code=some q):PCall Try.prog 9 [eL cY code] (Bo q):=by
 refine pM Try.func9 rfl (by kernel_rfl) rfl (T.sr (oN as' (TO.nil (T.seq (T.sr (oN mv (oN (EvN.lenL sl52 rfl) (oN (EvN.igt rfl rfl) (TO.nil ?_)))))))))
 refine T.ifH rfl h (fun q1 h => ?_) (fun q1 h => ?_)
 ·refine T.sr (oN as' (TO.nil (T.ret ?_)))
  obtain rfl:=osj h
  exact finR rfl rfl rfl
 ·refine T.skip (T.sr (oN mv (oC h (fun _=>F_spec_DrawSameTrace_P _) rfl rfl rfl rfl fun v2 _ h=>oN mv (oN (EvN.ext (eL (cL ZIn.c) v2.1) rfl rfl) (oN (EvN.ext (eL cI v2.2.1) rfl rfl) (oN (EvN.ext (eL cI v2.2.2) rfl rfl) (oN as' (oN as' (oN as' (TO.nil (T.sr (oN mv (oN mv (oN mv ?_))))))))))))))
  refine oC h (fun _=>F_impl_SameTrace_P _ _ _) rfl rfl rfl rfl fun v3 _ h=>oN as' (TO.nil (T.seq (T.sr (oN mv (oN mv (oN mv (oN mv (oC h (fun _=>F_spec_SameTrace_P _ _ _) rfl rfl rfl rfl fun v4 _ h=>oN (EvN.bne bt4 rfl rfl) (oN mv ?_)))))))))
  refine TO.jB h 7 (fun s5=>[(41,Bo s5),(6,Bo v3),(5,eL cI v2.2.2),(4,eL cI v2.2.1),(3,eL (cL ZIn.c) v2.1)]) (fun s5=>[]) (fun s5 q6 h js5 => ?_) (fun s5 q6 h js5 => ?_) (fun s5 h => ?_)
  ·refine gS rfl q6 (gS rfl q6 (gS rfl q6 (gS rfl q6 (gS rfl q6 (gS rfl q6 (oN (EvN.pickT rfl q6 (Bo true) rfl) ?_))))))
   obtain rfl:=osj h
   exact js5 _ _ (kw rfl rfl)
  ·refine gN rfl q6 mv (gN rfl q6 mv (gN rfl q6 mv (gN rfl q6 mv (jB h fun v7 cv7 h=>gN rfl q6 (EvN.call rfl rfl rfl (F_impl_SameTrace_P v2.1 v2.2.2 v2.2.1 cv7) rfl) (gN rfl q6 (EvN.bne bt4 rfl rfl) (oN (EvN.pickF rfl q6 (Bo (!(v3==v7))) rfl) ?_))))))
   obtain rfl:=osj h
   exact js5 _ _ (kw rfl rfl)
  ·refine oN mv ?_
   refine TO.jB h 3 (fun s8=>[(45,Bo s8),(6,Bo v3),(5,eL cI v2.2.2),(4,eL cI v2.2.1),(3,eL (cL ZIn.c) v2.1)]) (fun s8=>[]) (fun s8 q9 h js8 => ?_) (fun s8 q9 h js8 => ?_) (fun s8 h => ?_)
   ·refine gS rfl q9 (gS rfl q9 (oN (EvN.pickT rfl q9 (Bo true) rfl) ?_))
    obtain rfl:=osj h
    exact js8 _ _ (kw rfl rfl)
   ·refine gN rfl q9 mv (gN rfl q9 (EvN.not rfl) (oN (EvN.pickF rfl q9 (Bo (!v3)) rfl) ?_))
    obtain rfl:=osj h
    exact js8 _ _ (kw rfl rfl)
   ·refine TO.nil ?_
    refine T.ifH rfl h (fun q10 h => ?_) (fun q10 h => ?_)
    ·refine T.sr (oN mv (oN mv (oN mv (oN mv (oC h (fun _=>F_spec_SameTrace_P _ _ _) rfl rfl rfl rfl fun v11 _ h=>oN (EvN.beq bt4 rfl rfl) (oN mv ?_))))))
     refine TO.jB h 7 (fun s12=>[(59,Bo s12)]) (fun s12=>[]) (fun s12 q13 h js12 => ?_) (fun s12 q13 h js12 => ?_) (fun s12 h => ?_)
     ·refine gN rfl q13 mv (gN rfl q13 mv (gN rfl q13 mv (gN rfl q13 mv (jB h fun v14 cv14 h=>gN rfl q13 (EvN.call rfl rfl rfl (F_impl_SameTrace_P v2.1 v2.2.2 v2.2.1 cv14) rfl) (gN rfl q13 (EvN.beq bt4 rfl rfl) (oN (EvN.pickT rfl q13 (Bo (v3==v14)) rfl) ?_))))))
      obtain rfl:=osj h
      exact js12 _ _ (kw rfl rfl)
     ·refine gS rfl q13 (gS rfl q13 (gS rfl q13 (gS rfl q13 (gS rfl q13 (gS rfl q13 (oN (EvN.pickF rfl q13 (Bo false) rfl) ?_))))))
      obtain rfl:=osj h
      exact js12 _ _ (kw rfl rfl)
     ·refine oN as' (TO.nil (T.ret ?_))
      obtain rfl:=osj h
      exact finR rfl rfl rfl
    ·refine T.skip (T.sr (oN mv (oN mv (oC h (fun _=>F_impl_LeastSchedule_P _ _) rfl rfl rfl rfl fun v15 _ h=>oN mv (oN (EvN.ext (eL cI v15.1) rfl rfl) (oN (EvN.ext (Bo v15.2) rfl rfl) (oN as' (oN as' (TO.nil (T.sr (oN mv (oN mv (oC h (fun _=>F_impl_LeastSchedule_P _ _) rfl rfl rfl rfl fun v16 _ h=>oN mv ?_)))))))))))))
     refine oN (EvN.ext (eL cI v16.1) rfl rfl) (oN (EvN.ext (Bo v16.2) rfl rfl) (oN as' (oN as' (TO.nil (T.sr (oN mv (oN mv (oC h (fun _=>F_impl_RunSchedule_P _ _) rfl rfl rfl rfl fun v17 _ h=>oN mv (oN (EvN.ext (eL cI v17.1) rfl rfl) (oN (EvN.ext (Bo v17.2) rfl rfl) (oN as' (oN as' (TO.nil (T.seq ?_))))))))))))))
     refine T.clean (H0:=[]) (e0:=envOf [(12,Bo v17.2),(11,eL cI v17.1),(10,Bo v16.2),(9,eL cI v16.1),(8,Bo v15.2),(7,eL cI v15.1),(5,eL cI v2.2.2),(3,eL (cL ZIn.c) v2.1)]) rfl (wkC rfl (wkC rfl (wkC rfl (wkC rfl (wkC rfl (wkC rfl (wkC rfl (wkC rfl wkN)))))))) (T.region (oN mv (oN mv (oC h (fun _=>F_impl_RunSchedule_P _ _) rfl rfl rfl rfl fun v18 _ h=>oN mv (oN (EvN.ext (eL cI v18.1) rfl rfl) (oN (EvN.ext (Bo v18.2) rfl rfl) (oN as' (oN as' (TO.nil (T.sr (oN mv (oN mv ?_))))))))))))
     refine TO.jB h 2 (fun s19=>[(87,Bo s19),(14,Bo v18.2),(13,eL cI v18.1),(12,Bo v17.2),(11,eL cI v17.1),(9,eL cI v16.1),(7,eL cI v15.1)]) (fun s19=>[]) (fun s19 q20 h js19 => ?_) (fun s19 q20 h js19 => ?_) (fun s19 h => ?_)
     ·refine gN rfl q20 mv (oN (EvN.pickT rfl q20 (Bo v16.2) rfl) ?_)
      obtain rfl:=osj h
      exact js19 _ _ (kw rfl rfl)
     ·refine gS rfl q20 (oN (EvN.pickF rfl q20 (Bo false) rfl) ?_)
      obtain rfl:=osj h
      exact js19 _ _ (kw rfl rfl)
     ·refine oN mv ?_
      refine TO.jB h 4 (fun s21=>[(92,Bo s21),(14,Bo v18.2),(13,eL cI v18.1),(12,Bo v17.2),(11,eL cI v17.1)]) (fun s21=>[]) (fun s21 q22 h js21 => ?_) (fun s21 q22 h js21 => ?_) (fun s21 h => ?_)
      ·refine gN rfl q22 mv (gN rfl q22 mv (jB h fun v23 cv23 h=>gN rfl q22 (EvN.call rfl rfl rfl (F_laws_wmInts_P v15.1 v16.1 cv23) rfl) (oN (EvN.pickT rfl q22 (Bo v23) rfl) ?_)))
       obtain rfl:=osj h
       exact js21 _ _ (kw rfl rfl)
      ·refine gS rfl q22 (gS rfl q22 (gS rfl q22 (oN (EvN.pickF rfl q22 (Bo false) rfl) ?_)))
       obtain rfl:=osj h
       exact js21 _ _ (kw rfl rfl)
      ·refine oN mv ?_
       refine TO.jB h 2 (fun s24=>[(95,Bo s24),(14,Bo v18.2),(13,eL cI v18.1),(11,eL cI v17.1)]) (fun s24=>[]) (fun s24 q25 h js24 => ?_) (fun s24 q25 h js24 => ?_) (fun s24 h => ?_)
       ·refine gN rfl q25 mv (oN (EvN.pickT rfl q25 (Bo v17.2) rfl) ?_)
        obtain rfl:=osj h
        exact js24 _ _ (kw rfl rfl)
       ·refine gS rfl q25 (oN (EvN.pickF rfl q25 (Bo false) rfl) ?_)
        obtain rfl:=osj h
        exact js24 _ _ (kw rfl rfl)
       ·refine oN mv ?_
        refine TO.jB h 2 (fun s26=>[(98,Bo s26),(13,eL cI v18.1),(11,eL cI v17.1)]) (fun s26=>[]) (fun s26 q27 h js26 => ?_) (fun s26 q27 h js26 => ?_) (fun s26 h => ?_)
        ·refine gN rfl q27 mv (oN (EvN.pickT rfl q27 (Bo v18.2) rfl) ?_)
         obtain rfl:=osj h
         exact js26 _ _ (kw rfl rfl)
        ·refine gS rfl q27 (oN (EvN.pickF rfl q27 (Bo false) rfl) ?_)
         obtain rfl:=osj h
         exact js26 _ _ (kw rfl rfl)
        ·refine oN mv ?_
         refine TO.jB h 4 (fun s28=>[(103,Bo s28)]) (fun s28=>[]) (fun s28 q29 h js28 => ?_) (fun s28 q29 h js28 => ?_) (fun s28 h => ?_)
         ·refine gN rfl q29 mv (gN rfl q29 mv (jB h fun v30 cv30 h=>gN rfl q29 (EvN.call rfl rfl rfl (F_laws_wmInts_P v17.1 v18.1 cv30) rfl) (oN (EvN.pickT rfl q29 (Bo v30) rfl) ?_)))
          obtain rfl:=osj h
          exact js28 _ _ (kw rfl rfl)
         ·refine gS rfl q29 (gS rfl q29 (gS rfl q29 (oN (EvN.pickF rfl q29 (Bo false) rfl) ?_)))
          obtain rfl:=osj h
          exact js28 _ _ (kw rfl rfl)
         ·refine oN as' (TO.nil (T.ret ?_))
          obtain rfl:=osj h
          exact finR rfl rfl rfl
end Go.Proofs.Ytlmjnhnpahicmaa
