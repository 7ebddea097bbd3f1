/-
 The program's code computes the functions over plain values; printed by lift.py. No conditions.
-/
import Derived.Test.YtlmjnhnpahicmaaSMd
import Derived.Test.YtlmjnhnpahicmaaSf
import Derived.Test.YtlmjnhnpahicmaaGH
import Derived.Test.YtlmjnhnpahicmaaBrV
namespace Go.Proofs.Ytlmjnhnpahicmaa
open Go.RowKit
set_option maxRecDepth 100000
theorem F_slices_Index_int_int_P (s:List Int) (v:Int) {q:Int} (h:F_slices_Index_int_int s v=some q):PCall Try.prog 148 [eL cI s,I v] (I q):=by
 refine pM Try.func148 rfl (by kernel_rfl) rfl (T.sr (oN as' (TO.nil ?_)))
 obtain ⟨Ks1,es1,ws1,h,ks1⟩:=sumL h
 refine T.join (S:=Unit) (G:=Unit) (fun s1=>Ks1 s1=some q) (fun s1 gh=>True) (fun s1 gh=>[]) (fun s1 gh=>[]) (fun s1 gh h hg => ?_) ?_
 ·clear ks1
  subst es1
  refine T.sr (oN as' (TO.nil (T.ret ?_)))
  obtain rfl:=osj h
  exact finR rfl rfl rfl
 ·refine T.sr (oN mv (oN (EvN.lenL sl23 rfl) (oN mv (TO.nil (T.block ?_)))))
  refine T.lU h (fun s4=>[(8,I s4),(7,I (s.length:Int)),(0,eL cI s),(1,I v)]) (fun s4=>[]) (kw rfl rfl) (fun s4 ws4 h => ?_)
  refine T.sr (oN (EvN.ilt rfl rfl) (TO.nil (T.seq ?_)))
  refine T.ifH rfl h (fun q6 h => ?_) (fun q6 h => ?_)
  ·refine T.skip (T.seq (T.block (T.sr (oN mv (oN as' (TO.nil (T.sr (oN mv (oN mv (oN mv (jD h fun g7 h=>oN (EvN.ixL sl23 rfl rfl g7 (fun _=>rfl)) (oN (lf (I (s.getD s4.toNat default)) ty3 rfl) (oN (EvN.ieq rfl rfl) (TO.nil ?_))))))))))))))
   refine T.ifH rfl h (fun q8 h => ?_) (fun q8 h => ?_)
   ·refine T.sr (oN mv (oN as' (TO.nil (T.ret (lX h fun h => ?_)))))
    obtain rfl:=osj h
    replace h:=congrArg some (show _=_ from ks1)
    obtain rfl:=osj h
    exact finR rfl rfl rfl
   ·refine T.skip (T.region (jW h fun g9 h=>oN (EvN.add rfl rfl g9) (oN mv (TO.nil ?_))))
    exact lE h (kw rfl rfl)
  ·refine T.exit (lX h fun h => ?_)
   obtain rfl:=osj h
   exact ⟨(),(),ks1,trivial,kw rfl rfl⟩
theorem F_slices_Contains_int_int_P (s:List Int) (v:Int) {q:Bool} (h:F_slices_Contains_int_int s v=some q):PCall Try.prog 111 [eL cI s,I v] (Bo q):=by
 refine pM Try.func111 rfl (by kernel_rfl) rfl (T.sr (oN as' (TO.nil (T.sr (oN mv (oN mv (oC h (fun _=>F_slices_Index_int_int_P _ _) rfl rfl rfl rfl fun v1 _ h=>oN (EvN.ige rfl rfl) (oN as' (TO.nil (T.ret ?_))))))))))
 obtain rfl:=osj h
 exact finR rfl rfl rfl
theorem F_impl_Instr_reads_P (x:ZIn) {q:Bool} (h:F_impl_Instr_reads x=some q):PCall Try.prog 122 [.agg (ZIn.c x)] (Bo q):=by
 refine pM Try.func122 rfl (by kernel_rfl) rfl (T.sr (oN (EvN.bxF (ZIn.c x) rfl rfl rfl) (oN as' (TO.nil (T.sr (oN (fa fs56 rfl) (oN (lf (I x.Op) ty3 rfl) (oN (EvN.ieq rfl rfl) (oN mv ?_)))))))))
 refine TO.jB h 4 (fun s1=>[(10,Bo s1)]) (fun s1=>[]) (fun s1 q2 h js1 => ?_) (fun s1 q2 h js1 => ?_) (fun s1 h => ?_)
 ·refine gS rfl q2 (gS rfl q2 (gS rfl q2 (oN (EvN.pickT rfl q2 (Bo true) rfl) ?_)))
  obtain rfl:=osj h
  exact js1 _ _ (kw rfl rfl)
 ·refine gN rfl q2 (fa fs56 rfl) (gN rfl q2 (lf (I x.Op) ty3 rfl) (gN rfl q2 (EvN.ieq rfl rfl) (oN (EvN.pickF rfl q2 (Bo (x.Op==(5:Int))) rfl) ?_)))
  obtain rfl:=osj h
  exact js1 _ _ (kw rfl rfl)
 ·refine oN as' (TO.nil (T.ret ?_))
  obtain rfl:=osj h
  exact finR rfl rfl rfl
theorem F_impl_Instr_writes_P (x:ZIn) {q:Bool} (h:F_impl_Instr_writes x=some q):PCall Try.prog 123 [.agg (ZIn.c x)] (Bo q):=by
 refine pM Try.func123 rfl (by kernel_rfl) rfl (T.sr (oN (EvN.bxF (ZIn.c x) rfl rfl rfl) (oN as' (TO.nil (T.sr (oN (fa fs56 rfl) (oN (lf (I x.Op) ty3 rfl) (oN (EvN.ieq rfl rfl) (oN mv ?_)))))))))
 refine TO.jB h 4 (fun s1=>[(10,Bo s1),(1,.fp (ZIn.c x) 0)]) (fun s1=>[]) (fun s1 q2 h js1 => ?_) (fun s1 q2 h js1 => ?_) (fun s1 h => ?_)
 ·refine gS rfl q2 (gS rfl q2 (gS rfl q2 (oN (EvN.pickT rfl q2 (Bo true) rfl) ?_)))
  obtain rfl:=osj h
  exact js1 _ _ (kw rfl rfl)
 ·refine gN rfl q2 (fa fs56 rfl) (gN rfl q2 (lf (I x.Op) ty3 rfl) (gN rfl q2 (EvN.ieq rfl rfl) (oN (EvN.pickF rfl q2 (Bo (x.Op==(3:Int))) rfl) ?_)))
  obtain rfl:=osj h
  exact js1 _ _ (kw rfl rfl)
 ·refine oN mv ?_
  refine TO.jB h 4 (fun s3=>[(15,Bo s3)]) (fun s3=>[]) (fun s3 q4 h js3 => ?_) (fun s3 q4 h js3 => ?_) (fun s3 h => ?_)
  ·refine gS rfl q4 (gS rfl q4 (gS rfl q4 (oN (EvN.pickT rfl q4 (Bo true) rfl) ?_)))
   obtain rfl:=osj h
   exact js3 _ _ (kw rfl rfl)
  ·refine gN rfl q4 (fa fs56 rfl) (gN rfl q4 (lf (I x.Op) ty3 rfl) (gN rfl q4 (EvN.ieq rfl rfl) (oN (EvN.pickF rfl q4 (Bo (x.Op==(5:Int))) rfl) ?_)))
   obtain rfl:=osj h
   exact js3 _ _ (kw rfl rfl)
  ·refine oN as' (TO.nil (T.ret ?_))
   obtain rfl:=osj h
   exact finR rfl rfl rfl
end Go.Proofs.Ytlmjnhnpahicmaa
