/-
 Runs compared; the run of a schedule. Plain theorems. No conditions.
-/
import Derived.Test.YtlmjnhnpahicmaaDgy
namespace Go.Proofs.Ytlmjnhnpahicmaa
open Go.RowKit
set_option maxRecDepth 100000
def EB (e : ZEx) : Prop := e.From.length <= 4000000 /\ e.Order.length <= 4000000 /\ ∀ i : Nat,(e.Order.getD i default).length <= 4000000
def same (a b : ZEx) : Bool := decide (a.From = b.From) && decide (a.Order = b.Order)
def exOf (p : List (List ZIn)) (s : List Int) (b : Bool) : ZEx := bif b then ⟨(runX p (ordF p s s.length)).1,(runX p (ordF p s s.length)).2⟩ else ⟨[],[]⟩
theorem execOf_ret (p : List (List ZIn)) {s : List Int} (hsz : p.length <= 1048576 /\ total p <= 1048576) (hs : s.length <= 1048576) :
  ∃ b,F_impl_ExecOf p s = some (exOf p s b,b) /\ F_spec_ExecOf p s = some (exOf p s b,b) /\ EB (exOf p s b) /\ (b = true ↔ Whole p s) := by
 obtain ⟨o,b,e1,e2,hg⟩ := irun_ret p hsz hs
 have key : (b = true -> F_impl_execOf p s = some (exOf p s b) /\ F_spec_l13Exec p s = some (exOf p s b)) ->
   F_impl_ExecOf p s = some (exOf p s b,b) /\ F_spec_ExecOf p s = some (exOf p s b,b) := by
  intro he
  constructor
  ·refine Ret.eq ?_
   unfold F_impl_ExecOf
   refine (Ret.of (P:=(· = (o,b))) e1 rfl).bind fun v hv => ?_
   subst hv
   refine .bif (fun hb => .pure ?_) fun hb => ?_
   ·have : b = false := by simpa using hb
    subst this
    rfl
   ·have : b = true := by simpa using hb
    subst this
    exact (Ret.of (P:=(· = exOf p s true)) (he rfl).1 rfl).bind fun v hv => .pure (by rw [hv])
  ·refine Ret.eq ?_
   unfold F_spec_ExecOf
   refine (Ret.of (P:=(· = (o,b))) e2 rfl).bind fun v hv => ?_
   subst hv
   refine .bif (fun hb => .pure ?_) fun hb => ?_
   ·have : b = false := by simpa using hb
    subst this
    rfl
   ·have : b = true := by simpa using hb
    subst this
    exact (Ret.of (P:=(· = exOf p s true)) (he rfl).2 rfl).bind fun v hv => .pure (by rw [hv])
 cases b with
 | false =>
  obtain ⟨k1,k2⟩ := key nofun
  refine ⟨false,k1,k2,⟨Nat.zero_le _,Nat.zero_le _,fun i => ?_⟩,hg⟩
  show (([] : List (List Int)).getD i []).length <= _
  rw [List.getD_nil]
  exact Nat.zero_le _
 | true =>
  have hw := hg.1 rfl
  have hp := PV.of hw.1
  have hgood := hw.2.1
  obtain ⟨k1,k2⟩ := key fun _ => ⟨(iexec_ret hp hs hgood).eq,(sexec_ret hp hs hgood).eq⟩
  refine ⟨true,k1,k2,?_,hg⟩
  have hin := InX.run (ord_ok hp hgood (Nat.le_refl s.length))
  have hol := ordF_len p s s.length
  have hel := evs_len hp.vs
  refine ⟨by show (runX p (ordF p s s.length)).1.length <= _; rw [hin.f]; omega,by show (runX p (ordF p s s.length)).2.length <= _; rw [hin.o]; omega,fun i => ?_⟩
  show ((runX p (ordF p s s.length)).2.getD i []).length <= _
  by_cases hi : i < 3
  ·have := hin.r i hi
   omega
  ·rw [List.getD_eq_getElem?_getD,List.getElem?_eq_none (by rw [hin.o]; omega)]
   exact Nat.zero_le _
end Go.Proofs.Ytlmjnhnpahicmaa
