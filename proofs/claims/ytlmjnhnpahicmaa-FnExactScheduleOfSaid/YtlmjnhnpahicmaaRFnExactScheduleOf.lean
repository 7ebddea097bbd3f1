/-
 PROVED: FnExactScheduleOf: for every program and every candidate the law returns true, and memory that was there is as it was. No conditions.
-/
import Derived.Test.YtlmjnhnpahicmaaLawSched
import Derived.Test.YtlmjnhnpahicmaaRowX
import Derived.OpenShut
namespace Go.Proofs.Ytlmjnhnpahicmaa
open Go.ChangeShapes Go.WideShapes Go.ChangeAt Go.RowKit
set_option maxRecDepth 100000
theorem lawr_FnExactScheduleOf {w:World} (u:Value) (p:List (List Ins)) (hu:SlSl Ins.cells 4 w 0 w.heap.size u p) (v:Value) (x:ZEx) (hv:SlX w 0 w.heap.size v x) :
  Calls Try.prog 4 #[u,v] w fun e w'=>e = .returned (.bool true)/\Below w.heap.size w w':=law_FnExactScheduleOf hu hv
namespace fnExactScheduleOf
theorem own:ownKnob Try.prog.godebug=none:=by kernel_rfl
theorem laidOut:laidOutB Try.prog=true:=by kernel_rfl
theorem readableB:([22,39].all fun t=>Try.prog.readableRec t&&decide (t<Try.prog.types.size))=true:=by kernel_rfl
theorem readable:∀ t∈([22,39]:List TypeId),Try.prog.readableRec t=true/\t<Try.prog.types.size:=fun t ht=>by
 have := List.all_eq_true.1 readableB t ht
 simpa using this
theorem lifted (os:Os) (started:os.Started) (H:Type) (enc:TypeId×Value->H) :
  ReturnsInHanded {} Try.checked os 4 .any (Rows.fnExactScheduleOfSpec.pre6 enc Try.prog Try.f4 Rows.fnExactScheduleOfRow.domain false) (Rows.fnExactScheduleOfSpec.post enc Try.prog Try.f4 false true false false):=by
 refine returnsInHanded_of_change (C:=Try.checked) own started (by kernel_rfl) Try.func4
  (ChangeSpec.witness6 (enc:=enc) (C:=Try.checked) false ⟨#[],#[.slice none 0 0,.agg #[.slice none 0 0,.slice none 0 0]],[]⟩ 8 (by kernel_rfl) (by kernel_rfl) (by kernel_rfl) (by kernel_rfl)) ?_
 intro W base args ds gs before hval0 hW hcnd _
 have hval:∀ (j:Nat) t v,Try.f4.params[j]? = some t->args[j]? = some v->Value.okWide Try.prog W .any base t v:=hval0
 have hW':=hW
 obtain ⟨p,q,hA0,hV,rfl,hfz,hnd⟩:=hW
 have hA:DataW.TrodAll enc Try.prog W 0 (fun _=>true) true Try.f4.params.toList args.toList ds p:=hA0
 rw [Try.params4] at hA hval
 have hA1:=hA
 obtain ⟨v0,vs0,d0,ds0,p0,q0,hargs0,rfl,rfl,h0,r0⟩:=trodAll_cons hA
 obtain ⟨v1,vs1,d1,ds1,p1,q1,rfl,rfl,rfl,h1,r1⟩:=trodAll_cons r0
 obtain ⟨rfl,rfl,rfl⟩:=trodAll_nil r1
 obtain rfl:args = #[v0,v1]:=by cases args;simp_all
 obtain ⟨rfl,rfl⟩:=trodVars_none hV
 obtain ⟨a0,w0⟩:∃ p:List (List Ins),SlSl Ins.cells 4 W 0 W.heap.size v0 p:=by
  obtain ⟨fuel,hf⟩:=h0
  obtain ⟨v,hv,p,hp,_⟩:=rd_sliceS (f:=Ins.cells) (s:=4) (Good:=fun _=>True) (by kernel_rfl) (by omega) (by kernel_rfl) Try.underlying22 Try.underlying64 (fun fuel cs x h=>rd_ins Try.underlying93 Try.underlying3 ⟨rfl,rfl⟩ ⟨rfl,rfl⟩ ⟨rfl,rfl⟩ ⟨rfl,rfl⟩ (by kernel_rfl) (by kernel_rfl) fuel cs x h) hf
  rw [one_cell hv (okWide_slice Try.underlying22 (hval 0 22 v0 rfl rfl))]
  exact ⟨p,hp⟩
 obtain ⟨a1,w1⟩:∃ x:ZEx,SlX W 0 W.heap.size v1 x:=by
  obtain ⟨fuel,hf⟩:=h1
  obtain ⟨cs,rfl,hsz⟩:=okWide_struct Try.underlying39 (hval 1 39 v1 rfl rfl)
  obtain ⟨v1,v2,he,ex,s1,s2⟩:=rd_exec Try.underlying39 Try.underlying23 Try.underlying37 Try.underlying3 ⟨rfl,rfl⟩ ⟨rfl,rfl⟩ (by kernel_rfl) (by kernel_rfl) (by kernel_rfl) (by kernel_rfl) hf
  refine ⟨ex,v1,v2,?_,s1,s2⟩
  have he2:cs.toList=[v1,v2]:=he
  rw [show cs = #[v1,v2] from Array.toList_inj.1 he2]
 clear hA0 hval0
 simp only [List.append_nil] at hW'
 have hlt:=fun x hx=>hW'.lt x hx
 refine (lawr_FnExactScheduleOf v0 a0 w0 v1 a1 w1).mono fun e W' ⟨he,hg⟩ => ?_
 subst he
 exact ⟨_,rfl,post_of_below (pv:=[]) hW' (fun _ _ _=>trodAll_cons_mk (shut_bool Try.underlying4 _) trodAll_mk0) (fun sp hsp=>trodAll_below laidOut hg _ _ _ _ readable hA1 (by simpa using hlt) (by simpa using hsp)) (fun _ _=>rfl) (by simp)
  hg (ok_one (by kernel_rfl) rfl (okWide_bool_mk Try.underlying4 _))⟩
theorem over:Rows.fnExactScheduleOfRow.holds Try.pinned (OpenSpec.ofChange Rows.fnExactScheduleOfSpec):=
 OpenClaim.holds_of_wide 4 Try.f4 rfl rfl rfl rfl rfl rfl rfl ⟨rfl,rfl,rfl,rfl,rfl⟩ rfl rfl rfl rfl rfl (by kernel_rfl) Try.func4 (by kernel_rfl)
  (of_decide_eq_true (by kernel_rfl)) (by unfold Func.isWrapper;first | (rw [if_pos (by decide +kernel)];kernel_rfl) | (rw [if_neg (by decide +kernel)];exact ⟨rfl,rfl⟩))
  (fun os started H enc _=>lifted os started H enc)
theorem proved:Rows.FnExactScheduleOfSaid:=over
end fnExactScheduleOf
end Go.Proofs.Ytlmjnhnpahicmaa
