/-
 PROVED: FnDropThread: for every code the law returns true, and memory that was there is as it was. No conditions.
-/
import Derived.Test.YtlgfihlflchhgaaGP
import Derived.Test.YtlgfihlflchhgaaS341
import Derived.Test.YtlgfihlflchhgaaBr
import Derived.Test.YtlgfihlflchhgaaRow
import Derived.OpenShut
namespace Go.Proofs.Ytlgfihlflchhgaa
open Go.ChangeShapes Go.WideShapes Go.ChangeAt Go.RowKit
set_option maxRecDepth 100000
theorem wf_byte {y:Int} (h:(Lit.int .u8 y).wf=true):0<=y/\y<=255:=by
 simp only [Lit.wf,Bool.and_eq_true,decide_eq_true_eq] at h
 exact ⟨h.1,h.2⟩
theorem law_all {b:List Int} (hb:∀ y∈b,(Lit.int .u8 y).wf=true):F_laws_FnDropThread b=some true:=by
 by_cases h:(1048576:Int)<(b.length:Int)
 ·unfold F_laws_FnDropThread
  exact bif_t (decide_eq_true h) rfl
 ·exact law34 ⟨by omega,fun y hy=>wf_byte (hb y hy)⟩
theorem lawr_FnDropThread {w:World} (v:Value) (xs:List Int) (h:Sl byte1 1 w 0 w.heap.size v xs) (hw:∀ y∈xs,(Lit.int .u8 y).wf=true) :
  Calls Try.prog 3 #[v] w fun e w'=>e = .returned (.bool true)/\Below w.heap.size w w':=
 law_of_pure (F_laws_FnDropThread_P xs (law_all hw)) rfl (args1 (frel_bytes h))
namespace fnDropThread
theorem own:ownKnob Try.prog.godebug=none:=by kernel_rfl
theorem laidOut:laidOutB Try.prog=true:=by kernel_rfl
theorem readableB:([22].all fun t=>Try.prog.readableRec t&&decide (t<Try.prog.types.size))=true:=by kernel_rfl
theorem readable:∀ t∈([22]:List TypeId),Try.prog.readableRec t=true/\t<Try.prog.types.size:=fun t ht=>by
 have := List.all_eq_true.1 readableB t ht
 simpa using this
theorem lifted (os:Os) (started:os.Started) (H:Type) (enc:TypeId×Value->H) :
  ReturnsInHanded {} Try.checked os 3 .any (Rows.fnDropThreadSpec.pre6 enc Try.prog Try.f3 Rows.fnDropThreadRow.domain false) (Rows.fnDropThreadSpec.post enc Try.prog Try.f3 false true false false):=by
 refine returnsInHanded_of_change (C:=Try.checked) own started (by kernel_rfl) Try.func3
  (ChangeSpec.witness6 (enc:=enc) (C:=Try.checked) false ⟨#[],#[.slice none 0 0],[]⟩ 8 (by kernel_rfl) (by kernel_rfl) (by kernel_rfl) (by kernel_rfl)) ?_
 intro W base args ds gs before hval0 hW hcnd _
 have hval:∀ (j:Nat) t v,Try.f3.params[j]? = some t->args[j]? = some v->Value.okWide Try.prog W .any base t v:=hval0
 have hW':=hW
 obtain ⟨p,q,hA0,hV,rfl,hfz,hnd⟩:=hW
 have hA:DataW.TrodAll enc Try.prog W 0 (fun _=>true) true Try.f3.params.toList args.toList ds p:=hA0
 rw [Try.params3] at hA hval
 have hA1:=hA
 obtain ⟨v0,vs0,d0,ds0,p0,q0,hargs0,rfl,rfl,h0,r0⟩:=trodAll_cons hA
 obtain ⟨rfl,rfl,rfl⟩:=trodAll_nil r0
 obtain rfl:args = #[v0]:=by cases args;simp_all
 obtain ⟨rfl,rfl⟩:=trodVars_none hV
 obtain ⟨a0,w0,g0⟩:∃ xs:List Int,Sl byte1 1 W 0 W.heap.size v0 xs/\∀ y∈xs,(Lit.int .u8 y).wf=true:=by
  obtain ⟨fuel,hf⟩:=h0
  obtain ⟨v,hv,p,hp,hg⟩:=rd_slice (f:=byte1) (s:=1) (by kernel_rfl) (by omega) Try.underlying22 (fun fuel cs x h=>rd_int Try.underlying5 fuel cs x h) hf
  rw [one_cell hv (okWide_slice Try.underlying22 (hval 0 22 v0 rfl rfl))]
  exact ⟨p,hp,hg⟩
 clear hA0 hval0
 simp only [List.append_nil] at hW'
 have hlt:=fun x hx=>hW'.lt x hx
 refine (lawr_FnDropThread v0 a0 w0 g0).mono fun e W' ⟨he,hg⟩ => ?_
 subst he
 exact ⟨_,rfl,post_of_below (pv:=[]) hW' (fun _ _ _=>trodAll_cons_mk (shut_bool Try.underlying4 _) trodAll_mk0) (fun sp hsp=>trodAll_below laidOut hg _ _ _ _ readable hA1 (by simpa using hlt) (by simpa using hsp)) (fun _ _=>rfl) (by simp)
  hg (ok_one (by kernel_rfl) rfl (okWide_bool_mk Try.underlying4 _))⟩
theorem over:Rows.fnDropThreadRow.holds Try.pinned (OpenSpec.ofChange Rows.fnDropThreadSpec):=
 OpenClaim.holds_of_wide 3 Try.f3 rfl rfl rfl rfl rfl rfl rfl ⟨rfl,rfl,rfl,rfl,rfl⟩ rfl rfl rfl rfl rfl (by kernel_rfl) Try.func3 (by kernel_rfl)
  (of_decide_eq_true (by kernel_rfl)) (by unfold Func.isWrapper;first | (rw [if_pos (by decide +kernel)];kernel_rfl) | (rw [if_neg (by decide +kernel)];exact ⟨rfl,rfl⟩))
  (fun os started H enc _=>lifted os started H enc)
theorem proved:Rows.FnDropThreadSaid:=over
end fnDropThread
end Go.Proofs.Ytlgfihlflchhgaa
