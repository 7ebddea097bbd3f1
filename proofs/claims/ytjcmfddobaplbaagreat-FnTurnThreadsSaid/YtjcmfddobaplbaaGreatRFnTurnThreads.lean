/- Texts joined. No conditions. -/
import Derived.OpenShut
import Derived.Test.YtjcmfddobaplbaaGreatZ15
namespace Go.Proofs.YtjcmfddobaplbaaGreat
noncomputable section
open Go.ChangeShapes Go.WideShapes Go.ChangeAt Go.RowKit
set_option maxRecDepth 100000
theorem JQ {y:Int} (h:(Lit.int .u8 y).wf=true):0<=y/\y<=255:=by
 simp only [Lit.wf,bae,dte] at h;exact ⟨h.1,h.2⟩
theorem JR {b:LI} (hb:∀ y∈b,(Lit.int .u8 y).wf=true):dE b=some true:=by
 by_cases h:(1048576:Int)<(b.length:Int)
 ·unfold dE;exact Fs (decide_eq_true h) rfl
 exact LN ⟨by omega,λy hy=>JQ<|hb y hy⟩
theorem lawr_FnTurnThreads {w:World} (v:Value) (xs:LI) (h:Sl AA 1 w 0 w.heap.size v xs) (hw:∀ y∈xs,(Lit.int .u8 y).wf=true) :
  Calls Tryz.prog 5 #[v] w λe w'=>e = .returned (.bool true)/\Below w.heap.size w w':=
 AZ (oD xs<|JR hw) rfl (LF<|Dc h)
namespace fnTurnThreads
theorem own:ownKnob Tryz.prog.godebug=none:=by kernel_rfl
theorem laidOut:laidOutB Tryz.prog=true:=by kernel_rfl
theorem FV:([22].all λt=>Tryz.prog.readableRec t&&decide (t<Tryz.prog.types.size))=true:=by kernel_rfl
theorem readable:∀ t∈([22]:List TypeId),Tryz.prog.readableRec t=true/\t<Tryz.prog.types.size:=λt ht=>by
 have := List.all_eq_true.1 FV t ht;simpa using this
theorem lifted (os:Os) (started:os.Started) (H:Type) (enc:TypeId×Value->H) :
  ReturnsInHanded {} Tryz.checked os 5 .any (Rows.fnTurnThreadsSpec.pre6 enc Tryz.prog Tryz.f5 Rows.fnTurnThreadsRow.domain false) (Rows.fnTurnThreadsSpec.post enc Tryz.prog Tryz.f5 false true false false):=by
 refine returnsInHanded_of_change (C:=Tryz.checked) own started (by kernel_rfl) Tryz.func5
  (ChangeSpec.witness6 (enc:=enc) (C:=Tryz.checked) false ⟨#[],#[.slice none 0 0],[]⟩ 8 (by kernel_rfl) (by kernel_rfl) (by kernel_rfl)<|by kernel_rfl) ?_
 intro W base args ds gs before hval0 hW hcnd _;have hval:∀ (j:Nat) t v,Tryz.f5.params[j]? = some t->args[j]? = some v->Value.okWide Tryz.prog W .any base t v:=hval0;have hW':=hW;obtain ⟨p,q,hA0,hV,rfl,hfz,hnd⟩:=hW;have hA:DataW.TrodAll enc Tryz.prog W 0 (λ_=>true) true Tryz.f5.params.toList args.toList ds p:=hA0;rw [Tryz.params5] at hA hval;have hA1:=hA;obtain ⟨v0,vs0,d0,ds0,p0,q0,hargs0,rfl,rfl,h0,r0⟩:=trodAll_cons hA;obtain ⟨rfl,rfl,rfl⟩:=trodAll_nil r0;obtain rfl:args = #[v0]:=by cases args;simp_all
 obtain ⟨rfl,rfl⟩:=trodVars_none hV;obtain ⟨a0,w0,g0⟩:∃ xs:LI,Sl AA 1 W 0 W.heap.size v0 xs/\∀ y∈xs,(Lit.int .u8 y).wf=true:=by
  obtain ⟨fuel,hf⟩:=h0;obtain ⟨v,hv,p,hp,hg⟩:=Hu (f:=AA) (s:=1) (by kernel_rfl) (by omega) Tryz.underlying22 (λfuel cs x h=>Lb Tryz.underlying5 fuel cs x h) hf;rw [one_cell hv (okWide_slice Tryz.underlying22<|hval 0 22 v0 rfl rfl)];exact ⟨p,hp,hg⟩
 clear hA0 hval0;simp only [List.append_nil] at hW';have hlt:=λx hx=>hW'.lt x hx;refine (lawr_FnTurnThreads v0 a0 w0 g0).mono λe W' ⟨he,hg⟩ => ?_;subst he;exact ⟨_,rfl,yQ (pv:=[]) hW' (λ_ _ _=>trodAll_cons_mk (shut_bool Tryz.underlying4 _) trodAll_mk0) (λsp hsp=>rV laidOut hg _ _ _ _ readable hA1 (by simpa using hlt) (by simpa using hsp)) (λ_ _=>rfl) (by simp)
  hg (ok_one (by kernel_rfl) rfl (okWide_bool_mk Tryz.underlying4 _))⟩
theorem over:Rows.fnTurnThreadsRow.holds Tryz.pinned (OpenSpec.ofChange Rows.fnTurnThreadsSpec):=
 OpenClaim.holds_of_wide 5 Tryz.f5 rfl rfl rfl rfl rfl rfl rfl ⟨rfl,rfl,rfl,rfl,rfl⟩ rfl rfl rfl rfl rfl (by kernel_rfl) Tryz.func5 (by kernel_rfl)
  (of_decide_eq_true<|by kernel_rfl) (by unfold Func.isWrapper;first | (rw [if_pos (by decide +kernel)];kernel_rfl) | (rw [if_neg (by decide +kernel)];exact ⟨rfl,rfl⟩))
  (λos started H enc _=>lifted os started H enc)
theorem proved:Rows.FnTurnThreadsSaid:=over
end fnTurnThreads
end
end Go.Proofs.YtjcmfddobaplbaaGreat
