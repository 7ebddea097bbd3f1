/- Texts joined. No conditions. -/
import Derived.OpenShut
import Derived.Test.YtoagamanbofngaaGreatDoorCards
import Derived.Test.YtoagamanbofngaaGreatDoorTie
import Derived.ProofKit
import Derived.LaidMore
import Derived.SevenTiedAt
import Derived.Lay
import Derived.LaidOnce
import Derived.Test.YtoagamanbofngaaGreatDoorc8
namespace Go.Proofs.YtoagamanbofngaaGreatDoor
noncomputable section
set_option linter.defProp false
open _root_.Bool renaming true -> aae
open _root_.Bool renaming false -> aaf
open _root_.Option renaming some -> aag
open _root_.Option renaming none -> aah
open _root_.Decidable renaming decide -> aai
open _root_.Go.Proofs.Tryz
open _root_.Go.Proofs.Tryz renaming prog -> aaj
open _root_.List renaming mem_append_left -> afs
open Go.ChangeShapes Go.WideShapes Go.ChangeAt Go.RowKit
set_option maxRecDepth 100000
theorem WI{y:Int}(h:(Lit.int .u8 y).wf=aae):0<=y/\y<=255:=by
 simp only[Lit.wf,bae,dte] at h;exact⟨h.1,h.2⟩
theorem WJ{b:LI}(hb:∀y∈b,(Lit.int .u8 y).wf=aae):gX b=aag aae:=by
 by_cases h:(1048576:Int)<(b.length:Int)
 .unfold gX;exact RG (decide_eq_true h) rfl
 exact YS ⟨by omega,λy hy=>WI<|hb y hy⟩
theorem WK{W:World}(hL:laidMetH aaj Rows.fnExecForRow.laid W):Gl W (λg=>g<W.heap.size):=by
 have h0:=WH (SN (n:="loop.example/weakmemory/impl.relNames") (d:=Rows.laid_loop_example_weakmemory_impl_relNames) (g:=0) (t:=205) (e:=9)
  (ss:=[⟨#[112,111]⟩,⟨#[108,111,99]⟩,⟨#[101,120,116]⟩,⟨#[114,102]⟩,⟨#[99,111]⟩,⟨#[102,114]⟩,⟨#[102,101,110,99,101]⟩,⟨#[119,114]⟩,⟨#[119,119]⟩,⟨#[105,100]⟩]) hL rfl rfl (by kernel_rfl) (by kernel_rfl) underlying205 underlying9 (by kernel_rfl) rfl) (by decide)
 intro x hx;obtain rfl:=List.mem_singleton.1 hx;exact h0
theorem lawr_FnExecFor{w:World}(v:Value)(xs:LI)(h:Sl Ob 1 w 0 w.heap.size v xs)(hw:∀y∈xs,(Lit.int .u8 y).wf=aae)(hL:laidMetH aaj Rows.fnExecForRow.laid w) :
  Calls aaj 3 #[v] w λe w'=>e= .returned (.bool aae)/\Below w.heap.size w w':=
 Mb (CB xs<|WJ hw) rfl (Y6<|OJ h) (WK hL)
namespace fnExecFor
theorem own:ownKnob aaj.godebug=aah:=by kernel_rfl
theorem laidOut:laidOutB aaj=aae:=by kernel_rfl
theorem SR:([22].all λt=>aaj.readableRec t&&aai (t<aaj.types.size))=aae:=by kernel_rfl
theorem readable:∀t∈([22]:List TypeId),aaj.readableRec t=aae/\t<aaj.types.size:=λt ht=>by
 have:=List.all_eq_true.1 SR t ht;simpa using this
theorem UC(os:Os)(args:Array Value):laidMetH aaj Rows.fnExecForRow.laid ((World.laidAll aaj os Rows.fnExecForRow.laid).forCall (λ_ _=>0) ⟨#[],args,[]⟩).memory:=by
 rw[MakeChecks.laidMetH_plain _ _ _ (by kernel_rfl)];exact laidMet_laidAll _ (by kernel_rfl) (by kernel_rfl)
theorem lifted(os:Os)(started:os.Started)(H:Type)(enc:TypeId×Value->H) :
  ReturnsInHanded {} Tryz.checked os 3 .any (λw args=>(Rows.fnExecForSpec.pre enc aaj Tryz.f3 [] aaf w args/\laidMetH aaj Rows.fnExecForRow.laid w)/\sizedMet enc aaj Tryz.f3 (OpenSpec.ofChange Rows.fnExecForSpec) aaf w args) (Rows.fnExecForSpec.post enc aaj Tryz.f3 aaf aae aaf aaf):=by
 refine returnsInHanded_of_change_and (C:=Tryz.checked) (X:=λw _=>laidMetH aaj Rows.fnExecForRow.laid w) (λ_ _ _ hh h=>h.of_heap hh) own started (by kernel_rfl) func3
  (ChangeSpec.witness_shaped (enc:=enc) (C:=Tryz.checked) (os:=os) (X:=λw _=>laidMetH aaj Rows.fnExecForRow.laid w) aaf (World.laidAll aaj os Rows.fnExecForRow.laid) #[.slice aah 0 0] 8 (World.laidAll_os _ _ _) (World.shaped_of_ZipB (by kernel_rfl)<|by kernel_rfl) (by kernel_rfl) (by kernel_rfl) (by kernel_rfl) (UC os _)) ?_
 intro W base args ds gs before hval0 hW hcnd _ hL _;have hval:∀(j:Nat)t v,Tryz.f3.params[j]?=aag t->args[j]?=aag v->Value.okWide aaj W .any base t v:=hval0;have hW':=hW;obtain⟨p,q,hA0,hV,rfl,hfz,hnd⟩:=hW;have hA:DataW.TrodAll enc aaj W 0 (λ_=>aae) aae Tryz.f3.params.toList args.toList ds p:=hA0;rw[Tryz.params3] at hA hval;have hA1:=hA;obtain⟨v0,vs0,d0,ds0,p0,q0,hargs0,rfl,rfl,h0,r0⟩:=trodAll_cons hA;obtain⟨rfl,rfl,rfl⟩:=trodAll_nil r0;obtain rfl:args=#[v0]:=by cases args;simp_all
 obtain⟨_,_,_,_,gv0,_,rfl,_⟩:=trodVars_one hV;obtain⟨a0,w0,g0⟩:∃xs:LI,Sl Ob 1 W 0 W.heap.size v0 xs/\∀y∈xs,(Lit.int .u8 y).wf=aae:=by
  obtain⟨fuel,hf⟩:=h0;obtain⟨v,hv,p,hp,hg⟩:=Uv (f:=Ob) (s:=1) (by kernel_rfl) (by omega) underlying22 (λfuel cs x h=>Yl underlying5 fuel cs x h) hf;rw[one_cell hv (okWide_slice underlying22<|hval 0 22 v0 rfl rfl)];exact⟨p,hp,hg⟩
 clear hA0 hval0;simp only[List.append_nil] at hW';have hlt:=λx hx=>hW'.lt x hx;refine(lawr_FnExecFor v0 a0 w0 g0 hL).mono λe W' ⟨he,hg⟩=>?_;subst he;exact⟨_,rfl,Jk (pv:=q) hW' (λ_ _ _=>trodAll_cons_mk (shut_bool underlying4 _) trodAll_mk0) (λsp hsp=>BW laidOut hg _ _ _ _ readable hA1 (λx hx=>hlt x (afs _ (by simpa using hx))) (λx hx=>hsp x (afs _ (by simpa using hx)))) (λsp hsp=>Ay laidOut hg (by kernel_rfl) hV (λx hx=>hsp x (List.mem_append_right _ hx))) (by simp)
  hg (ok_one (by kernel_rfl) rfl (okWide_bool_mk underlying4 _))⟩
theorem over:Rows.fnExecForRow.holds Tryz.pinned (OpenSpec.ofChange Rows.fnExecForSpec):=
 OpenClaim.holds_of_wide 3 Tryz.f3 rfl rfl rfl rfl rfl rfl rfl ⟨rfl,rfl,rfl,rfl,rfl⟩ rfl rfl rfl rfl rfl (by kernel_rfl) func3 (by kernel_rfl)
  (of_decide_eq_true<|by kernel_rfl) (by unfold Func.isWrapper;first|(rw[if_pos (by decide +kernel)];kernel_rfl)|(rw[if_neg (by decide +kernel)];exact⟨rfl,rfl⟩))
  (λos started H enc _=>lifted os started H enc)
theorem proved:Rows.FnExecForCardSaid:=
 Claim7.holds_tied_plain_at .later [] [.widerDeep] true (true,"d530ae84cca149e5105c10f4ca5f23759dd1f4d06475e34860cb8c96d49b7e80") false
  over (λ_ h=>by cases h) (by kernel_rfl) (λ_ h=>by cases h) fnExecFor_row_tie rfl ⟨rfl,rfl⟩ (by kernel_rfl) rfl
  (λf fn hf hfn=>by
   obtain rfl : f=3:=osl ((show Tryz.prog.funcNamed "loop.example/weakmemory/laws.FnExecFor" =some 3 by kernel_rfl).symm.trans hf) |>.symm
   obtain rfl:fn=Tryz.f3:=(osl (func3.symm.trans hfn)).symm;exact⟨by kernel_rfl,λj t ht=>by
    rw[Tryz.params3] at ht;have hm:t∈[22]:=by simpa using Array.mem_of_getElem? ht
    have hall:([22].all λu=>!aaj.wantsStandIn u)=aae:=by kernel_rfl
    exact(show aaj.wantsStandIn t=aaf by simpa using List.all_eq_true.1 hall t hm)⟩)
  (by kernel_rfl)
end fnExecFor
end
end Go.Proofs.YtoagamanbofngaaGreatDoor
