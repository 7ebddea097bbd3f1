/- Texts joined. No conditions. -/
import Derived.OpenShut
import Derived.Test.YtabfkkjdfhbngaaGreatDoorCards
import Derived.Test.YtabfkkjdfhbngaaGreatDoorTie
import Derived.ProofKit
import Derived.LaidMore
import Derived.SevenTiedAt
import Derived.Lay
import Derived.LaidOnce
import Derived.Test.YtabfkkjdfhbngaaGreatDoorQ11
namespace Go.Proofs.YtabfkkjdfhbngaaGreatDoor
noncomputable section
open _root_.Bool renaming true -> Nk
open _root_.Bool renaming false -> Nl
open _root_.Option renaming some -> Nn
open _root_.Option renaming none -> Np
open _root_.Decidable renaming decide -> Nq
open _root_.Go.Proofs.Tryz
open _root_.Go.Proofs.Tryz renaming prog -> Nr
open _root_.List renaming mem_append_left -> SS
open Go.ChangeShapes Go.WideShapes Go.ChangeAt Go.RowKit
set_option maxRecDepth 100000
theorem J7 {y:Int} (h:(Lit.int .u8 y).wf=Nk):0<=y/\y<=255:=by
 simp only [Lit.wf,bae,dte] at h;exact ⟨h.1,h.2⟩
theorem J8 {b:LI} (hb:∀ y∈b,(Lit.int .u8 y).wf=Nk):d9 b=Nn Nk:=by
 by_cases h:(1048576:Int)<(b.length:Int)
 ·unfold d9;exact GM (decide_eq_true h) rfl
 exact L9 ⟨by omega,λy hy=>J7<|hb y hy⟩
theorem J9 {W:World} (hL:laidMetH Nr Rows.fnTurnModelsRow.laid W):Gl W (λg=>g<W.heap.size):=by
 have h0 := Hk (Cs (n:="loop.example/weakmemory/impl.ruleWords") (d:=Rows.laid_loop_example_weakmemory_impl_ruleWords) (g:=0) (t:=113) (e:=9)
  (ss:=[⟨#[]⟩,⟨#[97,99,121,99,108,105,99]⟩,⟨#[105,114,114,101,102]⟩,⟨#[101,109,112,116,121]⟩]) hL rfl rfl (by kernel_rfl) (by kernel_rfl) Tryz.underlying113 Tryz.underlying9 (by kernel_rfl) rfl) (by decide)
 have h2 := Hk (Cs (n:="loop.example/weakmemory/impl.relNames") (d:=Rows.laid_loop_example_weakmemory_impl_relNames) (g:=2) (t:=255) (e:=9)
  (ss:=[⟨#[112,111]⟩,⟨#[108,111,99]⟩,⟨#[101,120,116]⟩,⟨#[114,102]⟩,⟨#[99,111]⟩,⟨#[102,114]⟩,⟨#[102,101,110,99,101]⟩,⟨#[119,114]⟩,⟨#[119,119]⟩,⟨#[105,100]⟩]) hL rfl rfl (by kernel_rfl) (by kernel_rfl) Tryz.underlying255 Tryz.underlying9 (by kernel_rfl) rfl) (by decide)
 intro x hx;rcases List.mem_cons.1 hx with rfl | hx
 ·exact h0
 obtain rfl:=List.mem_singleton.1 hx;exact h2
theorem lawr_FnTurnModels {w:World} (v:Value) (xs:LI) (h:Sl EG 1 w 0 w.heap.size v xs) (hw:∀ y∈xs,(Lit.int .u8 y).wf=Nk) (hL:laidMetH Nr Rows.fnTurnModelsRow.laid w) :
  Calls Nr 5 #[v] w λe w'=>e = .returned (.bool Nk)/\Below w.heap.size w w':=
 Dv (uk xs<|J8 hw) rfl (Mj<|E8 h) (J9 hL)
namespace fnTurnModels
theorem own:ownKnob Nr.godebug=Np:=by kernel_rfl
theorem laidOut:laidOutB Nr=Nk:=by kernel_rfl
theorem Hl:([22].all λt=>Nr.readableRec t&&Nq (t<Nr.types.size))=Nk:=by kernel_rfl
theorem readable:∀ t∈([22]:List TypeId),Nr.readableRec t=Nk/\t<Nr.types.size:=λt ht=>by
 have := List.all_eq_true.1 Hl t ht;simpa using this
theorem IL (os:Os) (args:Array Value):laidMetH Nr Rows.fnTurnModelsRow.laid ((World.laidAll Nr os Rows.fnTurnModelsRow.laid).forCall (λ_ _=>0) ⟨#[],args,[]⟩).memory:=by
 rw [MakeChecks.laidMetH_plain _ _ _ (by kernel_rfl)];exact laidMet_laidAll _ (by kernel_rfl) (by kernel_rfl)
theorem lifted (os:Os) (started:os.Started) (H:Type) (enc:TypeId×Value->H) :
  ReturnsInHanded {} Tryz.checked os 5 .any (λw args=>(Rows.fnTurnModelsSpec.pre enc Nr Tryz.f5 [] Nl w args/\laidMetH Nr Rows.fnTurnModelsRow.laid w)/\sizedMet enc Nr Tryz.f5 (OpenSpec.ofChange Rows.fnTurnModelsSpec) Nl w args) (Rows.fnTurnModelsSpec.post enc Nr Tryz.f5 Nl Nk Nl Nl):=by
 refine returnsInHanded_of_change_and (C:=Tryz.checked) (X:=λw _=>laidMetH Nr Rows.fnTurnModelsRow.laid w) (λ_ _ _ hh h=>h.of_heap hh) own started (by kernel_rfl) func5
  (ChangeSpec.witness_shaped (enc:=enc) (C:=Tryz.checked) (os:=os) (X:=λw _=>laidMetH Nr Rows.fnTurnModelsRow.laid w) Nl (World.laidAll Nr os Rows.fnTurnModelsRow.laid) #[.slice Np 0 0] 8 (World.laidAll_os _ _ _) (World.shaped_of_ZipB (by kernel_rfl)<|by kernel_rfl) (by kernel_rfl) (by kernel_rfl) (by kernel_rfl) (IL os _)) ?_
 intro W base args ds gs before hval0 hW hcnd _ hL _;have hval:∀ (j:Nat) t v,Tryz.f5.params[j]? = Nn t->args[j]? = Nn v->Value.okWide Nr W .any base t v:=hval0;have hW':=hW;obtain ⟨p,q,hA0,hV,rfl,hfz,hnd⟩:=hW;have hA:DataW.TrodAll enc Nr W 0 (λ_=>Nk) Nk Tryz.f5.params.toList args.toList ds p:=hA0;rw [Tryz.params5] at hA hval;have hA1:=hA;obtain ⟨v0,vs0,d0,ds0,p0,q0,hargs0,rfl,rfl,h0,r0⟩:=trodAll_cons hA;obtain ⟨rfl,rfl,rfl⟩:=trodAll_nil r0;obtain rfl:args = #[v0]:=by cases args;simp_all
 obtain ⟨_,_,_,_,gv0,_,_,_,_,_,gv1,_,rfl,_⟩:=trodVars_two hV;obtain ⟨a0,w0,g0⟩:∃ xs:LI,Sl EG 1 W 0 W.heap.size v0 xs/\∀ y∈xs,(Lit.int .u8 y).wf=Nk:=by
  obtain ⟨fuel,hf⟩:=h0;obtain ⟨v,hv,p,hp,hg⟩:=IE (f:=EG) (s:=1) (by kernel_rfl) (by omega) Tryz.underlying22 (λfuel cs x h=>Lj Tryz.underlying5 fuel cs x h) hf;rw [one_cell hv (okWide_slice Tryz.underlying22<|hval 0 22 v0 rfl rfl)];exact ⟨p,hp,hg⟩
 clear hA0 hval0;simp only [List.append_nil] at hW';have hlt:=λx hx=>hW'.lt x hx;refine (lawr_FnTurnModels v0 a0 w0 g0 hL).mono λe W' ⟨he,hg⟩ => ?_;subst he;exact ⟨_,rfl,Bm (pv:=q) hW' (λ_ _ _=>trodAll_cons_mk (shut_bool Tryz.underlying4 _) trodAll_mk0) (λsp hsp=>wB laidOut hg _ _ _ _ readable hA1 (λx hx=>hlt x (SS _ (by simpa using hx))) (λx hx=>hsp x (SS _ (by simpa using hx)))) (λsp hsp=>uT laidOut hg (by kernel_rfl) hV (λx hx=>hsp x (List.mem_append_right _ hx))) (by simp)
  hg (ok_one (by kernel_rfl) rfl (okWide_bool_mk Tryz.underlying4 _))⟩
theorem over:Rows.fnTurnModelsRow.holds Tryz.pinned (OpenSpec.ofChange Rows.fnTurnModelsSpec):=
 OpenClaim.holds_of_wide 5 Tryz.f5 rfl rfl rfl rfl rfl rfl rfl ⟨rfl,rfl,rfl,rfl,rfl⟩ rfl rfl rfl rfl rfl (by kernel_rfl) func5 (by kernel_rfl)
  (of_decide_eq_true<|by kernel_rfl) (by unfold Func.isWrapper;first | (rw [if_pos (by decide +kernel)];kernel_rfl) | (rw [if_neg (by decide +kernel)];exact ⟨rfl,rfl⟩))
  (λos started H enc _=>lifted os started H enc)
theorem proved:Rows.FnTurnModelsCardSaid:=
 Claim7.holds_tied_plain_at .later [] [.data,.widerDeep,.widerDeep,.pinned] true (true,"bcb36970bf49a4f5295d504a5f41662216fc143e647a958c944cd81ee6126f2e") false
  over (λ_ h=>by cases h) (by kernel_rfl) (λ_ h=>by cases h) fnTurnModels_row_tie rfl ⟨rfl,rfl⟩ (by kernel_rfl) rfl
  (λf fn hf hfn=>by
   obtain rfl : f = 5 := osl ((show Tryz.prog.funcNamed "loop.example/weakmemory/laws.FnTurnModels" = some 5 by kernel_rfl).symm.trans hf) |>.symm
   obtain rfl:fn=Tryz.f5:=(osl (func5.symm.trans hfn)).symm;exact ⟨by kernel_rfl,λj t ht=>by
    rw [Tryz.params5] at ht;have hm:t∈[22]:=by simpa using Array.mem_of_getElem? ht
    have hall:([22].all λu => !Nr.wantsStandIn u)=Nk:=by kernel_rfl
    exact (show Nr.wantsStandIn t=Nl by simpa using List.all_eq_true.1 hall t hm)⟩)
  (by kernel_rfl)
end fnTurnModels
end
end Go.Proofs.YtabfkkjdfhbngaaGreatDoor
