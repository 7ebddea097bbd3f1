/- Texts joined. No conditions. -/
import Derived.OpenShut
import Derived.Test.YtdmahcaohkplcaaGreatDoorCards
import Derived.Test.YtdmahcaohkplcaaGreatDoorTie
import Derived.ProofKit
import Derived.LaidMore
import Derived.SevenTiedAt
import Derived.Lay
import Derived.LaidOnce
import Derived.Test.YtdmahcaohkplcaaGreatDoorC16
namespace Go.Proofs.YtdmahcaohkplcaaGreatDoor
noncomputable section
open _root_.Bool renaming true -> Uq
open _root_.Bool renaming false -> Ur
open _root_.Option renaming some -> Us
open _root_.Option renaming none -> Ut
open _root_.Decidable renaming decide -> Uu
open _root_.Go.Proofs.Tryz
open _root_.Go.Proofs.Tryz renaming prog -> Uv
open _root_.List renaming mem_append_left -> aaB
open Go.ChangeShapes Go.WideShapes Go.ChangeAt Go.RowKit
set_option maxRecDepth 100000
theorem QY {y:Int} (h:(Lit.int .u8 y).wf=Uq):0<=y/\y<=255:=by
 simp only [Lit.wf,bae,dte] at h;exact ⟨h.1,h.2⟩
theorem QZ {b:LI} (hb:∀ y∈b,(Lit.int .u8 y).wf=Uq):gI b=Us Uq:=by
 by_cases h:(1048576:Int)<(b.length:Int)
 ·unfold gI;exact Nr (decide_eq_true h) rfl
 exact SN ⟨by omega,λy hy=>QY<|hb y hy⟩
theorem Q0 {W:World} (hL:laidMetH Uv Rows.fnAllTracesRow.laid W):Gl W (λg=>g<W.heap.size):=by
 have h0 := NH (Ih (n:="loop.example/weakmemory/impl.ruleWords") (d:=Rows.laid_loop_example_weakmemory_impl_ruleWords) (g:=0) (t:=97) (e:=9)
  (ss:=[⟨#[]⟩,⟨#[97,99,121,99,108,105,99]⟩,⟨#[105,114,114,101,102]⟩,⟨#[101,109,112,116,121]⟩]) hL rfl rfl (by kernel_rfl) (by kernel_rfl) Tryz.underlying97 Tryz.underlying9 (by kernel_rfl) rfl) (by decide)
 have h2 := NH (Ih (n:="loop.example/weakmemory/impl.relNames") (d:=Rows.laid_loop_example_weakmemory_impl_relNames) (g:=2) (t:=226) (e:=9)
  (ss:=[⟨#[112,111]⟩,⟨#[108,111,99]⟩,⟨#[101,120,116]⟩,⟨#[114,102]⟩,⟨#[99,111]⟩,⟨#[102,114]⟩,⟨#[102,101,110,99,101]⟩,⟨#[119,114]⟩,⟨#[119,119]⟩,⟨#[105,100]⟩]) hL rfl rfl (by kernel_rfl) (by kernel_rfl) Tryz.underlying226 Tryz.underlying9 (by kernel_rfl) rfl) (by decide)
 intro x hx;rcases List.mem_cons.1 hx with rfl | hx
 ·exact h0
 obtain rfl:=List.mem_singleton.1 hx;exact h2
theorem lawr_FnAllTraces {w:World} (v:Value) (xs:LI) (h:Sl KE 1 w 0 w.heap.size v xs) (hw:∀ y∈xs,(Lit.int .u8 y).wf=Uq) (hL:laidMetH Uv Rows.fnAllTracesRow.laid w) :
  Calls Uv 3 #[v] w λe w'=>e = .returned (.bool Uq)/\Below w.heap.size w w':=
 Jo (zf xs<|QZ hw) rfl (S5<|K5 h) (Q0 hL)
namespace fnAllTraces
theorem own:ownKnob Uv.godebug=Ut:=by kernel_rfl
theorem laidOut:laidOutB Uv=Uq:=by kernel_rfl
theorem NI:([22].all λt=>Uv.readableRec t&&Uu (t<Uv.types.size))=Uq:=by kernel_rfl
theorem readable:∀ t∈([22]:List TypeId),Uv.readableRec t=Uq/\t<Uv.types.size:=λt ht=>by
 have := List.all_eq_true.1 NI t ht;simpa using this
theorem Pd (os:Os) (args:Array Value):laidMetH Uv Rows.fnAllTracesRow.laid ((World.laidAll Uv os Rows.fnAllTracesRow.laid).forCall (λ_ _=>0) ⟨#[],args,[]⟩).memory:=by
 rw [MakeChecks.laidMetH_plain _ _ _ (by kernel_rfl)];exact laidMet_laidAll _ (by kernel_rfl) (by kernel_rfl)
theorem lifted (os:Os) (started:os.Started) (H:Type) (enc:TypeId×Value->H) :
  ReturnsInHanded {} Tryz.checked os 3 .any (λw args=>(Rows.fnAllTracesSpec.pre enc Uv Tryz.f3 [] Ur w args/\laidMetH Uv Rows.fnAllTracesRow.laid w)/\sizedMet enc Uv Tryz.f3 (OpenSpec.ofChange Rows.fnAllTracesSpec) Ur w args) (Rows.fnAllTracesSpec.post enc Uv Tryz.f3 Ur Uq Ur Ur):=by
 refine returnsInHanded_of_change_and (C:=Tryz.checked) (X:=λw _=>laidMetH Uv Rows.fnAllTracesRow.laid w) (λ_ _ _ hh h=>h.of_heap hh) own started (by kernel_rfl) func3
  (ChangeSpec.witness_shaped (enc:=enc) (C:=Tryz.checked) (os:=os) (X:=λw _=>laidMetH Uv Rows.fnAllTracesRow.laid w) Ur (World.laidAll Uv os Rows.fnAllTracesRow.laid) #[.slice Ut 0 0] 8 (World.laidAll_os _ _ _) (World.shaped_of_ZipB (by kernel_rfl)<|by kernel_rfl) (by kernel_rfl) (by kernel_rfl) (by kernel_rfl) (Pd os _)) ?_
 intro W base args ds gs before hval0 hW hcnd _ hL _;have hval:∀ (j:Nat) t v,Tryz.f3.params[j]? = Us t->args[j]? = Us v->Value.okWide Uv W .any base t v:=hval0;have hW':=hW;obtain ⟨p,q,hA0,hV,rfl,hfz,hnd⟩:=hW;have hA:DataW.TrodAll enc Uv W 0 (λ_=>Uq) Uq Tryz.f3.params.toList args.toList ds p:=hA0;rw [Tryz.params3] at hA hval;have hA1:=hA;obtain ⟨v0,vs0,d0,ds0,p0,q0,hargs0,rfl,rfl,h0,r0⟩:=trodAll_cons hA;obtain ⟨rfl,rfl,rfl⟩:=trodAll_nil r0;obtain rfl:args = #[v0]:=by cases args;simp_all
 obtain ⟨_,_,_,_,gv0,_,_,_,_,_,gv1,_,rfl,_⟩:=trodVars_two hV;obtain ⟨a0,w0,g0⟩:∃ xs:LI,Sl KE 1 W 0 W.heap.size v0 xs/\∀ y∈xs,(Lit.int .u8 y).wf=Uq:=by
  obtain ⟨fuel,hf⟩:=h0;obtain ⟨v,hv,p,hp,hg⟩:=O4 (f:=KE) (s:=1) (by kernel_rfl) (by omega) Tryz.underlying22 (λfuel cs x h=>R6 Tryz.underlying5 fuel cs x h) hf;rw [one_cell hv (okWide_slice Tryz.underlying22<|hval 0 22 v0 rfl rfl)];exact ⟨p,hp,hg⟩
 clear hA0 hval0;simp only [List.append_nil] at hW';have hlt:=λx hx=>hW'.lt x hx;refine (lawr_FnAllTraces v0 a0 w0 g0 hL).mono λe W' ⟨he,hg⟩ => ?_;subst he;exact ⟨_,rfl,GA (pv:=q) hW' (λ_ _ _=>trodAll_cons_mk (shut_bool Tryz.underlying4 _) trodAll_mk0) (λsp hsp=>A7 laidOut hg _ _ _ _ readable hA1 (λx hx=>hlt x (aaB _ (by simpa using hx))) (λx hx=>hsp x (aaB _ (by simpa using hx)))) (λsp hsp=>zy laidOut hg (by kernel_rfl) hV (λx hx=>hsp x (List.mem_append_right _ hx))) (by simp)
  hg (ok_one (by kernel_rfl) rfl (okWide_bool_mk Tryz.underlying4 _))⟩
theorem over:Rows.fnAllTracesRow.holds Tryz.pinned (OpenSpec.ofChange Rows.fnAllTracesSpec):=
 OpenClaim.holds_of_wide 3 Tryz.f3 rfl rfl rfl rfl rfl rfl rfl ⟨rfl,rfl,rfl,rfl,rfl⟩ rfl rfl rfl rfl rfl (by kernel_rfl) func3 (by kernel_rfl)
  (of_decide_eq_true<|by kernel_rfl) (by unfold Func.isWrapper;first | (rw [if_pos (by decide +kernel)];kernel_rfl) | (rw [if_neg (by decide +kernel)];exact ⟨rfl,rfl⟩))
  (λos started H enc _=>lifted os started H enc)
theorem proved:Rows.FnAllTracesCardSaid:=
 Claim7.holds_tied_plain_at .later [] [.data,.widerDeep,.widerDeep,.pinned] true (true,"a7b439a9f03beeca535f084c3c17ea830c32e796fe6ccd16a21a755a22bc7b0e") false
  over (λ_ h=>by cases h) (by kernel_rfl) (λ_ h=>by cases h) fnAllTraces_row_tie rfl ⟨rfl,rfl⟩ (by kernel_rfl) rfl
  (λf fn hf hfn=>by
   obtain rfl : f = 3 := osl ((show Tryz.prog.funcNamed "loop.example/weakmemory/laws.FnAllTraces" = some 3 by kernel_rfl).symm.trans hf) |>.symm
   obtain rfl:fn=Tryz.f3:=(osl (func3.symm.trans hfn)).symm;exact ⟨by kernel_rfl,λj t ht=>by
    rw [Tryz.params3] at ht;have hm:t∈[22]:=by simpa using Array.mem_of_getElem? ht
    have hall:([22].all λu => !Uv.wantsStandIn u)=Uq:=by kernel_rfl
    exact (show Uv.wantsStandIn t=Ur by simpa using List.all_eq_true.1 hall t hm)⟩)
  (by kernel_rfl)
end fnAllTraces
end
end Go.Proofs.YtdmahcaohkplcaaGreatDoor
