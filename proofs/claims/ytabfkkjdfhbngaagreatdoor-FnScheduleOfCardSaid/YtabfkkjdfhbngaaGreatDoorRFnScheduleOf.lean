/- Texts joined. No conditions. -/
import Derived.OpenShut
import Derived.Test.YtabfkkjdfhbngaaGreatDoorCards
import Derived.Test.YtabfkkjdfhbngaaGreatDoorTie
import Derived.ProofKit
import Derived.LaidMore
import Derived.SevenTiedAt
import Derived.Lay
import Derived.LaidOnce
import Derived.Test.YtabfkkjdfhbngaaGreatDoorW15
namespace Go.Proofs.YtabfkkjdfhbngaaGreatDoor
noncomputable section
open _root_.Bool renaming true -> Ri
open _root_.Bool renaming false -> Rj
open _root_.Option renaming some -> Rk
open _root_.Option renaming none -> Rl
open _root_.Decidable renaming decide -> Rm
open _root_.Go.Proofs.Tryz
open _root_.Go.Proofs.Tryz renaming prog -> Rn
open _root_.List renaming mem_append_left -> XC
open Go.ChangeShapes Go.WideShapes Go.ChangeAt Go.RowKit
set_option maxRecDepth 100000
theorem Oc {y:Int} (h:(Lit.int .u8 y).wf=Ri):0<=y/\y<=255:=by
 simp only [Lit.wf,bae,dte] at h;exact ⟨h.1,h.2⟩
theorem Od {b:LI} (hb:∀ y∈b,(Lit.int .u8 y).wf=Ri):eT b=Rk Ri:=by
 by_cases h:(1048576:Int)<(b.length:Int)
 ·unfold eT;exact Kz (decide_eq_true h) rfl
 exact P5 ⟨by omega,λy hy=>Oc<|hb y hy⟩
theorem Oe {W:World} (hL:laidMetH Rn Rows.fnScheduleOfRow.laid W):Gl W (λg=>g<W.heap.size):=by
 have h0 := KT (Ft (n:="loop.example/weakmemory/impl.ruleWords") (d:=Rows.laid_loop_example_weakmemory_impl_ruleWords) (g:=0) (t:=113) (e:=9)
  (ss:=[⟨#[]⟩,⟨#[97,99,121,99,108,105,99]⟩,⟨#[105,114,114,101,102]⟩,⟨#[101,109,112,116,121]⟩]) hL rfl rfl (by kernel_rfl) (by kernel_rfl) Tryz.underlying113 Tryz.underlying9 (by kernel_rfl) rfl) (by decide)
 have h2 := KT (Ft (n:="loop.example/weakmemory/impl.relNames") (d:=Rows.laid_loop_example_weakmemory_impl_relNames) (g:=2) (t:=255) (e:=9)
  (ss:=[⟨#[112,111]⟩,⟨#[108,111,99]⟩,⟨#[101,120,116]⟩,⟨#[114,102]⟩,⟨#[99,111]⟩,⟨#[102,114]⟩,⟨#[102,101,110,99,101]⟩,⟨#[119,114]⟩,⟨#[119,119]⟩,⟨#[105,100]⟩]) hL rfl rfl (by kernel_rfl) (by kernel_rfl) Tryz.underlying255 Tryz.underlying9 (by kernel_rfl) rfl) (by decide)
 intro x hx;rcases List.mem_cons.1 hx with rfl | hx
 ·exact h0
 obtain rfl:=List.mem_singleton.1 hx;exact h2
theorem lawr_FnScheduleOf {w:World} (v:Value) (xs:LI) (h:Sl Ih 1 w 0 w.heap.size v xs) (hw:∀ y∈xs,(Lit.int .u8 y).wf=Ri) (hL:laidMetH Rn Rows.fnScheduleOfRow.laid w) :
  Calls Rn 3 #[v] w λe w'=>e = .returned (.bool Ri)/\Below w.heap.size w w':=
 GF (vR xs<|Od hw) rfl (Qg<|IB h) (Oe hL)
namespace fnScheduleOf
theorem own:ownKnob Rn.godebug=Rl:=by kernel_rfl
theorem laidOut:laidOutB Rn=Ri:=by kernel_rfl
theorem KU:([22].all λt=>Rn.readableRec t&&Rm (t<Rn.types.size))=Ri:=by kernel_rfl
theorem readable:∀ t∈([22]:List TypeId),Rn.readableRec t=Ri/\t<Rn.types.size:=λt ht=>by
 have := List.all_eq_true.1 KU t ht;simpa using this
theorem Ml (os:Os) (args:Array Value):laidMetH Rn Rows.fnScheduleOfRow.laid ((World.laidAll Rn os Rows.fnScheduleOfRow.laid).forCall (λ_ _=>0) ⟨#[],args,[]⟩).memory:=by
 rw [MakeChecks.laidMetH_plain _ _ _ (by kernel_rfl)];exact laidMet_laidAll _ (by kernel_rfl) (by kernel_rfl)
theorem lifted (os:Os) (started:os.Started) (H:Type) (enc:TypeId×Value->H) :
  ReturnsInHanded {} Tryz.checked os 3 .any (λw args=>(Rows.fnScheduleOfSpec.pre enc Rn Tryz.f3 [] Rj w args/\laidMetH Rn Rows.fnScheduleOfRow.laid w)/\sizedMet enc Rn Tryz.f3 (OpenSpec.ofChange Rows.fnScheduleOfSpec) Rj w args) (Rows.fnScheduleOfSpec.post enc Rn Tryz.f3 Rj Ri Rj Rj):=by
 refine returnsInHanded_of_change_and (C:=Tryz.checked) (X:=λw _=>laidMetH Rn Rows.fnScheduleOfRow.laid w) (λ_ _ _ hh h=>h.of_heap hh) own started (by kernel_rfl) func3
  (ChangeSpec.witness_shaped (enc:=enc) (C:=Tryz.checked) (os:=os) (X:=λw _=>laidMetH Rn Rows.fnScheduleOfRow.laid w) Rj (World.laidAll Rn os Rows.fnScheduleOfRow.laid) #[.slice Rl 0 0] 8 (World.laidAll_os _ _ _) (World.shaped_of_ZipB (by kernel_rfl)<|by kernel_rfl) (by kernel_rfl) (by kernel_rfl) (by kernel_rfl) (Ml os _)) ?_
 intro W base args ds gs before hval0 hW hcnd _ hL _;have hval:∀ (j:Nat) t v,Tryz.f3.params[j]? = Rk t->args[j]? = Rk v->Value.okWide Rn W .any base t v:=hval0;have hW':=hW;obtain ⟨p,q,hA0,hV,rfl,hfz,hnd⟩:=hW;have hA:DataW.TrodAll enc Rn W 0 (λ_=>Ri) Ri Tryz.f3.params.toList args.toList ds p:=hA0;rw [Tryz.params3] at hA hval;have hA1:=hA;obtain ⟨v0,vs0,d0,ds0,p0,q0,hargs0,rfl,rfl,h0,r0⟩:=trodAll_cons hA;obtain ⟨rfl,rfl,rfl⟩:=trodAll_nil r0;obtain rfl:args = #[v0]:=by cases args;simp_all
 obtain ⟨_,_,_,_,gv0,_,_,_,_,_,gv1,_,rfl,_⟩:=trodVars_two hV;obtain ⟨a0,w0,g0⟩:∃ xs:LI,Sl Ih 1 W 0 W.heap.size v0 xs/\∀ y∈xs,(Lit.int .u8 y).wf=Ri:=by
  obtain ⟨fuel,hf⟩:=h0;obtain ⟨v,hv,p,hp,hg⟩:=Me (f:=Ih) (s:=1) (by kernel_rfl) (by omega) Tryz.underlying22 (λfuel cs x h=>Pn Tryz.underlying5 fuel cs x h) hf;rw [one_cell hv (okWide_slice Tryz.underlying22<|hval 0 22 v0 rfl rfl)];exact ⟨p,hp,hg⟩
 clear hA0 hval0;simp only [List.append_nil] at hW';have hlt:=λx hx=>hW'.lt x hx;refine (lawr_FnScheduleOf v0 a0 w0 g0 hL).mono λe W' ⟨he,hg⟩ => ?_;subst he;exact ⟨_,rfl,En (pv:=q) hW' (λ_ _ _=>trodAll_cons_mk (shut_bool Tryz.underlying4 _) trodAll_mk0) (λsp hsp=>yG laidOut hg _ _ _ _ readable hA1 (λx hx=>hlt x (XC _ (by simpa using hx))) (λx hx=>hsp x (XC _ (by simpa using hx)))) (λsp hsp=>wM laidOut hg (by kernel_rfl) hV (λx hx=>hsp x (List.mem_append_right _ hx))) (by simp)
  hg (ok_one (by kernel_rfl) rfl (okWide_bool_mk Tryz.underlying4 _))⟩
theorem over:Rows.fnScheduleOfRow.holds Tryz.pinned (OpenSpec.ofChange Rows.fnScheduleOfSpec):=
 OpenClaim.holds_of_wide 3 Tryz.f3 rfl rfl rfl rfl rfl rfl rfl ⟨rfl,rfl,rfl,rfl,rfl⟩ rfl rfl rfl rfl rfl (by kernel_rfl) func3 (by kernel_rfl)
  (of_decide_eq_true<|by kernel_rfl) (by unfold Func.isWrapper;first | (rw [if_pos (by decide +kernel)];kernel_rfl) | (rw [if_neg (by decide +kernel)];exact ⟨rfl,rfl⟩))
  (λos started H enc _=>lifted os started H enc)
theorem proved:Rows.FnScheduleOfCardSaid:=
 Claim7.holds_tied_plain_at .later [] [.data,.widerDeep,.widerDeep,.pinned] true (true,"bcb36970bf49a4f5295d504a5f41662216fc143e647a958c944cd81ee6126f2e") false
  over (λ_ h=>by cases h) (by kernel_rfl) (λ_ h=>by cases h) fnScheduleOf_row_tie rfl ⟨rfl,rfl⟩ (by kernel_rfl) rfl
  (λf fn hf hfn=>by
   obtain rfl : f = 3 := osl ((show Tryz.prog.funcNamed "loop.example/weakmemory/laws.FnScheduleOf" = some 3 by kernel_rfl).symm.trans hf) |>.symm
   obtain rfl:fn=Tryz.f3:=(osl (func3.symm.trans hfn)).symm;exact ⟨by kernel_rfl,λj t ht=>by
    rw [Tryz.params3] at ht;have hm:t∈[22]:=by simpa using Array.mem_of_getElem? ht
    have hall:([22].all λu => !Rn.wantsStandIn u)=Ri:=by kernel_rfl
    exact (show Rn.wantsStandIn t=Rj by simpa using List.all_eq_true.1 hall t hm)⟩)
  (by kernel_rfl)
end fnScheduleOf
end
end Go.Proofs.YtabfkkjdfhbngaaGreatDoor
