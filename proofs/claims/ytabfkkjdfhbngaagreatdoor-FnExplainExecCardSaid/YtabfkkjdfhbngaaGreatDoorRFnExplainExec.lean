/- Texts joined. No conditions. -/
import Derived.OpenShut
import Derived.Test.YtabfkkjdfhbngaaGreatDoorCards
import Derived.Test.YtabfkkjdfhbngaaGreatDoorTie
import Derived.ProofKit
import Derived.LaidMore
import Derived.SevenTiedAt
import Derived.Lay
import Derived.LaidOnce
import Derived.Test.YtabfkkjdfhbngaaGreatDoorV14
namespace Go.Proofs.YtabfkkjdfhbngaaGreatDoor
noncomputable section
open _root_.Bool renaming true -> QX
open _root_.Bool renaming false -> QY
open _root_.Option renaming some -> QZ
open _root_.Option renaming none -> Q0
open _root_.Decidable renaming decide -> Q3
open _root_.Go.Proofs.Tryz
open _root_.Go.Proofs.Tryz renaming prog -> Q4
open _root_.List renaming mem_append_left -> Wz
open Go.ChangeShapes Go.WideShapes Go.ChangeAt Go.RowKit
set_option maxRecDepth 100000
theorem NB {y:Int} (h:(Lit.int .u8 y).wf=QX):0<=y/\y<=255:=by
 simp only [Lit.wf,bae,dte] at h;exact ⟨h.1,h.2⟩
theorem NC {b:LI} (hb:∀ y∈b,(Lit.int .u8 y).wf=QX):db b=QZ QX:=by
 by_cases h:(1048576:Int)<(b.length:Int)
 ·unfold db;exact Kb (decide_eq_true h) rfl
 exact PL ⟨by omega,λy hy=>NB<|hb y hy⟩
theorem ND {W:World} (hL:laidMetH Q4 Rows.fnExplainExecRow.laid W):Gl W (λg=>g<W.heap.size):=by
 have h0 := NA (Ky (n:="loop.example/weakmemory/impl.relNames") (d:=Rows.laid_loop_example_weakmemory_impl_relNames) (g:=2) (t:=255) (e:=9)
  (ss:=[⟨#[112,111]⟩,⟨#[108,111,99]⟩,⟨#[101,120,116]⟩,⟨#[114,102]⟩,⟨#[99,111]⟩,⟨#[102,114]⟩,⟨#[102,101,110,99,101]⟩,⟨#[119,114]⟩,⟨#[119,119]⟩,⟨#[105,100]⟩]) hL rfl rfl (by kernel_rfl) (by kernel_rfl) Tryz.underlying255 Tryz.underlying9 (by kernel_rfl) rfl) (by decide)
 intro x hx;obtain rfl:=List.mem_singleton.1 hx;exact h0
theorem lawr_FnExplainExec {w:World} (v:Value) (xs:LI) (h:Sl H6 1 w 0 w.heap.size v xs) (hw:∀ y∈xs,(Lit.int .u8 y).wf=QX) (hL:laidMetH Q4 Rows.fnExplainExecRow.laid w) :
  Calls Q4 4 #[v] w λe w'=>e = .returned (.bool QX)/\Below w.heap.size w w':=
 Gy (ve xs<|NC hw) rfl (PT<|Iv h) (ND hL)
namespace fnExplainExec
theorem own:ownKnob Q4.godebug=Q0:=by kernel_rfl
theorem laidOut:laidOutB Q4=QX:=by kernel_rfl
theorem Kz:([22].all λt=>Q4.readableRec t&&Q3 (t<Q4.types.size))=QX:=by kernel_rfl
theorem readable:∀ t∈([22]:List TypeId),Q4.readableRec t=QX/\t<Q4.types.size:=λt ht=>by
 have := List.all_eq_true.1 Kz t ht;simpa using this
theorem LF (os:Os) (args:Array Value):laidMetH Q4 Rows.fnExplainExecRow.laid ((World.laidAll Q4 os Rows.fnExplainExecRow.laid).forCall (λ_ _=>0) ⟨#[],args,[]⟩).memory:=by
 rw [MakeChecks.laidMetH_plain _ _ _ (by kernel_rfl)];exact laidMet_laidAll _ (by kernel_rfl) (by kernel_rfl)
theorem lifted (os:Os) (started:os.Started) (H:Type) (enc:TypeId×Value->H) :
  ReturnsInHanded {} Tryz.checked os 4 .any (λw args=>(Rows.fnExplainExecSpec.pre enc Q4 Tryz.f4 [] QY w args/\laidMetH Q4 Rows.fnExplainExecRow.laid w)/\sizedMet enc Q4 Tryz.f4 (OpenSpec.ofChange Rows.fnExplainExecSpec) QY w args) (Rows.fnExplainExecSpec.post enc Q4 Tryz.f4 QY QX QY QY):=by
 refine returnsInHanded_of_change_and (C:=Tryz.checked) (X:=λw _=>laidMetH Q4 Rows.fnExplainExecRow.laid w) (λ_ _ _ hh h=>h.of_heap hh) own started (by kernel_rfl) func4
  (ChangeSpec.witness_shaped (enc:=enc) (C:=Tryz.checked) (os:=os) (X:=λw _=>laidMetH Q4 Rows.fnExplainExecRow.laid w) QY (World.laidAll Q4 os Rows.fnExplainExecRow.laid) #[.slice Q0 0 0] 8 (World.laidAll_os _ _ _) (World.shaped_of_ZipB (by kernel_rfl)<|by kernel_rfl) (by kernel_rfl) (by kernel_rfl) (by kernel_rfl) (LF os _)) ?_
 intro W base args ds gs before hval0 hW hcnd _ hL _;have hval:∀ (j:Nat) t v,Tryz.f4.params[j]? = QZ t->args[j]? = QZ v->Value.okWide Q4 W .any base t v:=hval0;have hW':=hW;obtain ⟨p,q,hA0,hV,rfl,hfz,hnd⟩:=hW;have hA:DataW.TrodAll enc Q4 W 0 (λ_=>QX) QX Tryz.f4.params.toList args.toList ds p:=hA0;rw [Tryz.params4] at hA hval;have hA1:=hA;obtain ⟨v0,vs0,d0,ds0,p0,q0,hargs0,rfl,rfl,h0,r0⟩:=trodAll_cons hA;obtain ⟨rfl,rfl,rfl⟩:=trodAll_nil r0;obtain rfl:args = #[v0]:=by cases args;simp_all
 obtain ⟨_,_,_,_,gv0,_,rfl,_⟩:=trodVars_one hV;obtain ⟨a0,w0,g0⟩:∃ xs:LI,Sl H6 1 W 0 W.heap.size v0 xs/\∀ y∈xs,(Lit.int .u8 y).wf=QX:=by
  obtain ⟨fuel,hf⟩:=h0;obtain ⟨v,hv,p,hp,hg⟩:=Lv (f:=H6) (s:=1) (by kernel_rfl) (by omega) Tryz.underlying22 (λfuel cs x h=>O5 Tryz.underlying5 fuel cs x h) hf;rw [one_cell hv (okWide_slice Tryz.underlying22<|hval 0 22 v0 rfl rfl)];exact ⟨p,hp,hg⟩
 clear hA0 hval0;simp only [List.append_nil] at hW';have hlt:=λx hx=>hW'.lt x hx;refine (lawr_FnExplainExec v0 a0 w0 g0 hL).mono λe W' ⟨he,hg⟩ => ?_;subst he;exact ⟨_,rfl,Eo (pv:=q) hW' (λ_ _ _=>trodAll_cons_mk (shut_bool Tryz.underlying4 _) trodAll_mk0) (λsp hsp=>yz laidOut hg _ _ _ _ readable hA1 (λx hx=>hlt x (Wz _ (by simpa using hx))) (λx hx=>hsp x (Wz _ (by simpa using hx)))) (λsp hsp=>wZ laidOut hg (by kernel_rfl) hV (λx hx=>hsp x (List.mem_append_right _ hx))) (by simp)
  hg (ok_one (by kernel_rfl) rfl (okWide_bool_mk Tryz.underlying4 _))⟩
theorem over:Rows.fnExplainExecRow.holds Tryz.pinned (OpenSpec.ofChange Rows.fnExplainExecSpec):=
 OpenClaim.holds_of_wide 4 Tryz.f4 rfl rfl rfl rfl rfl rfl rfl ⟨rfl,rfl,rfl,rfl,rfl⟩ rfl rfl rfl rfl rfl (by kernel_rfl) func4 (by kernel_rfl)
  (of_decide_eq_true<|by kernel_rfl) (by unfold Func.isWrapper;first | (rw [if_pos (by decide +kernel)];kernel_rfl) | (rw [if_neg (by decide +kernel)];exact ⟨rfl,rfl⟩))
  (λos started H enc _=>lifted os started H enc)
theorem proved:Rows.FnExplainExecCardSaid:=
 Claim7.holds_tied_plain_at .later [] [.data,.data,.data,.widerDeep] true (true,"bcb36970bf49a4f5295d504a5f41662216fc143e647a958c944cd81ee6126f2e") false
  over (λ_ h=>by cases h) (by kernel_rfl) (λ_ h=>by cases h) fnExplainExec_row_tie rfl ⟨rfl,rfl⟩ (by kernel_rfl) rfl
  (λf fn hf hfn=>by
   obtain rfl : f = 4 := osl ((show Tryz.prog.funcNamed "loop.example/weakmemory/laws.FnExplainExec" = some 4 by kernel_rfl).symm.trans hf) |>.symm
   obtain rfl:fn=Tryz.f4:=(osl (func4.symm.trans hfn)).symm;exact ⟨by kernel_rfl,λj t ht=>by
    rw [Tryz.params4] at ht;have hm:t∈[22]:=by simpa using Array.mem_of_getElem? ht
    have hall:([22].all λu => !Q4.wantsStandIn u)=QX:=by kernel_rfl
    exact (show Q4.wantsStandIn t=QY by simpa using List.all_eq_true.1 hall t hm)⟩)
  (by kernel_rfl)
end fnExplainExec
end
end Go.Proofs.YtabfkkjdfhbngaaGreatDoor
