/- Texts joined. No conditions. -/
import Derived.OpenShut
import Derived.Test.YtcmimhffgmckjaaGreatDoorCards
import Derived.Test.YtcmimhffgmckjaaGreatDoorTie
import Derived.ProofKit
import Derived.LaidMore
import Derived.SevenTiedAt
import Derived.Lay
import Derived.LaidOnce
import Derived.Test.YtcmimhffgmckjaaGreatDoorV14
namespace Go.Proofs.YtcmimhffgmckjaaGreatDoor
noncomputable section
open Go.ChangeShapes Go.WideShapes Go.ChangeAt Go.RowKit
set_option maxRecDepth 100000
theorem J0 {y:Int} (h:(Lit.int .u8 y).wf=true):0<=y/\y<=255:=by
 simp only [Lit.wf,bae,dte] at h;exact ⟨h.1,h.2⟩
theorem J1 {b:LI} (hb:∀ y∈b,(Lit.int .u8 y).wf=true):jg b=some true:=by
 by_cases h:(1048576:Int)<(b.length:Int)
 ·unfold jg;exact G6 (decide_eq_true h) rfl
 ·exact Lt ⟨by omega,fun y hy=>J0 (hb y hy)⟩
theorem J2 {W:World} (hL:laidMetH Tryz.prog Rows.fnExecOfRow.laid W):Gl W (fun g=>g<W.heap.size):=by
 have h0 := Ho (CF (n:="loop.example/weakmemory/impl.ruleWords") (d:=Rows.laid_loop_example_weakmemory_impl_ruleWords) (g:=0) (t:=126) (e:=9)
  (ss:=[⟨#[]⟩,⟨#[97,99,121,99,108,105,99]⟩,⟨#[105,114,114,101,102]⟩,⟨#[101,109,112,116,121]⟩]) hL rfl rfl (by kernel_rfl) (by kernel_rfl) Tryz.underlying126 Tryz.underlying9 (by kernel_rfl) rfl) (by decide)
 have h2 := Ho (CF (n:="loop.example/weakmemory/impl.relNames") (d:=Rows.laid_loop_example_weakmemory_impl_relNames) (g:=2) (t:=266) (e:=9)
  (ss:=[⟨#[112,111]⟩,⟨#[108,111,99]⟩,⟨#[101,120,116]⟩,⟨#[114,102]⟩,⟨#[99,111]⟩,⟨#[102,114]⟩,⟨#[102,101,110,99,101]⟩,⟨#[119,114]⟩,⟨#[119,119]⟩,⟨#[105,100]⟩]) hL rfl rfl (by kernel_rfl) (by kernel_rfl) Tryz.underlying266 Tryz.underlying9 (by kernel_rfl) rfl) (by decide)
 intro x hx;rcases List.mem_cons.1 hx with rfl | hx
 ·exact h0
 ·obtain rfl:=List.mem_singleton.1 hx;exact h2
theorem lawr_FnExecOf {w:World} (v:Value) (xs:LI) (h:Sl Ez 1 w 0 w.heap.size v xs) (hw:∀ y∈xs,(Lit.int .u8 y).wf=true) (hL:laidMetH Tryz.prog Rows.fnExecOfRow.laid w) :
  Calls Tryz.prog 3 #[v] w fun e w'=>e = .returned (.bool true)/\Below w.heap.size w w':=
 Dz (xW xs (J1 hw)) rfl (LD (ET h)) (J2 hL)
namespace fnExecOf
theorem own:ownKnob Tryz.prog.godebug=none:=by kernel_rfl
theorem laidOut:laidOutB Tryz.prog=true:=by kernel_rfl
theorem Hp:([22].all fun t=>Tryz.prog.readableRec t&&decide (t<Tryz.prog.types.size))=true:=by kernel_rfl
theorem readable:∀ t∈([22]:List TypeId),Tryz.prog.readableRec t=true/\t<Tryz.prog.types.size:=fun t ht=>by
 have := List.all_eq_true.1 Hp t ht;simpa using this
theorem IY (os:Os) (args:Array Value):laidMetH Tryz.prog Rows.fnExecOfRow.laid ((World.laidAll Tryz.prog os Rows.fnExecOfRow.laid).forCall (fun _ _=>0) ⟨#[],args,[]⟩).memory:=by
 rw [MakeChecks.laidMetH_plain _ _ _ (by kernel_rfl)];exact laidMet_laidAll _ (by kernel_rfl) (by kernel_rfl)
theorem lifted (os:Os) (started:os.Started) (H:Type) (enc:TypeId×Value->H) :
  ReturnsInHanded {} Tryz.checked os 3 .any (fun w args=>(Rows.fnExecOfSpec.pre enc Tryz.prog Tryz.f3 [] false w args/\laidMetH Tryz.prog Rows.fnExecOfRow.laid w)/\sizedMet enc Tryz.prog Tryz.f3 (OpenSpec.ofChange Rows.fnExecOfSpec) false w args) (Rows.fnExecOfSpec.post enc Tryz.prog Tryz.f3 false true false false):=by
 refine returnsInHanded_of_change_and (C:=Tryz.checked) (X:=fun w _=>laidMetH Tryz.prog Rows.fnExecOfRow.laid w) (fun _ _ _ hh h=>h.of_heap hh) own started (by kernel_rfl) Tryz.func3
  (ChangeSpec.witness_shaped (enc:=enc) (C:=Tryz.checked) (os:=os) (X:=fun w _=>laidMetH Tryz.prog Rows.fnExecOfRow.laid w) false (World.laidAll Tryz.prog os Rows.fnExecOfRow.laid) #[.slice none 0 0] 8 (World.laidAll_os _ _ _) (World.shaped_of_ZipB (by kernel_rfl) (by kernel_rfl)) (by kernel_rfl) (by kernel_rfl) (by kernel_rfl) (IY os _)) ?_
 intro W base args ds gs before hval0 hW hcnd _ hL _;have hval:∀ (j:Nat) t v,Tryz.f3.params[j]? = some t->args[j]? = some v->Value.okWide Tryz.prog W .any base t v:=hval0;have hW':=hW;obtain ⟨p,q,hA0,hV,rfl,hfz,hnd⟩:=hW;have hA:DataW.TrodAll enc Tryz.prog W 0 (fun _=>true) true Tryz.f3.params.toList args.toList ds p:=hA0;rw [Tryz.params3] at hA hval;have hA1:=hA;obtain ⟨v0,vs0,d0,ds0,p0,q0,hargs0,rfl,rfl,h0,r0⟩:=trodAll_cons hA;obtain ⟨rfl,rfl,rfl⟩:=trodAll_nil r0;obtain rfl:args = #[v0]:=by cases args;simp_all
 obtain ⟨_,_,_,_,gv0,_,_,_,_,_,gv1,_,rfl,_⟩:=trodVars_two hV;obtain ⟨a0,w0,g0⟩:∃ xs:LI,Sl Ez 1 W 0 W.heap.size v0 xs/\∀ y∈xs,(Lit.int .u8 y).wf=true:=by
  obtain ⟨fuel,hf⟩:=h0;obtain ⟨v,hv,p,hp,hg⟩:=IV (f:=Ez) (s:=1) (by kernel_rfl) (by omega) Tryz.underlying22 (fun fuel cs x h=>KW Tryz.underlying5 fuel cs x h) hf;rw [one_cell hv (okWide_slice Tryz.underlying22 (hval 0 22 v0 rfl rfl))];exact ⟨p,hp,hg⟩
 clear hA0 hval0;simp only [List.append_nil] at hW';have hlt:=fun x hx=>hW'.lt x hx;refine (lawr_FnExecOf v0 a0 w0 g0 hL).mono fun e W' ⟨he,hg⟩ => ?_;subst he;exact ⟨_,rfl,BJ (pv:=q) hW' (fun _ _ _=>trodAll_cons_mk (shut_bool Tryz.underlying4 _) trodAll_mk0) (fun sp hsp=>wJ laidOut hg _ _ _ _ readable hA1 (fun x hx=>hlt x (List.mem_append_left _ (by simpa using hx))) (fun x hx=>hsp x (List.mem_append_left _ (by simpa using hx)))) (fun sp hsp=>ve laidOut hg (by kernel_rfl) hV (fun x hx=>hsp x (List.mem_append_right _ hx))) (by simp)
  hg (ok_one (by kernel_rfl) rfl (okWide_bool_mk Tryz.underlying4 _))⟩
theorem over:Rows.fnExecOfRow.holds Tryz.pinned (OpenSpec.ofChange Rows.fnExecOfSpec):=
 OpenClaim.holds_of_wide 3 Tryz.f3 rfl rfl rfl rfl rfl rfl rfl ⟨rfl,rfl,rfl,rfl,rfl⟩ rfl rfl rfl rfl rfl (by kernel_rfl) Tryz.func3 (by kernel_rfl)
  (of_decide_eq_true (by kernel_rfl)) (by unfold Func.isWrapper;first | (rw [if_pos (by decide +kernel)];kernel_rfl) | (rw [if_neg (by decide +kernel)];exact ⟨rfl,rfl⟩))
  (fun os started H enc _=>lifted os started H enc)
theorem proved:Rows.FnExecOfCardSaid:=
 Claim7.holds_tied_plain_at .later [] [.data,.widerDeep,.widerDeep,.pinned] true (true,"cb99536a718d677be125fa47655bbb725e4f174f77e1073cc546a61afc1a543c") false
  over (fun _ h=>by cases h) (by kernel_rfl) (fun _ h=>by cases h) fnExecOf_row_tie rfl ⟨rfl,rfl⟩ (by kernel_rfl) rfl
  (fun f fn hf hfn=>by
   obtain rfl : f = 3 := osl ((show Tryz.prog.funcNamed "loop.example/weakmemory/laws.FnExecOf" = some 3 by kernel_rfl).symm.trans hf) |>.symm
   obtain rfl:fn=Tryz.f3:=(osl (Tryz.func3.symm.trans hfn)).symm;exact ⟨by kernel_rfl,fun j t ht=>by
    rw [Tryz.params3] at ht;have hm:t∈[22]:=by simpa using Array.mem_of_getElem? ht
    have hall:([22].all fun u => !Tryz.prog.wantsStandIn u)=true:=by kernel_rfl
    exact (show Tryz.prog.wantsStandIn t=false by simpa using List.all_eq_true.1 hall t hm)⟩)
  (by kernel_rfl)
end fnExecOf
end
end Go.Proofs.YtcmimhffgmckjaaGreatDoor
