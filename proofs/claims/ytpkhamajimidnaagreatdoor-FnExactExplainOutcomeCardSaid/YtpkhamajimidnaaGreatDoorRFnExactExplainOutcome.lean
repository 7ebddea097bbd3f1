/- Texts joined. No conditions. -/
import Derived.OpenShut
import Derived.Test.YtpkhamajimidnaaGreatDoorCards
import Derived.Test.YtpkhamajimidnaaGreatDoorTie
import Derived.ProofKit
import Derived.LaidMore
import Derived.SevenTiedAt
import Derived.Lay
import Derived.LaidOnce
import Derived.ChangeVars
import Derived.Test.YtpkhamajimidnaaGreatDoorW15
namespace Go.Proofs.YtpkhamajimidnaaGreatDoor
noncomputable section
open _root_.List renaming mem_append_left -> Wo
open Go.ChangeShapes Go.WideShapes Go.ChangeAt Go.RowKit
set_option maxRecDepth 100000
theorem Mf {W:World} (hL:laidMetH Tryz.prog Rows.fnExactExplainOutcomeRow.laid W):Gl W (λg=>g<W.heap.size):=by
 have h0 := Me (I6 (n:="loop.example/weakmemory/impl.relNames") (d:=Rows.laid_loop_example_weakmemory_impl_relNames) (g:=0) (t:=200) (e:=9)
  (ss:=[⟨#[112,111]⟩,⟨#[108,111,99]⟩,⟨#[101,120,116]⟩,⟨#[114,102]⟩,⟨#[99,111]⟩,⟨#[102,114]⟩,⟨#[102,101,110,99,101]⟩,⟨#[119,114]⟩,⟨#[119,119]⟩,⟨#[105,100]⟩]) hL rfl rfl (by kernel_rfl) (by kernel_rfl) Tryz.underlying200 Tryz.underlying9 (by kernel_rfl) rfl) (by decide)
 intro x hx;obtain rfl:=List.mem_singleton.1 hx;exact h0
theorem lawr_FnExactExplainOutcome {w:World} (v0:Value) (a:List (List ak)) (h0:FRel w (λg=>g<w.heap.size) (eL (cL ak.c) a) v0) (g0:(a.length:Int)<=9223372036854775807/\∀ r∈a,(r.length:Int)<=9223372036854775807)
  (v1:Value) (m:List ay) (h1:FRel w (λg=>g<w.heap.size) (eL (ay.c) m) v1) (g1:(m.length:Int)<=9223372036854775807/\∀ r∈m,WT r.Expr.inn)
  (v2:Value) (o:LI) (h2:FRel w (λg=>g<w.heap.size) (eL cI o) v2) (g2:(o.length:Int)<=9223372036854775807) (hL:laidMetH Tryz.prog Rows.fnExactExplainOutcomeRow.laid w) :
  Calls Tryz.prog 4 #[v0,v1,v2] w λe w'=>e = .returned (.bool true)/\Below w.heap.size w w':=
 Ey (ou a m o (OE a m o g0 g1.1 g1.2)) rfl (Oz h0 h1 h2) (Mf hL)
namespace fnExactExplainOutcome
theorem own:ownKnob Tryz.prog.godebug=none:=by kernel_rfl
theorem laidOut:laidOutB Tryz.prog=true:=by kernel_rfl
theorem I7:([22,27,23].all λt=>Tryz.prog.readableRec t&&decide (t<Tryz.prog.types.size))=true:=by kernel_rfl
theorem readable:∀ t∈([22,27,23]:List TypeId),Tryz.prog.readableRec t=true/\t<Tryz.prog.types.size:=λt ht=>by
 have := List.all_eq_true.1 I7 t ht;simpa using this
theorem Kb (os:Os) (args:Array Value):laidMetH Tryz.prog Rows.fnExactExplainOutcomeRow.laid ((World.laidAll Tryz.prog os Rows.fnExactExplainOutcomeRow.laid).forCall (λ_ _=>0) ⟨#[],args,[]⟩).memory:=by
 rw [MakeChecks.laidMetH_plain _ _ _ (by kernel_rfl)];exact laidMet_laidAll _ (by kernel_rfl) (by kernel_rfl)
theorem lifted (os:Os) (started:os.Started) (H:Type) (enc:TypeId×Value->H) :
  ReturnsInHanded {} Tryz.checked os 4 .any (λw args=>(Rows.fnExactExplainOutcomeSpec.pre enc Tryz.prog Tryz.f4 [] false w args/\laidMetH Tryz.prog Rows.fnExactExplainOutcomeRow.laid w)/\sizedMet enc Tryz.prog Tryz.f4 (OpenSpec.ofChange Rows.fnExactExplainOutcomeSpec) false w args) (Rows.fnExactExplainOutcomeSpec.post enc Tryz.prog Tryz.f4 false true false false):=by
 refine returnsInHanded_of_change_and (C:=Tryz.checked) (X:=λw _=>laidMetH Tryz.prog Rows.fnExactExplainOutcomeRow.laid w) (λ_ _ _ hh h=>h.of_heap hh) own started (by kernel_rfl) Tryz.func4
  (ChangeSpec.witness_shaped (enc:=enc) (C:=Tryz.checked) (os:=os) (X:=λw _=>laidMetH Tryz.prog Rows.fnExactExplainOutcomeRow.laid w) false (World.laidAll Tryz.prog os Rows.fnExactExplainOutcomeRow.laid) #[.slice none 0 0,.slice none 0 0,.slice none 0 0] 8 (World.laidAll_os _ _ _) (World.shaped_of_ZipB (by kernel_rfl) (by kernel_rfl)) (by kernel_rfl) (by kernel_rfl) (by kernel_rfl) (Kb os _)) ?_
 intro W base args ds gs before hval0 hW hcnd _ hL _;have hval:∀ (j:Nat) t v,Tryz.f4.params[j]? = some t->args[j]? = some v->Value.okWide Tryz.prog W .any base t v:=hval0;have hW':=hW;obtain ⟨p,q,hA0,hV,rfl,hfz,hnd⟩:=hW;have hA:DataW.TrodAll enc Tryz.prog W 0 (λ_=>true) true Tryz.f4.params.toList args.toList ds p:=hA0;rw [Tryz.params4] at hA hval;have hA1:=hA;obtain ⟨v0,vs0,d0,ds0,p0,q0,hargs0,rfl,rfl,h0,r0⟩:=trodAll_cons hA;obtain ⟨v1,vs1,d1,ds1,p1,q1,rfl,rfl,rfl,h1,r1⟩:=trodAll_cons r0;obtain ⟨v2,vs2,d2,ds2,p2,q2,rfl,rfl,rfl,h2,r2⟩:=trodAll_cons r1;obtain ⟨rfl,rfl,rfl⟩:=trodAll_nil r2;obtain rfl:args = #[v0,v1,v2]:=by cases args;simp_all
 obtain ⟨_,_,_,_,gv0,_,rfl,_⟩:=trodVars_one hV;obtain ⟨a0,w0,g0⟩:∃ l:List (List ak),FRel W (λg=>g<W.heap.size) (eL (cL ak.c) l) v0/\((l.length:Int)<=9223372036854775807/\∀ r∈l,(r.length:Int)<=9223372036854775807):=by
  obtain ⟨fuel,hf⟩:=h0;obtain ⟨v,hv,_,l,hl,hF,hg⟩:=tQ (c:=cL ak.c) (s:=1) (Good:=λl:List ak=>(l.length:Int)<=9223372036854775807/\∀ y∈l,True) (by kernel_rfl) (by omega) Tryz.underlying22 (λn cs x _ h=>L6 (s:=4) (by kernel_rfl) (by omega) Tryz.underlying47 n cs x (λn cs x _ h=>L8 Tryz.underlying92 Tryz.underlying3 ⟨rfl,rfl⟩ ⟨rfl,rfl⟩ ⟨rfl,rfl⟩ ⟨rfl,rfl⟩ (by kernel_rfl) (by kernel_rfl) n cs x h) h) hf;rw [one_cell hv (okWide_slice Tryz.underlying22 (hval 0 22 v0 rfl rfl))];exact ⟨l,hF,hl,λr hr=>(hg r hr).1⟩
 obtain ⟨a1,w1,g1⟩:∃ l:List ay,FRel W (λg=>g<W.heap.size) (eL (ay.c) l) v1/\((l.length:Int)<=9223372036854775807/\∀ r∈l,WT r.Expr.inn):=by
  obtain ⟨fuel,hf⟩:=h1;obtain ⟨v,hv,_,l,hl,hF,hg⟩:=tQ (c:=ay.c) (s:=4) (Good:=λr:ay=>WT r.Expr.inn) (by kernel_rfl) (by omega) Tryz.underlying27 (λn cs x _ h=>JY Tryz.underlying53 Tryz.underlying3 Tryz.underlying9 Tryz.underlying51 ⟨rfl,rfl⟩ ⟨rfl,rfl⟩ ⟨rfl,rfl⟩ (by kernel_rfl) (by kernel_rfl) (by kernel_rfl) (by kernel_rfl) Tryz.underlying55 ⟨rfl,rfl⟩ ⟨rfl,rfl⟩ (by kernel_rfl) n cs x h) hf;rw [one_cell hv (okWide_slice Tryz.underlying27 (hval 1 27 v1 rfl rfl))];exact ⟨l,hF,hl,hg⟩
 obtain ⟨a2,w2,g2⟩:∃ l:LI,FRel W (λg=>g<W.heap.size) (eL (cI) l) v2/\((l.length:Int)<=9223372036854775807):=by
  obtain ⟨fuel,hf⟩:=h2;obtain ⟨v,hv,_,l,hl,hF,hg⟩:=tQ (c:=cI) (s:=1) (Good:=λ_:Int=>True) (by kernel_rfl) (by omega) Tryz.underlying23 (λn cs x _ h=>LZ Tryz.underlying3 n cs x h) hf;rw [one_cell hv (okWide_slice Tryz.underlying23 (hval 2 23 v2 rfl rfl))];exact ⟨l,hF,hl⟩
 clear hA0 hval0;simp only [List.append_nil] at hW';have hlt:=λx hx=>hW'.lt x hx;refine (lawr_FnExactExplainOutcome v0 a0 w0 g0 v1 a1 w1 g1 v2 a2 w2 g2 hL).mono λe W' ⟨he,hg⟩ => ?_;subst he;exact ⟨_,rfl,Cn (pv:=q) hW' (λ_ _ _=>trodAll_cons_mk (shut_bool Tryz.underlying4 _) trodAll_mk0) (λsp hsp=>vS laidOut hg _ _ _ _ readable hA1 (λx hx=>hlt x (Wo _ (by simpa using hx))) (λx hx=>hsp x (Wo _ (by simpa using hx)))) (λsp hsp=>uY laidOut hg (by kernel_rfl) hV (λx hx=>hsp x (List.mem_append_right _ hx))) (by simp)
  hg (ok_one (by kernel_rfl) rfl (okWide_bool_mk Tryz.underlying4 _))⟩
theorem over:Rows.fnExactExplainOutcomeRow.holds Tryz.pinned (OpenSpec.ofChange Rows.fnExactExplainOutcomeSpec):=
 OpenClaim.holds_of_wide 4 Tryz.f4 rfl rfl rfl rfl rfl rfl rfl ⟨rfl,rfl,rfl,rfl,rfl⟩ rfl rfl rfl rfl rfl (by kernel_rfl) Tryz.func4 (by kernel_rfl)
  (of_decide_eq_true (by kernel_rfl)) (by unfold Func.isWrapper;first | (rw [if_pos (by decide +kernel)];kernel_rfl) | (rw [if_neg (by decide +kernel)];exact ⟨rfl,rfl⟩))
  (λos started H enc _=>lifted os started H enc)
theorem proved:Rows.FnExactExplainOutcomeCardSaid:=
 Claim7.holds_tied_plain_at .later [] [.data,.data,.data,.widerDeep] true (true,"a098362b0cb615e9718718d7f457f50216d6d403cbd23a8e3fe4497cd25c0a37") false
  over (λ_ h=>by cases h) (by kernel_rfl) (λ_ h=>by cases h) fnExactExplainOutcome_row_tie rfl ⟨rfl,rfl⟩ (by kernel_rfl) rfl
  (λf fn hf hfn=>by
   obtain rfl : f = 4 := osl ((show Tryz.prog.funcNamed "loop.example/weakmemory/laws.FnExactExplainOutcome" = some 4 by kernel_rfl).symm.trans hf) |>.symm
   obtain rfl:fn=Tryz.f4:=(osl (Tryz.func4.symm.trans hfn)).symm;exact ⟨by kernel_rfl,λj t ht=>by
    rw [Tryz.params4] at ht;have hm:t∈[22,27,23]:=by simpa using Array.mem_of_getElem? ht
    have hall:([22,27,23].all λu => !Tryz.prog.wantsStandIn u)=true:=by kernel_rfl
    exact (show Tryz.prog.wantsStandIn t=false by simpa using List.all_eq_true.1 hall t hm)⟩)
  (by kernel_rfl)
end fnExactExplainOutcome
end
end Go.Proofs.YtpkhamajimidnaaGreatDoor
