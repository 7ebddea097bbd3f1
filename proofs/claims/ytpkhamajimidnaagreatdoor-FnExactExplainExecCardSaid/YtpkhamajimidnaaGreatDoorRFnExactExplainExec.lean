/- Texts joined. No conditions. -/
import Derived.OpenShut
import Derived.Test.YtpkhamajimidnaaGreatDoorCards
import Derived.Test.YtpkhamajimidnaaGreatDoorTie
import Derived.ProofKit
import Derived.LaidMore
import Derived.SevenTiedAt
import Derived.Lay
import Derived.LaidOnce
import Derived.ChangeVars
import Derived.Test.YtpkhamajimidnaaGreatDoorV13
namespace Go.Proofs.YtpkhamajimidnaaGreatDoor
noncomputable section
open _root_.List renaming mem_append_left -> Qe
open Go.ChangeShapes Go.WideShapes Go.ChangeAt Go.RowKit
set_option maxRecDepth 100000
theorem Hy {W:World} (hL:laidMetH Tryz.prog Rows.fnExactExplainExecRow.laid W):Gl W (fun g=>g<W.heap.size):=by
 have h0 := Hw (EA (n:="loop.example/weakmemory/impl.relNames") (d:=Rows.laid_loop_example_weakmemory_impl_relNames) (g:=0) (t:=200) (e:=9)
  (ss:=[⟨#[112,111]⟩,⟨#[108,111,99]⟩,⟨#[101,120,116]⟩,⟨#[114,102]⟩,⟨#[99,111]⟩,⟨#[102,114]⟩,⟨#[102,101,110,99,101]⟩,⟨#[119,114]⟩,⟨#[119,119]⟩,⟨#[105,100]⟩]) hL rfl rfl (by kernel_rfl) (by kernel_rfl) Tryz.underlying200 Tryz.underlying9 (by kernel_rfl) rfl) (by decide)
 intro x hx;obtain rfl:=List.mem_singleton.1 hx;exact h0
theorem lawr_FnExactExplainExec {w:World} (v0:Value) (a:List (List aj)) (h0:FRel w (fun g=>g<w.heap.size) (eL (cL aj.c) a) v0) (g0:(a.length:Int)<=9223372036854775807/\∀ r∈a,(r.length:Int)<=9223372036854775807)
  (v1:Value) (x:aB) (h1:FRel w (fun g=>g<w.heap.size) (.agg (aB.c x)) v1) (g1:(x.From.length:Int)<=9223372036854775807/\(x.Order.length:Int)<=9223372036854775807/\∀ r∈x.Order,(r.length:Int)<=9223372036854775807)
  (v2:Value) (m:List au) (h2:FRel w (fun g=>g<w.heap.size) (eL (au.c) m) v2) (g2:(m.length:Int)<=9223372036854775807/\∀ r∈m,WT r.Expr.inn) (hL:laidMetH Tryz.prog Rows.fnExactExplainExecRow.laid w) :
  Calls Tryz.prog 3 #[v0,v1,v2] w fun e w'=>e = .returned (.bool true)/\Below w.heap.size w w':=
 Ah (mQ a x m (JM a x m g0 g1.1 g1.2 g2.1 g2.2)) rfl (JN h0 h1 h2) (Hy hL)
namespace fnExactExplainExec
theorem own:ownKnob Tryz.prog.godebug=none:=by kernel_rfl
theorem laidOut:laidOutB Tryz.prog=true:=by kernel_rfl
theorem EB:([22,26,27].all fun t=>Tryz.prog.readableRec t&&decide (t<Tryz.prog.types.size))=true:=by kernel_rfl
theorem readable:∀ t∈([22,26,27]:List TypeId),Tryz.prog.readableRec t=true/\t<Tryz.prog.types.size:=fun t ht=>by
 have := List.all_eq_true.1 EB t ht;simpa using this
theorem FM (os:Os) (args:Array Value):laidMetH Tryz.prog Rows.fnExactExplainExecRow.laid ((World.laidAll Tryz.prog os Rows.fnExactExplainExecRow.laid).forCall (fun _ _=>0) ⟨#[],args,[]⟩).memory:=by
 rw [MakeChecks.laidMetH_plain _ _ _ (by kernel_rfl)];exact laidMet_laidAll _ (by kernel_rfl) (by kernel_rfl)
theorem lifted (os:Os) (started:os.Started) (H:Type) (enc:TypeId×Value->H) :
  ReturnsInHanded {} Tryz.checked os 3 .any (fun w args=>(Rows.fnExactExplainExecSpec.pre enc Tryz.prog Tryz.f3 [] false w args/\laidMetH Tryz.prog Rows.fnExactExplainExecRow.laid w)/\sizedMet enc Tryz.prog Tryz.f3 (OpenSpec.ofChange Rows.fnExactExplainExecSpec) false w args) (Rows.fnExactExplainExecSpec.post enc Tryz.prog Tryz.f3 false true false false):=by
 refine returnsInHanded_of_change_and (C:=Tryz.checked) (X:=fun w _=>laidMetH Tryz.prog Rows.fnExactExplainExecRow.laid w) (fun _ _ _ hh h=>h.of_heap hh) own started (by kernel_rfl) Tryz.func3
  (ChangeSpec.witness_shaped (enc:=enc) (C:=Tryz.checked) (os:=os) (X:=fun w _=>laidMetH Tryz.prog Rows.fnExactExplainExecRow.laid w) false (World.laidAll Tryz.prog os Rows.fnExactExplainExecRow.laid) #[.slice none 0 0,.agg #[.slice none 0 0,.slice none 0 0],.slice none 0 0] 8 (World.laidAll_os _ _ _) (World.shaped_of_ZipB (by kernel_rfl) (by kernel_rfl)) (by kernel_rfl) (by kernel_rfl) (by kernel_rfl) (FM os _)) ?_
 intro W base args ds gs before hval0 hW hcnd _ hL _;have hval:∀ (j:Nat) t v,Tryz.f3.params[j]? = some t->args[j]? = some v->Value.okWide Tryz.prog W .any base t v:=hval0;have hW':=hW;obtain ⟨p,q,hA0,hV,rfl,hfz,hnd⟩:=hW;have hA:DataW.TrodAll enc Tryz.prog W 0 (fun _=>true) true Tryz.f3.params.toList args.toList ds p:=hA0;rw [Tryz.params3] at hA hval;have hA1:=hA;obtain ⟨v0,vs0,d0,ds0,p0,q0,hargs0,rfl,rfl,h0,r0⟩:=trodAll_cons hA;obtain ⟨v1,vs1,d1,ds1,p1,q1,rfl,rfl,rfl,h1,r1⟩:=trodAll_cons r0;obtain ⟨v2,vs2,d2,ds2,p2,q2,rfl,rfl,rfl,h2,r2⟩:=trodAll_cons r1;obtain ⟨rfl,rfl,rfl⟩:=trodAll_nil r2;obtain rfl:args = #[v0,v1,v2]:=by cases args;simp_all
 obtain ⟨_,_,_,_,gv0,_,rfl,_⟩:=trodVars_one hV;obtain ⟨a0,w0,g0⟩:∃ l:List (List aj),FRel W (fun g=>g<W.heap.size) (eL (cL aj.c) l) v0/\((l.length:Int)<=9223372036854775807/\∀ r∈l,(r.length:Int)<=9223372036854775807):=by
  obtain ⟨fuel,hf⟩:=h0;obtain ⟨v,hv,_,l,hl,hF,hg⟩:=nS (c:=cL aj.c) (s:=1) (Good:=fun l:List aj=>(l.length:Int)<=9223372036854775807/\∀ y∈l,True) (by kernel_rfl) (by omega) Tryz.underlying22 (fun n cs x _ h=>Ew (s:=4) (by kernel_rfl) (by omega) Tryz.underlying47 n cs x (fun n cs x _ h=>Hs Tryz.underlying92 Tryz.underlying3 ⟨rfl,rfl⟩ ⟨rfl,rfl⟩ ⟨rfl,rfl⟩ ⟨rfl,rfl⟩ (by kernel_rfl) (by kernel_rfl) n cs x h) h) hf;rw [one_cell hv (okWide_slice Tryz.underlying22 (hval 0 22 v0 rfl rfl))];exact ⟨l,hF,hl,fun r hr=>(hg r hr).1⟩
 obtain ⟨a1,w1,g1⟩:∃ e:aB,FRel W (fun g=>g<W.heap.size) (.agg (aB.c e)) v1/\((e.From.length:Int)<=9223372036854775807/\(e.Order.length:Int)<=9223372036854775807/\∀ r∈e.Order,(r.length:Int)<=9223372036854775807):=by
  obtain ⟨fuel,hf⟩:=h1;obtain ⟨cs,rfl,hsz⟩:=okWide_struct Tryz.underlying26 (hval 1 26 v1 rfl rfl);obtain ⟨e,he,hg⟩:=FD Tryz.underlying26 Tryz.underlying23 Tryz.underlying24 Tryz.underlying3 ⟨rfl,rfl⟩ ⟨rfl,rfl⟩ (by kernel_rfl) (by kernel_rfl) (by kernel_rfl) (by kernel_rfl) fuel _ _ hf;exact ⟨e,FH he,hg⟩
 obtain ⟨a2,w2,g2⟩:∃ l:List au,FRel W (fun g=>g<W.heap.size) (eL (au.c) l) v2/\((l.length:Int)<=9223372036854775807/\∀ r∈l,WT r.Expr.inn):=by
  obtain ⟨fuel,hf⟩:=h2;obtain ⟨v,hv,_,l,hl,hF,hg⟩:=nS (c:=au.c) (s:=4) (Good:=fun r:au=>WT r.Expr.inn) (by kernel_rfl) (by omega) Tryz.underlying27 (fun n cs x _ h=>FG Tryz.underlying53 Tryz.underlying3 Tryz.underlying9 Tryz.underlying51 ⟨rfl,rfl⟩ ⟨rfl,rfl⟩ ⟨rfl,rfl⟩ (by kernel_rfl) (by kernel_rfl) (by kernel_rfl) (by kernel_rfl) Tryz.underlying55 ⟨rfl,rfl⟩ ⟨rfl,rfl⟩ (by kernel_rfl) n cs x h) hf;rw [one_cell hv (okWide_slice Tryz.underlying27 (hval 2 27 v2 rfl rfl))];exact ⟨l,hF,hl,hg⟩
 clear hA0 hval0;simp only [List.append_nil] at hW';have hlt:=fun x hx=>hW'.lt x hx;refine (lawr_FnExactExplainExec v0 a0 w0 g0 v1 a1 w1 g1 v2 a2 w2 g2 hL).mono fun e W' ⟨he,hg⟩ => ?_;subst he;exact ⟨_,rfl,yl (pv:=q) hW' (fun _ _ _=>trodAll_cons_mk (shut_bool Tryz.underlying4 _) trodAll_mk0) (fun sp hsp=>rI laidOut hg _ _ _ _ readable hA1 (fun x hx=>hlt x (Qe _ (by simpa using hx))) (fun x hx=>hsp x (Qe _ (by simpa using hx)))) (fun sp hsp=>qP laidOut hg (by kernel_rfl) hV (fun x hx=>hsp x (List.mem_append_right _ hx))) (by simp)
  hg (ok_one (by kernel_rfl) rfl (okWide_bool_mk Tryz.underlying4 _))⟩
theorem over:Rows.fnExactExplainExecRow.holds Tryz.pinned (OpenSpec.ofChange Rows.fnExactExplainExecSpec):=
 OpenClaim.holds_of_wide 3 Tryz.f3 rfl rfl rfl rfl rfl rfl rfl ⟨rfl,rfl,rfl,rfl,rfl⟩ rfl rfl rfl rfl rfl (by kernel_rfl) Tryz.func3 (by kernel_rfl)
  (of_decide_eq_true (by kernel_rfl)) (by unfold Func.isWrapper;first | (rw [if_pos (by decide +kernel)];kernel_rfl) | (rw [if_neg (by decide +kernel)];exact ⟨rfl,rfl⟩))
  (fun os started H enc _=>lifted os started H enc)
theorem proved:Rows.FnExactExplainExecCardSaid:=
 Claim7.holds_tied_plain_at .later [] [.data,.data,.data,.widerDeep] true (true,"a098362b0cb615e9718718d7f457f50216d6d403cbd23a8e3fe4497cd25c0a37") false
  over (fun _ h=>by cases h) (by kernel_rfl) (fun _ h=>by cases h) fnExactExplainExec_row_tie rfl ⟨rfl,rfl⟩ (by kernel_rfl) rfl
  (fun f fn hf hfn=>by
   obtain rfl : f = 3 := osl ((show Tryz.prog.funcNamed "loop.example/weakmemory/laws.FnExactExplainExec" = some 3 by kernel_rfl).symm.trans hf) |>.symm
   obtain rfl:fn=Tryz.f3:=(osl (Tryz.func3.symm.trans hfn)).symm;exact ⟨by kernel_rfl,fun j t ht=>by
    rw [Tryz.params3] at ht;have hm:t∈[22,26,27]:=by simpa using Array.mem_of_getElem? ht
    have hall:([22,26,27].all fun u => !Tryz.prog.wantsStandIn u)=true:=by kernel_rfl
    exact (show Tryz.prog.wantsStandIn t=false by simpa using List.all_eq_true.1 hall t hm)⟩)
  (by kernel_rfl)
end fnExactExplainExec
end
end Go.Proofs.YtpkhamajimidnaaGreatDoor
