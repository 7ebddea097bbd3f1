/-
 FnSameTrace's plain function is true at all codes. Plain theorems. No conditions.
-/
import Derived.Test.YtlmjnhnpahicmaaDt8
import Derived.Test.YtlmjnhnpahicmaaDsc
import Derived.Test.YtlmjnhnpahicmaaS32d
import Derived.Test.YtlmjnhnpahicmaaD26
namespace Go.Proofs.Ytlmjnhnpahicmaa
open Go.RowKit
set_option maxRecDepth 100000
theorem drawST {b:List Int} (hb:Bts b):Ret (F_spec_DrawSameTrace b) fun v=>Sm v.1/\v.2.1.length<=100/\v.2.2.length<=100:=by
 unfold F_spec_DrawSameTrace
 exact (open_ret hb).bind fun r h=>(l1Draw_ret h.mk' (by omega) parse_ok).bind fun v ⟨a1,a2⟩=>(sched_ret a1.mk' (by omega) a2).bind fun u ⟨b1,b2⟩=>(sched_ret b1.mk' (by omega) a2).bind fun x hx => .pure ⟨smP_Sm a2,b2,hx.2⟩
theorem ordF_mem {p:List (List ZIn)} (hp:PV p) {s:List Int} (hw:Whole p s) (n:Int):n∈[0,1,2]++ordF p s s.length↔0<=n/\n<((evs p).length:Int):=(whole_run hp hw).mem n
theorem least_same {p:List (List ZIn)} {a b:List Int} (hsz:p.length<=1048576/\total p<=1048576) (ha:a.length<=1048576) (hb:b.length<=1048576) (hwa:Whole p a) (hwb:Whole p b) (e:runX p (ordF p a a.length)=runX p (ordF p b b.length)) :
  ∃ l,F_impl_LeastSchedule p a=some (l,true)/\F_impl_LeastSchedule p b=some (l,true)/\l.length<=21:=by
 have hp:=PV.of hwa.1
 obtain ⟨l,c,e1,_,hl,hw,_,hg⟩:=least_ret hsz ha
 obtain ⟨l',c',e1',_,hl',hw',_,hg'⟩:=least_ret hsz hb
 obtain rfl:=hw.2 hwa
 obtain rfl:=hw'.2 hwb
 have g:=hg rfl
 have g':=hg' rfl
 rw [<- e] at g'
 have g2:=g'.congr (F':=[0,1,2]++ordF p a a.length) fun n=>by rw [ordF_mem hp hwa,ordF_mem hp hwb]
 have : l'=l:=Gr.uniq g2 g
 subst this
 exact ⟨_,e1,e1',hl⟩
theorem law32 {code:List Int} (hb:Bts code):F_laws_FnSameTrace code=some true:=by
 refine Ret.eq ?_
 unfold F_laws_FnSameTrace
 refine .bifD (fun _ => .pure rfl) fun _ => ?_
 refine (drawST hb).bind fun v ⟨hsm,hsa,hsb⟩ => ?_
 obtain ⟨p,a,b⟩:=v
 simp only at hsm hsa hsb ⊢
 have hsz:=hsm.sz
 obtain ⟨c,x1,x2,x3,hwa⟩:=execOf_ret p hsz (s:=a) (by omega)
 obtain ⟨d,y1,y2,y3,hwb⟩:=execOf_ret p hsz (s:=b) (by omega)
 have i1:=isameTrace_ret p x1 y1 x3
 have i2:=isameTrace_ret p y1 x1 y3
 have s1:Ret (F_spec_SameTrace p a b) (· = (c&&d&&same (exOf p a c) (exOf p b d))):=by
  obtain ⟨r,q1,q2⟩:=sameTrace_ret p hsz (a:=a) (b:=b) (by omega) (by omega)
  obtain ⟨v,q3,q4⟩:=i1
  rw [q1] at q3
  obtain rfl:=Option.some.inj q3
  exact .of q2 q4
 have esym:(d&&c&&same (exOf p b d) (exOf p a c))=(c&&d&&same (exOf p a c) (exOf p b d)):=by
  rw [Bool.and_comm d c]
  congr 1
  unfold same
  rw [decide_eq_decide.2 (eq_comm (a:=(exOf p b d).From)),decide_eq_decide.2 (eq_comm (a:=(exOf p b d).Order))]
 generalize hE:(c&&d&&same (exOf p a c) (exOf p b d))=E at i1 s1 esym
 rw [esym] at i2
 refine i1.bind fun v3 h3=>s1.bind fun v4 h4 => ?_
 subst h3 h4
 refine Ret.bind (P:=(· = false)) (.bif (fun h=>by simp at h) fun _=>i2.bind fun v hv => .pure (by rw [hv];simp)) fun s5 h5 => ?_
 subst h5
 refine Ret.bind (P:=(· = !v4)) (.bif (fun h=>by cases h) fun _ => .pure rfl) fun s8 h8 => ?_
 subst h8
 refine .bif (fun h => ?_) fun h => ?_
 ·refine s1.bind fun v hv => ?_
  subst hv
  exact Ret.bind (P:=(· = true)) (.bif (fun _=>i2.bind fun v hv => .pure (by rw [hv];simp)) fun h=>by simp at h) fun v hv => .pure hv
 have hE:(c&&d&&same (exOf p a c) (exOf p b d))=true:=by rw [hE];simpa using h
 rw [Bool.and_eq_true,Bool.and_eq_true] at hE
 obtain ⟨⟨rfl,rfl⟩,hs⟩:=hE
 have hWa:=hwa.1 rfl
 have hWb:=hwb.1 rfl
 have er:runX p (ordF p a a.length)=runX p (ordF p b b.length):=by
  unfold same at hs
  rw [Bool.and_eq_true,decide_eq_true_eq,decide_eq_true_eq] at hs
  exact Prod.ext hs.1 hs.2
 obtain ⟨l,e1,e2,hl⟩:=least_same hsz (by omega) (by omega) hWa hWb er
 obtain ⟨o,r1,r2,ho⟩:=outcome_same hsz (s:=a) (s':=b) (by omega) (by omega) hWa hWb er
 refine (Ret.of (P:=(· = (l,true))) e1 rfl).bind fun v15 h15=>(Ret.of (P:=(· = (l,true))) e2 rfl).bind fun v16 h16=>(Ret.of (P:=(· = (o,true))) r1 rfl).bind fun v17 h17=>(Ret.of (P:=(· = (o,true))) r2 rfl).bind fun v18 h18 => ?_
 subst h15 h16 h17 h18
 refine Ret.bind (P:=(· = true)) (.pure rfl) fun s19 h19 => ?_
 subst h19
 refine Ret.bind (P:=(· = true)) (Ret.bind (P:=(· = true)) (wmInts_ret l (by omega)) fun v hv => .pure hv) fun s21 h21 => ?_
 subst h21
 refine Ret.bind (P:=(· = true)) (.pure rfl) fun s24 h24 => ?_
 subst h24
 refine Ret.bind (P:=(· = true)) (.pure rfl) fun s26 h26 => ?_
 subst h26
 exact Ret.bind (P:=(· = true)) (Ret.bind (P:=(· = true)) (wmInts_ret o (by omega)) fun v hv => .pure hv) fun v hv => .pure hv
end Go.Proofs.Ytlmjnhnpahicmaa
