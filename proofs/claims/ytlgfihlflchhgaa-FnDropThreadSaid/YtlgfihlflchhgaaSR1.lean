/-
 The program's code computes the functions over plain values; printed by lift.py. No conditions.
-/
import Derived.Test.YtlgfihlflchhgaaSRd
import Derived.Test.YtlgfihlflchhgaaSf
import Derived.Test.YtlgfihlflchhgaaGH
import Derived.Test.YtlgfihlflchhgaaBrV
import Derived.Test.YtlgfihlflchhgaaSQ1
namespace Go.Proofs.Ytlgfihlflchhgaa
open Go.RowKit
set_option maxRecDepth 100000
theorem F_spec_l1Tests_P {q:(List ByteArray)} (h:F_spec_l1Tests=some q):PCall Try.prog 59 [] (eL cS q):=by
 refine PCall.mkT Try.func59 rfl (by kernel_rfl) rfl (by kernel_rfl) (e0:=envOf []) wkN (T.sr (oN as' (TO.nil (T.sr (oN (EvN.mkF (c:=cS) ([(⟨#[120,61,49,59,97,61,121,124,121,61,49,59,97,61,120]⟩:ByteArray),(⟨#[120,61,49,59,102,101,110,99,101,59,97,61,121,124,121,61,49,59,102,101,110,99,101,59,97,61,120]⟩:ByteArray),(⟨#[120,61,49,59,121,61,49,124,97,61,121,59,98,61,120]⟩:ByteArray),(⟨#[120,61,49,59,121,61,49,124,97,61,121,59,102,101,110,99,101,59,98,61,120]⟩:ByteArray),(⟨#[120,61,49,59,102,101,110,99,101,59,121,61,49,124,97,61,121,59,98,61,120]⟩:ByteArray),(⟨#[97,61,120,59,121,61,49,124,97,61,121,59,120,61,49]⟩:ByteArray),(⟨#[97,61,120,59,121,61,97,124,97,61,121,59,120,61,97]⟩:ByteArray),(⟨#[120,61,49,124,120,61,50,124,97,61,120,59,98,61,120]⟩:ByteArray),(⟨#[120,61,49,124,121,61,49,124,97,61,120,59,98,61,121,124,97,61,121,59,98,61,120]⟩:ByteArray),(⟨#[120,61,49,124,97,61,120,59,121,61,49,124,97,61,121,59,98,61,120]⟩:ByteArray),(⟨#[120,61,49,124,121,61,49,124,97,61,120,59,98,61,121]⟩:ByteArray),(⟨#[97,61,120,58,49,124,97,61,120,58,50,124,120,61,51]⟩:ByteArray),(⟨#[120,61,49,59,97,61,120,59,98,61,121,124,121,61,49,59,97,61,121,59,98,61,120]⟩:ByteArray),(⟨#[120,61,50,59,121,61,49,124,121,61,50,59,120,61,49]⟩:ByteArray),(⟨#[97,61,120,58,49,59,98,61,121,124,97,61,121,58,49,59,98,61,120]⟩:ByteArray),(⟨#[120,61,49,59,120,61,50,124,97,61,120,59,98,61,120]⟩:ByteArray),(⟨#[120,61,49,59,121,61,49,59,97,61,122,124,122,61,49,59,97,61,121,59,98,61,120]⟩:ByteArray),(⟨#[97,61,120,58,49,124,98,61,120,58,49]⟩:ByteArray),(⟨#[102,101,110,99,101]⟩:ByteArray),(⟨#[]⟩:ByteArray),(⟨#[120,61,49,59,97,61,121,124,121,61,49,59,102,101,110,99,101,59,97,61,120]⟩:ByteArray)]:List ByteArray) [[St (⟨#[120,61,49,59,97,61,121,124,121,61,49,59,97,61,120]⟩:ByteArray)],[St (⟨#[120,61,49,59,102,101,110,99,101,59,97,61,121,124,121,61,49,59,102,101,110,99,101,59,97,61,120]⟩:ByteArray)],[St (⟨#[120,61,49,59,121,61,49,124,97,61,121,59,98,61,120]⟩:ByteArray)],[St (⟨#[120,61,49,59,121,61,49,124,97,61,121,59,102,101,110,99,101,59,98,61,120]⟩:ByteArray)],[St (⟨#[120,61,49,59,102,101,110,99,101,59,121,61,49,124,97,61,121,59,98,61,120]⟩:ByteArray)],[St (⟨#[97,61,120,59,121,61,49,124,97,61,121,59,120,61,49]⟩:ByteArray)],[St (⟨#[97,61,120,59,121,61,97,124,97,61,121,59,120,61,97]⟩:ByteArray)],[St (⟨#[120,61,49,124,120,61,50,124,97,61,120,59,98,61,120]⟩:ByteArray)],[St (⟨#[120,61,49,124,121,61,49,124,97,61,120,59,98,61,121,124,97,61,121,59,98,61,120]⟩:ByteArray)],[St (⟨#[120,61,49,124,97,61,120,59,121,61,49,124,97,61,121,59,98,61,120]⟩:ByteArray)],[St (⟨#[120,61,49,124,121,61,49,124,97,61,120,59,98,61,121]⟩:ByteArray)],[St (⟨#[97,61,120,58,49,124,97,61,120,58,50,124,120,61,51]⟩:ByteArray)],[St (⟨#[120,61,49,59,97,61,120,59,98,61,121,124,121,61,49,59,97,61,121,59,98,61,120]⟩:ByteArray)],[St (⟨#[120,61,50,59,121,61,49,124,121,61,50,59,120,61,49]⟩:ByteArray)],[St (⟨#[97,61,120,58,49,59,98,61,121,124,97,61,121,58,49,59,98,61,120]⟩:ByteArray)],[St (⟨#[120,61,49,59,120,61,50,124,97,61,120,59,98,61,120]⟩:ByteArray)],[St (⟨#[120,61,49,59,121,61,49,59,97,61,122,124,122,61,49,59,97,61,121,59,98,61,120]⟩:ByteArray)],[St (⟨#[97,61,120,58,49,124,98,61,120,58,49]⟩:ByteArray)],[St (⟨#[102,101,110,99,101]⟩:ByteArray)],[St (⟨#[]⟩:ByteArray)],[St (⟨#[120,61,49,59,97,61,121,124,121,61,49,59,102,101,110,99,101,59,97,61,120]⟩:ByteArray)]] sl95 rfl rfl rfl (fun _=>rfl) (fun _=>rfl) rfl) ?_)))))
 refine oN as' (TO.nil (T.ret ?_))
 obtain rfl:=osj h
 exact finR rfl rfl rfl
theorem F_spec_l17Cut_P (s:ByteArray) (c:Int) {q:(List ByteArray)} (h:F_spec_l17Cut s c=some q):PCall Try.prog 61 [St s,Y c] (eL cS q):=by
 refine pM Try.func61 rfl (by kernel_rfl) rfl (T.sr (oN as' (TO.nil (T.sr (oA (EvA.mkO (c:=cS) ([]:List ByteArray) [] sl95 rfl rfl rfl (fun _=>rfl) rfl rfl) (oN (EvN.asg (hS false 0 0 1 (([]:List ByteArray).length)) rfl) (TO.nil (T.sr (oN as' (TO.nil ?_))))))))))
 refine T.jF (G:=Nat) h (fun s1 gh=>True) (fun s1 gh=>[(5,hS false 0 gh 1 s1.length)]) (fun s1 gh=>[bE false gh 1 9 (s1.map cS)]) (fun s1 u19 h hg => ?_) (fun s1 h => ?_)
 ·refine T.sr (oN mv (oN (EvN.asg (hS false 0 u19 1 s1.length) rfl) (TO.nil (T.ret ?_))))
  obtain rfl:=osj h
  repeat (first|refine retS ?_|refine retB ?_)
  exact Fin.ret (vs:=[hS false 0 u19 1 s1.length]) (.cons (.tmp rfl) .nil) (Fz.own (g:=false) (ver:=u19) (l:=s1) rfl rfl rfl nofun (fun _=>rfl))
 ·refine T.sr (oN as' (TO.nil (T.block ?_)))
  refine T.loop (S:=(List ByteArray)×Int×Int) (G:=Nat) (F_spec_l17Cut_L6 s c) (fun s5 gh=>True) (fun s5 gh=>[(7,I s5.2.1),(6,I s5.2.2),(5,hS false 0 gh 1 s5.1.length),(0,St s),(1,Y c)]) (fun s5 gh=>[bE false gh 1 9 (s5.1.map cS)]) (s0:=(([]:List ByteArray),(0:Int),(0:Int))) 0 h trivial (kw rfl rfl) (fun s5 u7 ws5 h hg => ?_)
  refine T.seq (T.sr (oN mv (oN mv (oN (EvN.lenst Try.underlying9 rfl) (oN (EvN.ile rfl rfl) (TO.nil ?_))))))
  refine T.ifH rfl h (fun q8 h => ?_) (fun q8 h => ?_)
  ·refine T.skip ?_
   refine T.jF (G:=Nat) h (fun s9 gh=>True) (fun s9 gh=>[(6,I s9.2),(5,hS false 0 gh 1 s9.1.length),(7,I s5.2.1),(0,St s),(1,Y c)]) (fun s9 gh=>[bE false gh 1 9 (s9.1.map cS)]) (fun s9 u17 h hg => ?_) (fun s9 h => ?_)
   ·refine T.region (oN mv (jW h fun g18 h=>oN (EvN.add rfl rfl g18) (oN as' (TO.nil ?_))))
    obtain rfl:=osj h
    exact ⟨(s9.1,(s5.2.1+(1:Int)),s9.2),u17,rfl,trivial,kw rfl rfl⟩
   ·refine T.block (T.sr (oN mv (oN mv (oN (EvN.lenst Try.underlying9 rfl) (oN (EvN.ieq rfl rfl) (oN mv ?_))))))
    refine TO.jB h 6 (fun s10=>[(25,Bo s10),(7,I s5.2.1),(6,I s5.2.2),(5,hS false 0 u7 1 s5.1.length),(0,St s),(1,Y c)]) (fun s10=>[bE false u7 1 9 (s5.1.map cS)]) (fun s10 q11 h js10 => ?_) (fun s10 q11 h js10 => ?_) (fun s10 h => ?_)
    ·refine gS rfl q11 (gS rfl q11 (gS rfl q11 (gS rfl q11 (gS rfl q11 (oN (EvN.pickT rfl q11 (Bo true) rfl) ?_)))))
     obtain rfl:=osj h
     exact js10 _ _ (kw rfl rfl)
    ·refine gN rfl q11 mv (gN rfl q11 mv (jD h fun g12 h=>gN rfl q11 (EvN.ixst Try.underlying9 rfl rfl g12) (gN rfl q11 mv (gN rfl q11 (EvN.ieq rfl rfl) (oN (EvN.pickF rfl q11 (Bo (((s.data.getD s5.2.1.toNat 0).toNat:Int)==c)) rfl) ?_)))))
     obtain rfl:=osj h
     exact js10 _ _ (kw rfl rfl)
    ·refine TO.nil ?_
     refine T.ifH rfl h (fun q13 h => ?_) (fun q13 h => ?_)
     ·refine T.sr (oN mv (oN mv (oN mv (oN mv (jD h fun g14 h=>oN (EvN.slst Try.underlying9 rfl (.yes rfl) (.yes rfl) g14) (oN (EvN.mkF (c:=cS) ([(s.extract s5.2.2.toNat s5.2.1.toNat)]:List ByteArray) [[St (s.extract s5.2.2.toNat s5.2.1.toNat)]] sl95 rfl rfl rfl (fun _=>rfl) (fun _=>rfl) rfl) (jL h fun g15 h=>oA (EvA.app1 (g:=false) (l:=s5.1) (s.extract s5.2.2.toNat s5.2.1.toNat) sl95 (by kernel_rfl) rfl rfl rfl nofun (SrcOk.fz (l:=([(s.extract s5.2.2.toNat s5.2.1.toNat)]:List ByteArray)) rfl (fun _=>rfl)) g15) (oN (EvN.asg (hS false 0 (u7+1) 1 ((s5.1++[(s.extract s5.2.2.toNat s5.2.1.toNat)]).length)) rfl) (TO.nil (T.region (oN mv (jW h fun g16 h=>oN (EvN.add rfl rfl g16) ?_))))))))))))
      refine oN as' (TO.nil ?_)
      obtain rfl:=osj h
      exact ⟨u7+1,trivial,kw rfl rfl⟩
     ·refine T.skip ?_
      obtain rfl:=osj h
      exact ⟨u7,trivial,kw rfl rfl⟩
  ·refine T.exit (lX h fun h => ?_)
   obtain rfl:=osj h
   exact ⟨u7,trivial,kw rfl rfl⟩
theorem F_spec_l1Place_P (s:ByteArray) (at_:Int) (from_:Int) (most:Int) {q:Int} (h:F_spec_l1Place s at_ from_ most=some q):PCall Try.prog 69 [St s,I at_,Y from_,I most] (I q):=by
 refine pM Try.func69 rfl (by kernel_rfl) rfl (T.sr (oN as' (TO.nil (T.seq (T.sr (oN mv (oN mv (oN (EvN.lenst Try.underlying9 rfl) (oN (EvN.ige rfl rfl) (oN mv ?_))))))))))
 refine TO.jB h 6 (fun s1=>[(19,Bo s1),(0,St s),(1,I at_),(2,Y from_),(3,I most)]) (fun s1=>[]) (fun s1 q2 h js1 => ?_) (fun s1 q2 h js1 => ?_) (fun s1 h => ?_)
 ·refine gS rfl q2 (gS rfl q2 (gS rfl q2 (gS rfl q2 (gS rfl q2 (oN (EvN.pickT rfl q2 (Bo true) rfl) ?_)))))
  obtain rfl:=osj h
  exact js1 _ _ (kw rfl rfl)
 ·refine gN rfl q2 mv (gN rfl q2 mv (jD h fun g3 h=>gN rfl q2 (EvN.ixst Try.underlying9 rfl rfl g3) (gN rfl q2 mv (gN rfl q2 (EvN.ilt rfl rfl) (oN (EvN.pickF rfl q2 (Bo (decide (((s.data.getD at_.toNat 0).toNat:Int)<from_))) rfl) ?_)))))
  obtain rfl:=osj h
  exact js1 _ _ (kw rfl rfl)
 ·refine oN mv ?_
  refine TO.jB h 9 (fun s4=>[(29,Bo s4),(0,St s),(1,I at_),(2,Y from_)]) (fun s4=>[]) (fun s4 q5 h js4 => ?_) (fun s4 q5 h js4 => ?_) (fun s4 h => ?_)
  ·refine gS rfl q5 (gS rfl q5 (gS rfl q5 (gS rfl q5 (gS rfl q5 (gS rfl q5 (gS rfl q5 (gS rfl q5 (oN (EvN.pickT rfl q5 (Bo true) rfl) ?_))))))))
   obtain rfl:=osj h
   exact js4 _ _ (kw rfl rfl)
  ·refine gN rfl q5 mv (gN rfl q5 mv (jD h fun g6 h=>gN rfl q5 (EvN.ixst Try.underlying9 rfl rfl g6) (gN rfl q5 mv (jW h fun g7 h=>gN rfl q5 (EvN.sub rfl rfl g7) (jW h fun g8 h=>gN rfl q5 (EvN.iconv ty5.und Try.underlying3 rfl g8) (gN rfl q5 mv (gN rfl q5 (EvN.igt rfl rfl) (oN (EvN.pickF rfl q5 (Bo (decide (most<(((s.data.getD at_.toNat 0).toNat:Int)-from_)))) rfl) ?_))))))))
   obtain rfl:=osj h
   exact js4 _ _ (kw rfl rfl)
  ·refine TO.nil ?_
   refine T.ifH rfl h (fun q9 h => ?_) (fun q9 h => ?_)
   ·refine T.sr (oN as' (TO.nil (T.ret ?_)))
    obtain rfl:=osj h
    exact finR rfl rfl rfl
   ·refine T.skip (T.sr (oN mv (oN mv (jD h fun g10 h=>oN (EvN.ixst Try.underlying9 rfl rfl g10) (oN mv (jW h fun g11 h=>oN (EvN.sub rfl rfl g11) (jW h fun g12 h=>oN (EvN.iconv ty5.und Try.underlying3 rfl g12) (oN as' (TO.nil (T.ret ?_))))))))))
    obtain rfl:=osj h
    exact finR rfl rfl rfl
set_option maxHeartbeats 4000000 in
theorem F_spec_l1Parse_P (s:ByteArray) {q:ZIn} (h:F_spec_l1Parse s=some q):PCall Try.prog 62 [St s] (.agg (ZIn.c q)):=by
 refine pM Try.func62 rfl (by kernel_rfl) rfl (T.sr (oA (EvA.al zs33 rfl rfl) (TO.nil (T.seq (T.sr (oN mv (oN (EvN.seq rfl rfl) (TO.nil ?_))))))))
 refine T.ifH rfl h (fun q1 h => ?_) (fun q1 h => ?_)
 ·refine T.sr (oN (EvN.build [I (4:Int),I (0:Int),I (0:Int),I (0:Int)] Try.underlying33 zs33 fs33 rfl rfl) (oV (sr [I (4:Int),I (0:Int),I (0:Int),I (0:Int)] ty33 rfl rfl rfl rfl) (TO.nil (T.ret ?_))))
  obtain rfl:=osj h
  repeat (first|refine retS ?_|refine retB ?_)
  exact Fin.ret (vs:=[.agg [I (4:Int),I (0:Int),I (0:Int),I (0:Int)]]) (.cons (.cell (.agg [I (4:Int),I (0:Int),I (0:Int),I (0:Int)]) ty33 rfl rfl rfl rfl rfl rfl) .nil) (.of_isF 9 _ rfl)
 ·refine T.skip (T.sr (oN mv (oC h (fun _=>F_spec_l1Place_P _ _ _ _) rfl rfl rfl rfl fun v2 _ h=>oN as' (TO.nil (T.sr (oN mv (oC h (fun _=>F_spec_l1Place_P _ _ _ _) rfl rfl rfl rfl fun v3 _ h=>oN as' (TO.nil (T.seq (T.sr (oN mv (oN (EvN.ige rfl rfl) (oN mv ?_)))))))))))))
  refine TO.jB h 4 (fun s4=>[(18,Bo s4),(4,I v3),(3,I v2),(2,.hp 0 0 4 0 0),(0,St s)]) (fun s4=>[some ⟨0,4,33,[[I (0:Int),I (0:Int),I (0:Int),I (0:Int)]]⟩]) (fun s4 q5 h js4 => ?_) (fun s4 q5 h js4 => ?_) (fun s4 h => ?_)
  ·refine gN rfl q5 mv (gN rfl q5 (EvN.lenst Try.underlying9 rfl) (gN rfl q5 (EvN.ieq rfl rfl) (oN (EvN.pickT rfl q5 (Bo ((s.size:Int)==(3:Int))) rfl) ?_)))
   obtain rfl:=osj h
   exact js4 _ _ (kw rfl rfl)
  ·refine gS rfl q5 (gS rfl q5 (gS rfl q5 (oN (EvN.pickF rfl q5 (Bo false) rfl) ?_)))
   obtain rfl:=osj h
   exact js4 _ _ (kw rfl rfl)
  ·refine TO.nil ?_
   refine T.ifH rfl h (fun q6 h => ?_) (fun q6 h => ?_)
   ·refine T.sr (oN mv (oN mv (oC h (fun _=>F_spec_l1Place_P _ _ _ _) rfl rfl rfl rfl fun v7 _ h=>oN (EvN.build [I (1:Int),I v7,I v2,I (0:Int)] Try.underlying33 zs33 fs33 rfl rfl) (oV (sr [I (1:Int),I v7,I v2,I (0:Int)] ty33 rfl rfl rfl rfl) (TO.nil (T.ret ?_))))))
    obtain rfl:=osj h
    repeat (first|refine retS ?_|refine retB ?_)
    exact Fin.ret (vs:=[.agg [I (1:Int),I v7,I v2,I (0:Int)]]) (.cons (.cell (.agg [I (1:Int),I v7,I v2,I (0:Int)]) ty33 rfl rfl rfl rfl rfl rfl) .nil) (.of_isF 9 _ rfl)
   ·refine T.skip (T.seq (T.sr (oN mv (oN (EvN.ige rfl rfl) (oN mv ?_)))))
    refine TO.jB h 4 (fun s8=>[(29,Bo s8),(4,I v3),(3,I v2),(2,.hp 0 0 4 0 0),(0,St s)]) (fun s8=>[some ⟨0,4,33,[[I (0:Int),I (0:Int),I (0:Int),I (0:Int)]]⟩]) (fun s8 q9 h js8 => ?_) (fun s8 q9 h js8 => ?_) (fun s8 h => ?_)
    ·refine gN rfl q9 mv (gN rfl q9 (EvN.lenst Try.underlying9 rfl) (gN rfl q9 (EvN.ieq rfl rfl) (oN (EvN.pickT rfl q9 (Bo ((s.size:Int)==(5:Int))) rfl) ?_)))
     obtain rfl:=osj h
     exact js8 _ _ (kw rfl rfl)
    ·refine gS rfl q9 (gS rfl q9 (gS rfl q9 (oN (EvN.pickF rfl q9 (Bo false) rfl) ?_)))
     obtain rfl:=osj h
     exact js8 _ _ (kw rfl rfl)
    ·refine TO.nil ?_
     refine T.ifH rfl h (fun q10 h => ?_) (fun q10 h => ?_)
     ·refine T.sr (oN mv (oN mv (oC h (fun _=>F_spec_l1Place_P _ _ _ _) rfl rfl rfl rfl fun v11 _ h=>oN mv (oC h (fun _=>F_spec_l1Place_P _ _ _ _) rfl rfl rfl rfl fun v12 _ h=>oN (EvN.build [I (5:Int),I v11,I v2,I v12] Try.underlying33 zs33 fs33 rfl rfl) (oV (sr [I (5:Int),I v11,I v2,I v12] ty33 rfl rfl rfl rfl) (TO.nil (T.ret ?_)))))))
      obtain rfl:=osj h
      repeat (first|refine retS ?_|refine retB ?_)
      exact Fin.ret (vs:=[.agg [I (5:Int),I v11,I v2,I v12]]) (.cons (.cell (.agg [I (5:Int),I v11,I v2,I v12]) ty33 rfl rfl rfl rfl rfl rfl) .nil) (.of_isF 9 _ rfl)
     ·refine T.skip (T.seq (T.sr (oN mv (oN (EvN.ige rfl rfl) (oN mv ?_)))))
      refine TO.jB h 4 (fun s13=>[(42,Bo s13),(4,I v3),(2,.hp 0 0 4 0 0),(0,St s)]) (fun s13=>[some ⟨0,4,33,[[I (0:Int),I (0:Int),I (0:Int),I (0:Int)]]⟩]) (fun s13 q14 h js13 => ?_) (fun s13 q14 h js13 => ?_) (fun s13 h => ?_)
      ·refine gN rfl q14 mv (jB h fun v15 cv15 h=>gN rfl q14 (EvN.call rfl rfl rfl (F_spec_l1Place_P s (2:Int) (97:Int) (2:Int) cv15) rfl) (gN rfl q14 (EvN.ige rfl rfl) (oN (EvN.pickT rfl q14 (Bo (decide ((0:Int)<=v15))) rfl) ?_)))
       obtain rfl:=osj h
       exact js13 _ _ (kw rfl rfl)
      ·refine gS rfl q14 (gS rfl q14 (gS rfl q14 (oN (EvN.pickF rfl q14 (Bo false) rfl) ?_)))
       obtain rfl:=osj h
       exact js13 _ _ (kw rfl rfl)
      ·refine TO.nil ?_
       refine T.ifH rfl h (fun q16 h => ?_) (fun q16 h => ?_)
       ·refine T.sr (oN mv (oN mv (oC h (fun _=>F_spec_l1Place_P _ _ _ _) rfl rfl rfl rfl fun v17 _ h=>oN (EvN.build [I (3:Int),I v3,I v17,I (0:Int)] Try.underlying33 zs33 fs33 rfl rfl) (oV (sr [I (3:Int),I v3,I v17,I (0:Int)] ty33 rfl rfl rfl rfl) (TO.nil (T.ret ?_))))))
        obtain rfl:=osj h
        repeat (first|refine retS ?_|refine retB ?_)
        exact Fin.ret (vs:=[.agg [I (3:Int),I v3,I v17,I (0:Int)]]) (.cons (.cell (.agg [I (3:Int),I v3,I v17,I (0:Int)]) ty33 rfl rfl rfl rfl rfl rfl) .nil) (.of_isF 9 _ rfl)
       ·refine T.skip (T.sr (oN mv (oN mv (oC h (fun _=>F_spec_l1Place_P _ _ _ _) rfl rfl rfl rfl fun v18 _ h=>oN (EvN.build [I (2:Int),I v3,I (0:Int),I v18] Try.underlying33 zs33 fs33 rfl rfl) (oV (sr [I (2:Int),I v3,I (0:Int),I v18] ty33 rfl rfl rfl rfl) (TO.nil (T.ret ?_)))))))
        obtain rfl:=osj h
        repeat (first|refine retS ?_|refine retB ?_)
        exact Fin.ret (vs:=[.agg [I (2:Int),I v3,I (0:Int),I v18]]) (.cons (.cell (.agg [I (2:Int),I v3,I (0:Int),I v18]) ty33 rfl rfl rfl rfl rfl rfl) .nil) (.of_isF 9 _ rfl)
theorem F_spec_l1Letter_P (from_:Int) (n:Int) {q:ByteArray} (h:F_spec_l1Letter from_ n=some q):PCall Try.prog 82 [Y from_,I n] (St q):=by
 refine pM Try.func82 rfl (by kernel_rfl) rfl (T.sr (oN as' (TO.nil (T.sr (oN mv (oN mv (jW h fun g1 h=>oN (EvN.iconv ty3.und Try.underlying5 rfl g1) (jW h fun g2 h=>oN (EvN.add rfl rfl g2) (oN (EvN.mkF (c:=cY) ([(from_+n)]:List Int) [[Y (from_+n)]] sl22 rfl rfl rfl (fun _=>rfl) (fun _=>rfl) rfl) (oA (EvA.b2s (l:=([(from_+n)]:List Int)) Try.underlying22 Try.underlying5 Try.underlying9 (slc_eL rfl) (SrcOk.fz (l:=([(from_+n)]:List Int)) rfl (fun _=>rfl))) (oN as' (TO.nil (T.ret ?_)))))))))))))
 obtain rfl:=osj h
 exact finR rfl rfl rfl
theorem F_spec_l17Dec_PN:∀ (nf:Nat) (n:Int) {q:ByteArray} (h:F_spec_l17Dec_N nf n=some q),PCall Try.prog 83 [I n] (St q):=by
 intro nf
 induction nf with
 | zero=>intros;rename_i h;cases h
 | succ nf ih=>
  intro n q h
  replace h:F_spec_l17Dec_B (F_spec_l17Dec_N nf) n=some q:=h
  refine pM Try.func83 rfl (by kernel_rfl) rfl (T.sr (oN as' (TO.nil (T.seq (T.sr (oN mv (oN (EvN.ilt rfl rfl) (TO.nil ?_))))))))
  refine T.ifH rfl h (fun q1 h => ?_) (fun q1 h => ?_)
  ·refine T.sr (oN as' (TO.nil (T.ret ?_)))
   obtain rfl:=osj h
   exact finR rfl rfl rfl
  ·refine T.skip (T.seq (T.sr (oN mv (oN (EvN.ilt rfl rfl) (TO.nil ?_)))))
   refine T.ifH rfl h (fun q2 h => ?_) (fun q2 h => ?_)
   ·refine T.sr (oN mv (jW h fun g3 h=>oN (EvN.neg rfl g3) (oC h (fun _=>ih _) rfl rfl rfl rfl fun v4 _ h=>jD h fun g5 h=>oN (EvN.cat rfl rfl g5) (oN as' (TO.nil (T.ret ?_))))))
    obtain rfl:=osj h
    exact finR rfl rfl rfl
   ·refine T.skip (T.sr (oN as' (TO.nil ?_)))
    refine T.jU h (fun s6=>[(3,St s6.1),(0,I s6.2)]) (fun s6=>[]) (fun s6 h => ?_) (fun s6 h => ?_)
    ·refine T.sr (oN mv (jW h fun g17 h=>oN (EvN.add rfl rfl g17) (jW h fun g18 h=>oN (EvN.iconv ty3.und Try.underlying5 rfl g18) (oN (EvN.mkF (c:=cY) ([((48:Int)+s6.2)]:List Int) [[Y ((48:Int)+s6.2)]] sl22 rfl rfl rfl (fun _=>rfl) (fun _=>rfl) rfl) (oA (EvA.b2s (l:=([((48:Int)+s6.2)]:List Int)) Try.underlying22 Try.underlying5 Try.underlying9 (slc_eL rfl) (SrcOk.fz (l:=([((48:Int)+s6.2)]:List Int)) rfl (fun _=>rfl))) (oN mv (jD h fun g19 h=>oN (EvN.cat rfl rfl g19) (oN as' (TO.nil (T.ret ?_))))))))))
     obtain rfl:=osj h
     exact finR rfl rfl rfl
    ·refine T.block ?_
     refine T.lU h (fun s9=>[(3,St s9.1),(0,I s9.2)]) (fun s9=>[]) (kw rfl rfl) (fun s9 ws9 h => ?_)
     refine T.seq (T.sr (oN mv (oN (EvN.igt rfl rfl) (TO.nil ?_))))
     refine T.ifH rfl h (fun q11 h => ?_) (fun q11 h => ?_)
     ·refine T.skip (T.block (T.sr (oN mv (jD h fun g12 h=>oN (EvN.rem rfl rfl g12) (jW h fun g13 h=>oN (EvN.add rfl rfl g13) (jW h fun g14 h=>oN (EvN.iconv ty3.und Try.underlying5 rfl g14) (oN (EvN.mkF (c:=cY) ([((48:Int)+(s9.2.tmod (10:Int)))]:List Int) [[Y ((48:Int)+(s9.2.tmod (10:Int)))]] sl22 rfl rfl rfl (fun _=>rfl) (fun _=>rfl) rfl) (oA (EvA.b2s (l:=([((48:Int)+(s9.2.tmod (10:Int)))]:List Int)) Try.underlying22 Try.underlying5 Try.underlying9 (slc_eL rfl) (SrcOk.fz (l:=([((48:Int)+(s9.2.tmod (10:Int)))]:List Int)) rfl (fun _=>rfl))) (oN mv (jD h fun g15 h=>oN (EvN.cat rfl rfl g15) (oN as' ?_)))))))))))
      refine TO.nil (T.region (oN mv (jW h fun g16 h=>oN (EvN.quo rfl rfl g12 g16) (oN as' (TO.nil ?_)))))
      exact lE h (kw rfl rfl)
     ·refine T.exit (lX h fun h => ?_)
      obtain rfl:=osj h
      exact ⟨(),trivial,kw rfl rfl⟩
theorem F_spec_l17Dec_P (n:Int) {q:ByteArray} (h:F_spec_l17Dec n=some q):PCall Try.prog 83 [I n] (St q):=by
 obtain ⟨nf,h⟩:=fixC_is h
 exact F_spec_l17Dec_PN nf n h
theorem F_spec_l1Text_P (x:ZIn) {q:ByteArray} (h:F_spec_l1Text x=some q):PCall Try.prog 70 [.agg (ZIn.c x)] (St q):=by
 refine pM Try.func70 rfl (by kernel_rfl) rfl (T.sr (oN (EvN.bxF (ZIn.c x) rfl rfl rfl) (oN as' (TO.nil (T.sr (oN (fa fs33 rfl) (oN (lf (I x.Loc) ty3 rfl) (oC h (fun _=>F_spec_l1Letter_P _ _) rfl rfl rfl rfl fun v1 _ h=>oN as' (TO.nil (T.sr (oN (fa fs33 rfl) (oN (lf (I x.Reg) ty3 rfl) (oC h (fun _=>F_spec_l1Letter_P _ _) rfl rfl rfl rfl fun v2 _ h=>oN as' ?_)))))))))))))
 refine TO.nil (T.seq (T.sr (oN (fa fs33 rfl) (oN (lf (I x.Op) ty3 rfl) (TO.nil (T.block (T.sr (oN (EvN.ieq rfl rfl) (oN as' (TO.nil ?_))))))))))
 refine T.ifH rfl h (fun q3 h => ?_) (fun q3 h => ?_)
 ·refine T.sr (oN mv (jD h fun g4 h=>oN (EvN.cat rfl rfl g4) (oN mv (jD h fun g5 h=>oN (EvN.cat rfl rfl g5) (oN as' (TO.nil (T.ret ?_)))))))
  obtain rfl:=osj h
  exact finR rfl rfl rfl
 ·refine T.sr (oN (EvN.ieq rfl rfl) (oN as' (TO.nil ?_)))
  refine T.ifH rfl h (fun q6 h => ?_) (fun q6 h => ?_)
  ·refine T.sr (oN mv (jD h fun g7 h=>oN (EvN.cat rfl rfl g7) (oN (fa fs33 rfl) (oN (lf (I x.Val) ty3 rfl) (oC h (fun _=>F_spec_l17Dec_P _) rfl rfl rfl rfl fun v8 _ h=>jD h fun g9 h=>oN (EvN.cat rfl rfl g9) (oN as' (TO.nil (T.ret ?_))))))))
   obtain rfl:=osj h
   exact finR rfl rfl rfl
  ·refine T.sr (oN (EvN.ieq rfl rfl) (oN as' (TO.nil ?_)))
   refine T.ifH rfl h (fun q10 h => ?_) (fun q10 h => ?_)
   ·refine T.seq (T.clean (H0:=[]) (e0:=envOf [(4,St v2),(3,St v1)]) rfl (wkC rfl (wkC rfl wkN)) (T.region (oN mv (jD h fun g11 h=>oN (EvN.cat rfl rfl g11) (oN mv (jD h fun g12 h=>oN (EvN.cat rfl rfl g12) (oN as' (TO.nil (T.ret ?_)))))))))
    obtain rfl:=osj h
    exact finR rfl rfl rfl
   ·refine T.sr (oN (EvN.ieq rfl rfl) (oN as' (TO.nil ?_)))
    refine T.ifH rfl h (fun q13 h => ?_) (fun q13 h => ?_)
    ·refine T.seq (T.clean (H0:=[]) (e0:=envOf [(4,St v2),(3,St v1),(1,.fp (ZIn.c x) 0)]) rfl (wkC rfl (wkC rfl (wkC rfl wkN))) (T.region (oN mv (jD h fun g14 h=>oN (EvN.cat rfl rfl g14) (oN mv (jD h fun g15 h=>oN (EvN.cat rfl rfl g15) (jD h fun g16 h=>oN (EvN.cat rfl rfl g16) (oN (fa fs33 rfl) (oN (lf (I x.Val) ty3 rfl) (oC h (fun _=>F_spec_l17Dec_P _) rfl rfl rfl rfl fun v17 _ h=>jD h fun g18 h=>oN (EvN.cat rfl rfl g18) ?_))))))))))
     refine oN as' (TO.nil (T.ret ?_))
     obtain rfl:=osj h
     exact finR rfl rfl rfl
    ·refine T.skip (T.seq (T.clean (H0:=[]) (e0:=envOf []) rfl wkN (T.region (oN as' (TO.nil (T.ret ?_))))))
     obtain rfl:=osj h
     exact finR rfl rfl rfl
theorem F_spec_l1Program_P (p:List (List ZIn)) {q:ByteArray} (h:F_spec_l1Program p=some q):PCall Try.prog 63 [eL (cL ZIn.c) p] (St q):=by
 refine pM Try.func63 rfl (by kernel_rfl) rfl (T.sr (oN as' (TO.nil (T.sr (oN as' (TO.nil ?_))))))
 refine T.jU h (fun s1=>[(3,St s1)]) (fun s1=>[]) (fun s1 h => ?_) (fun s1 h => ?_)
 ·refine T.sr (oN mv (oN as' (TO.nil (T.ret ?_))))
  obtain rfl:=osj h
  exact finR rfl rfl rfl
 ·refine T.sr (oN as' (TO.nil (T.block ?_)))
  refine T.lU h (fun s4=>[(4,I s4.1),(3,St s4.2),(0,eL (cL ZIn.c) p)]) (fun s4=>[]) (kw rfl rfl) (fun s4 ws4 h => ?_)
  refine T.seq (T.sr (oN mv (oN mv (oN (EvN.lenL sl23 rfl) (oN (EvN.ilt rfl rfl) (TO.nil ?_))))))
  refine T.ifH rfl h (fun q6 h => ?_) (fun q6 h => ?_)
  ·refine T.skip ?_
   refine T.jU h (fun s7=>[(3,St s7),(4,I s4.1),(0,eL (cL ZIn.c) p)]) (fun s7=>[]) (fun s7 h => ?_) (fun s7 h => ?_)
   ·refine T.region (oN mv (jW h fun g24 h=>oN (EvN.add rfl rfl g24) (oN as' (TO.nil ?_))))
    exact lE h (kw rfl rfl)
   ·refine T.block ?_
    refine T.jU h (fun s8=>[(3,St s8),(4,I s4.1),(0,eL (cL ZIn.c) p)]) (fun s8=>[]) (fun s8 h => ?_) (fun s8 h => ?_)
    ·refine T.sr (oN as' (TO.nil (T.block ?_)))
     refine T.lU h (fun s13=>[(5,I s13.1),(3,St s13.2),(4,I s4.1),(0,eL (cL ZIn.c) p)]) (fun s13=>[]) (kw rfl rfl) (fun s13 ws13 h => ?_)
     refine T.seq (T.sr (oN mv (oN mv (oN mv (jD h fun g15 h=>oN (EvN.ixL sl23 rfl rfl g15 (fun _=>rfl)) (oN (lf (eL ZIn.c (p.getD s4.1.toNat default)) ty31 rfl) (oN (EvN.lenL sl31 rfl) (oN (EvN.ilt rfl rfl) (TO.nil ?_)))))))))
     refine T.ifH rfl h (fun q16 h => ?_) (fun q16 h => ?_)
     ·refine T.skip (T.seq (T.block ?_))
      refine T.jU h (fun s17=>[(3,St s17),(5,I s13.1),(4,I s4.1),(0,eL (cL ZIn.c) p)]) (fun s17=>[]) (fun s17 h => ?_) (fun s17 h => ?_)
      ·refine T.region (oN mv (oN mv (oN mv (oN (EvN.ixL sl23 rfl rfl g15 (fun _=>rfl)) (oN (lf (eL ZIn.c (p.getD s4.1.toNat default)) ty31 rfl) (oN mv (jD h fun g20 h=>oN (EvN.ixL sl31 rfl rfl g20 (fun _=>rfl)) (oN (lf (.agg (ZIn.c ((p.getD s4.1.toNat default).getD s13.1.toNat default))) ty33 rfl) (oC h (fun _=>F_spec_l1Text_P _) rfl rfl rfl rfl fun v21 _ h=>jD h fun g22 h=>oN (EvN.cat rfl rfl g22) (oN as' (TO.nil (T.region ?_))))))))))))
       refine oN mv (jW h fun g23 h=>oN (EvN.add rfl rfl g23) (oN as' (TO.nil ?_)))
       exact lE h (kw rfl rfl)
      ·refine T.sr (oN mv (oN (EvN.igt rfl rfl) (TO.nil ?_)))
       refine T.ifH rfl h (fun q18 h => ?_) (fun q18 h => ?_)
       ·refine T.region (oN mv (jD h fun g19 h=>oN (EvN.cat rfl rfl g19) (oN as' (TO.nil ?_))))
        obtain rfl:=osj h
        exact ⟨(),trivial,kw rfl rfl⟩
       ·refine T.skip ?_
        obtain rfl:=osj h
        exact ⟨(),trivial,kw rfl rfl⟩
     ·refine T.exit (lX h fun h => ?_)
      obtain rfl:=osj h
      exact ⟨(),trivial,kw rfl rfl⟩
    ·refine T.sr (oN mv (oN (EvN.igt rfl rfl) (TO.nil ?_)))
     refine T.ifH rfl h (fun q9 h => ?_) (fun q9 h => ?_)
     ·refine T.region (oN mv (jD h fun g10 h=>oN (EvN.cat rfl rfl g10) (oN as' (TO.nil ?_))))
      obtain rfl:=osj h
      exact ⟨(),trivial,kw rfl rfl⟩
     ·refine T.skip ?_
      obtain rfl:=osj h
      exact ⟨(),trivial,kw rfl rfl⟩
  ·refine T.exit (lX h fun h => ?_)
   obtain rfl:=osj h
   exact ⟨(),trivial,kw rfl rfl⟩
set_option maxHeartbeats 4000000 in
theorem F_spec_ParseProgram_P (text:ByteArray) {q:(List (List ZIn))×Bool} (h:F_spec_ParseProgram text=some q):PCall Try.prog 48 [St text] (.tup [eL (cL ZIn.c) q.1,Bo q.2]):=by
 refine pM Try.func48 rfl (by kernel_rfl) rfl (T.sr (oN as' (oN as' (TO.nil (T.sr (oA (EvA.mkO (c:=(cL ZIn.c)) ([]:List (List ZIn)) [] sl23 rfl rfl rfl (fun _=>rfl) rfl rfl) (oN (EvN.asg (hS false 0 0 1 (([]:List (List ZIn)).length)) rfl) (TO.nil (T.sr (oN mv (oC h (fun _=>F_spec_l17Cut_P _ _) rfl rfl rfl rfl fun v1 _ h=>oN as' (TO.nil ?_))))))))))))
 refine T.jF (G:=Nat) h (fun s2 gh=>True) (fun s2 gh=>[(4,hS false 0 gh 1 s2.length),(0,St text)]) (fun s2 gh=>[bE false gh 1 31 (s2.map (cL ZIn.c))]) (fun s2 u35 h hg => ?_) (fun s2 h => ?_)
 ·refine T.seq (T.sr (oN mv (jB h fun v36 cv36 h=>oA (EvA.callT rfl rfl (F_spec_ProgramValid_P s2 cv36) (.cons (Fz.own (g:=false) (ver:=u35) (l:=s2) rfl rfl rfl nofun (fun _=>rfl)) .nil) rfl) (oN (EvN.not rfl) (oN mv ?_)))))
  refine TO.jB h 5 (fun s37=>[(66,Bo s37),(4,hS false 0 u35 1 s2.length)]) (fun s37=>[bE false u35 1 31 (s2.map (cL ZIn.c))]) (fun s37 q38 h js37 => ?_) (fun s37 q38 h js37 => ?_) (fun s37 h => ?_)
  ·refine gS rfl q38 (gS rfl q38 (gS rfl q38 (gS rfl q38 (oN (EvN.pickT rfl q38 (Bo true) rfl) ?_))))
   obtain rfl:=osj h
   exact js37 _ _ (kw rfl rfl)
  ·refine gN rfl q38 mv (jB h fun v39 cv39 h=>gA rfl q38 (EvA.callT rfl rfl (F_spec_l1Program_P s2 cv39) (.cons (Fz.own (g:=false) (ver:=u35) (l:=s2) rfl rfl rfl nofun (fun _=>rfl)) .nil) rfl) (gN rfl q38 mv (gN rfl q38 (EvN.sne rfl rfl) (oN (EvN.pickF rfl q38 (Bo (!decide (v39=text))) rfl) ?_))))
   obtain rfl:=osj h
   exact js37 _ _ (kw rfl rfl)
  ·refine TO.nil ?_
   refine T.ifH rfl h (fun q40 h => ?_) (fun q40 h => ?_)
   ·refine T.sr (oN (EvN.mkF (c:=(cL ZIn.c)) ([]:List (List ZIn)) [] sl23 rfl rfl rfl (fun _=>rfl) (fun _=>rfl) rfl) (oN as' (oN as' (TO.nil (T.ret ?_)))))
    obtain rfl:=osj h
    repeat (first|refine retS ?_|refine retB ?_)
    exact Fin.ret (vs:=[eL (cL ZIn.c) ([]:List (List ZIn)),Bo false]) (.cons (.tmp rfl) (.cons (.tmp rfl) .nil)) (.tupL (.cons (.of_isF 9 _ rfl) (.cons (.of_isF 9 _ rfl) .nil)))
   ·refine T.skip (T.sr (oN mv (oN (EvN.asg (hS false 0 u35 1 s2.length) rfl) (oN as' (TO.nil (T.ret ?_))))))
    obtain rfl:=osj h
    repeat (first|refine retS ?_|refine retB ?_)
    exact Fin.ret (vs:=[hS false 0 u35 1 s2.length,Bo true]) (.cons (.tmp rfl) (.cons (.tmp rfl) .nil)) (.tupL (.cons (Fz.own (g:=false) (ver:=u35) (l:=s2) rfl rfl rfl nofun (fun _=>rfl)) (.cons (.of_isF 9 _ rfl) .nil)))
 ·refine T.sr (oN as' (TO.nil (T.block ?_)))
  refine T.loop (S:=(List (List ZIn))×Int) (G:=Nat) (F_spec_ParseProgram_L7 v1) (fun s6 gh=>True) (fun s6 gh=>[(6,I s6.2),(5,eL cS v1),(4,hS false 0 gh 1 s6.1.length),(0,St text)]) (fun s6 gh=>[bE false gh 1 31 (s6.1.map (cL ZIn.c))]) (s0:=(([]:List (List ZIn)),(0:Int))) 0 h trivial (kw rfl rfl) (fun s6 u8 ws6 h hg => ?_)
  refine T.seq (T.sr (oN mv (oN mv (oN (EvN.lenL sl95 rfl) (oN (EvN.ilt rfl rfl) (oN mv ?_))))))
  refine TO.jB h 3 (fun s9=>[(20,Bo s9),(6,I s6.2),(5,eL cS v1),(4,hS false 0 u8 1 s6.1.length),(0,St text)]) (fun s9=>[bE false u8 1 31 (s6.1.map (cL ZIn.c))]) (fun s9 q10 h js9 => ?_) (fun s9 q10 h js9 => ?_) (fun s9 h => ?_)
  ·refine gN rfl q10 mv (gN rfl q10 (EvN.ile rfl rfl) (oN (EvN.pickT rfl q10 (Bo (decide (s6.2<=(3:Int)))) rfl) ?_))
   obtain rfl:=osj h
   exact js9 _ _ (kw rfl rfl)
  ·refine gS rfl q10 (gS rfl q10 (oN (EvN.pickF rfl q10 (Bo false) rfl) ?_))
   obtain rfl:=osj h
   exact js9 _ _ (kw rfl rfl)
  ·refine TO.nil ?_
   refine T.ifH rfl h (fun q11 h => ?_) (fun q11 h => ?_)
   ·refine T.skip ?_
    refine T.jF (G:=Nat) h (fun s12 gh=>True) (fun s12 gh=>[(4,hS false 0 gh 1 s12.length),(6,I s6.2),(5,eL cS v1),(0,St text)]) (fun s12 gh=>[bE false gh 1 31 (s12.map (cL ZIn.c))]) (fun s12 u33 h hg => ?_) (fun s12 h => ?_)
    ·refine T.region (oN mv (jW h fun g34 h=>oN (EvN.add rfl rfl g34) (oN as' (TO.nil ?_))))
     obtain rfl:=osj h
     exact ⟨(s12,(s6.2+(1:Int))),u33,rfl,trivial,kw rfl rfl⟩
    ·refine T.block (T.sr (oA (EvA.mkO (c:=ZIn.c) ([]:List ZIn) [] sl31 rfl rfl rfl (fun _=>rfl) rfl rfl) (oN (EvN.asg (hS false 1 0 4 (([]:List ZIn).length)) rfl) (TO.nil (T.sr (oN mv (oN mv (jD h fun g13 h=>oN (EvN.ixL sl95 rfl rfl g13 (fun _=>rfl)) (oN (lf (St (v1.getD s6.2.toNat default)) ty9 rfl) (oC h (fun _=>F_spec_l17Cut_P _ _) rfl rfl rfl rfl fun v14 _ h=>oN as' (TO.nil ?_)))))))))))
     refine T.jF (G:=Nat) h (fun s15 gh=>True) (fun s15 gh=>[(7,hS false 1 gh 4 s15.length),(6,I s6.2),(5,eL cS v1),(4,hS false 0 u8 1 s6.1.length),(0,St text)]) (fun s15 gh=>[bE false u8 1 31 (s6.1.map (cL ZIn.c)),bE false gh 4 33 (s15.map ZIn.c)]) (fun s15 u31 h hg => ?_) (fun s15 h => ?_)
     ·refine T.region (oN mv (oN mv (oA (EvA.mkR [[hS false 1 u31 4 s15.length]] sl23 rfl rfl rfl rfl) (jL h fun g32 h=>oA (EvA.appR (g:=false) (rows:=s6.1.map (cL ZIn.c)) (rows':=s6.1.map (cL ZIn.c)++[[hS false 1 u31 4 s15.length]]) (n':=s6.1.length+1) sl23 (by kernel_rfl) rfl rfl (by simp) nofun (SrcOk.raw (rows:=[[hS false 1 u31 4 s15.length]]) rfl rfl rfl) g32 rfl rfl) (oN (EvN.asg (hS false 0 (u8+1) 1 (s6.1.length+1)) rfl) (TO.nil ?_))))))
      obtain rfl:=osj h
      exact ⟨u8+1,trivial,cutS rfl (.cons (.snoc (fun _=>rfl) (.cons (.cons (.fz (Fz.own (g:=false) (ver:=u31) (l:=s15) rfl rfl rfl nofun ZIn.isF)) .nil) .nil)) .nil) (stl_cons (.eqv (congrArg (hS false 0 (u8+1) 1) (by simp:(s6.1.length+1)=(s6.1++[s15]).length)) (.hS (g:=false) (b:=0) (ver:=u8+1) (s:=1) (n:=(s6.1++[s15]).length) rfl)) (stl_cons (.fz (.of_isF 9 _ rfl)) (stl_cons (.fz (.of_isF 9 _ rfl)) (stl_cons (.fz (.of_isF 9 _ rfl)) stl_nil))))⟩
     ·refine T.sr (oN as' (TO.nil (T.block ?_)))
      refine T.loop (S:=(List ZIn)×Int) (G:=Nat) (F_spec_ParseProgram_L20 v1 s6 v14) (fun s19 gh=>True) (fun s19 gh=>[(9,I s19.2),(8,eL cS v14),(7,hS false 1 gh 4 s19.1.length),(6,I s6.2),(5,eL cS v1),(4,hS false 0 u8 1 s6.1.length),(0,St text)]) (fun s19 gh=>[bE false u8 1 31 (s6.1.map (cL ZIn.c)),bE false gh 4 33 (s19.1.map ZIn.c)]) (s0:=(([]:List ZIn),(0:Int))) 0 h trivial (kw rfl rfl) (fun s19 u21 ws19 h hg => ?_)
      refine T.seq (T.sr (oN mv (oN mv (oN (EvN.lenL sl95 rfl) (oN (EvN.ilt rfl rfl) (oN mv ?_))))))
      refine TO.jB h 3 (fun s22=>[(36,Bo s22),(9,I s19.2),(8,eL cS v14),(7,hS false 1 u21 4 s19.1.length),(6,I s6.2),(5,eL cS v1),(4,hS false 0 u8 1 s6.1.length),(0,St text)]) (fun s22=>[bE false u8 1 31 (s6.1.map (cL ZIn.c)),bE false u21 4 33 (s19.1.map ZIn.c)]) (fun s22 q23 h js22 => ?_) (fun s22 q23 h js22 => ?_) (fun s22 h => ?_)
      ·refine gN rfl q23 mv (gN rfl q23 (EvN.ile rfl rfl) (oN (EvN.pickT rfl q23 (Bo (decide (s19.2<=(7:Int)))) rfl) ?_))
       obtain rfl:=osj h
       exact js22 _ _ (kw rfl rfl)
      ·refine gS rfl q23 (gS rfl q23 (oN (EvN.pickF rfl q23 (Bo false) rfl) ?_))
       obtain rfl:=osj h
       exact js22 _ _ (kw rfl rfl)
      ·refine oN mv ?_
       refine TO.jB h 6 (fun s24=>[(43,Bo s24),(9,I s19.2),(8,eL cS v14),(7,hS false 1 u21 4 s19.1.length),(6,I s6.2),(5,eL cS v1),(4,hS false 0 u8 1 s6.1.length),(0,St text)]) (fun s24=>[bE false u8 1 31 (s6.1.map (cL ZIn.c)),bE false u21 4 33 (s19.1.map ZIn.c)]) (fun s24 q25 h js24 => ?_) (fun s24 q25 h js24 => ?_) (fun s24 h => ?_)
       ·refine gN rfl q25 mv (gN rfl q25 mv (gN rfl q25 (EvN.ixL sl95 rfl rfl g13 (fun _=>rfl)) (gN rfl q25 (lf (St (v1.getD s6.2.toNat default)) ty9 rfl) (gN rfl q25 (EvN.sne rfl rfl) (oN (EvN.pickT rfl q25 (Bo (!decide ((v1.getD s6.2.toNat default)=(⟨#[]⟩:ByteArray)))) rfl) ?_)))))
        obtain rfl:=osj h
        exact js24 _ _ (kw rfl rfl)
       ·refine gS rfl q25 (gS rfl q25 (gS rfl q25 (gS rfl q25 (gS rfl q25 (oN (EvN.pickF rfl q25 (Bo false) rfl) ?_)))))
        obtain rfl:=osj h
        exact js24 _ _ (kw rfl rfl)
       ·refine TO.nil ?_
        refine T.ifH rfl h (fun q26 h => ?_) (fun q26 h => ?_)
        ·refine T.skip (T.seq (T.block (T.region (oN mv (oN mv (oN mv (jD h fun g27 h=>oN (EvN.ixL sl95 rfl rfl g27 (fun _=>rfl)) (oN (lf (St (v14.getD s19.2.toNat default)) ty9 rfl) (oC h (fun _=>F_spec_l1Parse_P _) rfl rfl rfl rfl fun v28 _ h=>oN (EvN.mkF (c:=ZIn.c) ([v28]:List ZIn) [(ZIn.c v28)] sl31 rfl rfl rfl (fun _=>rfl) ZIn.isF rfl) (jL h fun g29 h=>oA (EvA.app1 (g:=false) (l:=s19.1) v28 sl31 (by kernel_rfl) rfl rfl rfl nofun (SrcOk.fz (l:=([v28]:List ZIn)) rfl (fun _=>rfl)) g29) (oN (EvN.asg (hS false 1 (u21+1) 4 ((s19.1++[v28]).length)) rfl) (TO.nil ?_))))))))))))
         refine T.region (oN mv (jW h fun g30 h=>oN (EvN.add rfl rfl g30) (oN as' (TO.nil ?_))))
         obtain rfl:=osj h
         exact ⟨((s19.1++[v28]),(s19.2+(1:Int))),u21+1,rfl,trivial,kw rfl rfl⟩
        ·refine T.exit (lX h fun h => ?_)
         obtain rfl:=osj h
         exact ⟨u21,trivial,kw rfl rfl⟩
   ·refine T.exit (lX h fun h => ?_)
    obtain rfl:=osj h
    exact ⟨u8,trivial,kw rfl rfl⟩
set_option maxHeartbeats 4000000 in
theorem F_spec_l1Instr_P (r_:Xspec_l17Rd) (ver0:Nat) {q:Xspec_l17Rd×ZIn} (h:F_spec_l1Instr r_=some q):ACall Try.prog 60 [.hp 0 ver0 2 0 0] [some ⟨ver0,2,86,[(Xspec_l17Rd.c r_)]⟩] (.agg (ZIn.c q.2)) [some ⟨ver0,2,86,[(Xspec_l17Rd.c q.1)]⟩]:=by
 refine aM Try.func60 rfl (by kernel_rfl) rfl (T.sr (oA (EvA.al zs33 rfl rfl) (TO.nil (T.sr (oN mv (jB h fun v1 cv1 h=>oA (EvA.call rfl rfl rfl ((F_spec_l17Rd_pick_P (⟨r_.b,r_.p⟩:Xspec_l17Rd) (2:Int) ver0 cv1).one 0 rfl (.cons (.hp rfl) (.cons (.pF rfl) .nil)) (rowsF_row rfl) (rowsF_row rfl) rfl)) (oN as' (TO.nil (T.seq (T.sr (oN mv (jB h fun v2 cv2 h=>oA (EvA.call rfl rfl rfl ((F_spec_l17Rd_pick_P (⟨v1.1.b,v1.1.p⟩:Xspec_l17Rd) (7:Int) ver0 cv2).one 0 rfl (.cons (.hp rfl) (.cons (.pF rfl) .nil)) (rowsF_row rfl) (rowsF_row rfl) rfl)) (TO.nil ?_)))))))))))))
 refine T.block (T.sr (oN (EvN.ieq rfl rfl) (oN as' (TO.nil ?_))))
 refine T.ifH rfl h (fun q3 h => ?_) (fun q3 h => ?_)
 ·refine T.sr (oN (EvN.build [I (4:Int),I (0:Int),I (0:Int),I (0:Int)] Try.underlying33 zs33 fs33 rfl rfl) (oV (sr [I (4:Int),I (0:Int),I (0:Int),I (0:Int)] ty33 rfl rfl rfl rfl) (TO.nil (T.ret ?_))))
  obtain rfl:=osj h
  repeat (first|refine retS ?_|refine retB ?_)
  exact ⟨envOf [(2,.fp (ZIn.c (⟨(4:Int),(0:Int),(0:Int),(0:Int)⟩:ZIn)) 0)],[some ⟨ver0,2,86,[(Xspec_l17Rd.c (⟨v2.1.b,v2.1.p⟩:Xspec_l17Rd))]⟩],cutS rfl (.cons (.row (.cons (.fz (.of_isF 9 _ rfl)) (.cons (.fz (.of_isF 9 _ rfl)) .nil))) .nil) (stl_cons (.fz (Fz.fpL (ver:=0) (s:=4) (ty:=33) (rows:=[[I (4:Int),I (0:Int),I (0:Int),I (0:Int)]]) rfl rfl rfl (.cons (.of_isF 9 _ rfl) (.cons (.of_isF 9 _ rfl) (.cons (.of_isF 9 _ rfl) (.cons (.of_isF 9 _ rfl) .nil)))))) stl_nil),Fin.ret (vs:=[.agg (ZIn.c (⟨(4:Int),(0:Int),(0:Int),(0:Int)⟩:ZIn))]) (.cons (.cellF (.agg (ZIn.c (⟨(4:Int),(0:Int),(0:Int),(0:Int)⟩:ZIn))) ty33 rfl rfl) .nil) ⟨rfl,rfl⟩⟩
 ·refine T.sr (oN (EvN.ieq rfl rfl) (oN as' (TO.nil ?_)))
  refine T.ifH rfl h (fun q4 h => ?_) (fun q4 h => ?_)
  ·refine T.sr (oN mv (oN mv (jB h fun v5 cv5 h=>oA (EvA.call rfl rfl rfl ((F_spec_l17Rd_pick_P (⟨v2.1.b,v2.1.p⟩:Xspec_l17Rd) (2:Int) ver0 cv5).one 0 rfl (.cons (.hp rfl) (.cons (.pF rfl) .nil)) (rowsF_row rfl) (rowsF_row rfl) rfl)) (oN (EvN.build [I (3:Int),I v1.2,I v5.2,I (0:Int)] Try.underlying33 zs33 fs33 rfl rfl) (oV (sr [I (3:Int),I v1.2,I v5.2,I (0:Int)] ty33 rfl rfl rfl rfl) (TO.nil (T.ret ?_)))))))
   obtain rfl:=osj h
   repeat (first|refine retS ?_|refine retB ?_)
   exact ⟨envOf [(2,.fp (ZIn.c (⟨(3:Int),v1.2,v5.2,(0:Int)⟩:ZIn)) 0)],[some ⟨ver0,2,86,[(Xspec_l17Rd.c (⟨v5.1.b,v5.1.p⟩:Xspec_l17Rd))]⟩],cutS rfl (.cons (.row (.cons (.fz (.of_isF 9 _ rfl)) (.cons (.fz (.of_isF 9 _ rfl)) .nil))) .nil) (stl_cons (.fz (Fz.fpL (ver:=0) (s:=4) (ty:=33) (rows:=[[I (3:Int),I v1.2,I v5.2,I (0:Int)]]) rfl rfl rfl (.cons (.of_isF 9 _ rfl) (.cons (.of_isF 9 _ rfl) (.cons (.of_isF 9 _ rfl) (.cons (.of_isF 9 _ rfl) .nil)))))) stl_nil),Fin.ret (vs:=[.agg (ZIn.c (⟨(3:Int),v1.2,v5.2,(0:Int)⟩:ZIn))]) (.cons (.cellF (.agg (ZIn.c (⟨(3:Int),v1.2,v5.2,(0:Int)⟩:ZIn))) ty33 rfl rfl) .nil) ⟨rfl,rfl⟩⟩
  ·refine T.sr (oN (EvN.ieq rfl rfl) (oN as' (TO.nil ?_)))
   refine T.ifH rfl h (fun q6 h => ?_) (fun q6 h => ?_)
   ·refine T.sr (oN mv (oN mv (jB h fun v7 cv7 h=>oA (EvA.call rfl rfl rfl ((F_spec_l17Rd_pick_P (⟨v2.1.b,v2.1.p⟩:Xspec_l17Rd) (2:Int) ver0 cv7).one 0 rfl (.cons (.hp rfl) (.cons (.pF rfl) .nil)) (rowsF_row rfl) (rowsF_row rfl) rfl)) (oN mv (jB h fun v8 cv8 h=>oA (EvA.call rfl rfl rfl ((F_spec_l17Rd_pick_P (⟨v7.1.b,v7.1.p⟩:Xspec_l17Rd) (3:Int) ver0 cv8).one 0 rfl (.cons (.hp rfl) (.cons (.pF rfl) .nil)) (rowsF_row rfl) (rowsF_row rfl) rfl)) (jW h fun g9 h=>oN (EvN.add rfl rfl g9) (oN (EvN.build [I (5:Int),I v1.2,I v7.2,I ((1:Int)+v8.2)] Try.underlying33 zs33 fs33 rfl rfl) (oV (sr [I (5:Int),I v1.2,I v7.2,I ((1:Int)+v8.2)] ty33 rfl rfl rfl rfl) (TO.nil (T.ret ?_))))))))))
    obtain rfl:=osj h
    repeat (first|refine retS ?_|refine retB ?_)
    exact ⟨envOf [(2,.fp (ZIn.c (⟨(5:Int),v1.2,v7.2,((1:Int)+v8.2)⟩:ZIn)) 0)],[some ⟨ver0,2,86,[(Xspec_l17Rd.c (⟨v8.1.b,v8.1.p⟩:Xspec_l17Rd))]⟩],cutS rfl (.cons (.row (.cons (.fz (.of_isF 9 _ rfl)) (.cons (.fz (.of_isF 9 _ rfl)) .nil))) .nil) (stl_cons (.fz (Fz.fpL (ver:=0) (s:=4) (ty:=33) (rows:=[[I (5:Int),I v1.2,I v7.2,I ((1:Int)+v8.2)]]) rfl rfl rfl (.cons (.of_isF 9 _ rfl) (.cons (.of_isF 9 _ rfl) (.cons (.of_isF 9 _ rfl) (.cons (.of_isF 9 _ rfl) .nil)))))) stl_nil),Fin.ret (vs:=[.agg (ZIn.c (⟨(5:Int),v1.2,v7.2,((1:Int)+v8.2)⟩:ZIn))]) (.cons (.cellF (.agg (ZIn.c (⟨(5:Int),v1.2,v7.2,((1:Int)+v8.2)⟩:ZIn))) ty33 rfl rfl) .nil) ⟨rfl,rfl⟩⟩
   ·refine T.jU h (fun s10=>[(26,Bo s10),(3,I v1.2),(2,.hp 1 0 4 0 0),(0,.hp 0 ver0 2 0 0)]) (fun s10=>[some ⟨ver0,2,86,[(Xspec_l17Rd.c v2.1)]⟩,some ⟨0,4,33,[[I (0:Int),I (0:Int),I (0:Int),I (0:Int)]]⟩]) (fun s10 h => ?_) (fun s10 h => ?_)
    ·refine T.ifH rfl h (fun q12 h => ?_) (fun q12 h => ?_)
     ·refine T.sr (oN mv (oN mv (jB h fun v13 cv13 h=>oA (EvA.call rfl rfl rfl ((F_spec_l17Rd_pick_P (⟨v2.1.b,v2.1.p⟩:Xspec_l17Rd) (3:Int) ver0 cv13).one 0 rfl (.cons (.hp rfl) (.cons (.pF rfl) .nil)) (rowsF_row rfl) (rowsF_row rfl) rfl)) (jW h fun g14 h=>oN (EvN.add rfl rfl g14) (oN (EvN.build [I (2:Int),I v1.2,I (0:Int),I ((1:Int)+v13.2)] Try.underlying33 zs33 fs33 rfl rfl) (oV (sr [I (2:Int),I v1.2,I (0:Int),I ((1:Int)+v13.2)] ty33 rfl rfl rfl rfl) (TO.nil (T.ret ?_))))))))
      obtain rfl:=osj h
      repeat (first|refine retS ?_|refine retB ?_)
      exact ⟨envOf [(2,.fp (ZIn.c (⟨(2:Int),v1.2,(0:Int),((1:Int)+v13.2)⟩:ZIn)) 0)],[some ⟨ver0,2,86,[(Xspec_l17Rd.c (⟨v13.1.b,v13.1.p⟩:Xspec_l17Rd))]⟩],cutS rfl (.cons (.row (.cons (.fz (.of_isF 9 _ rfl)) (.cons (.fz (.of_isF 9 _ rfl)) .nil))) .nil) (stl_cons (.fz (Fz.fpL (ver:=0) (s:=4) (ty:=33) (rows:=[[I (2:Int),I v1.2,I (0:Int),I ((1:Int)+v13.2)]]) rfl rfl rfl (.cons (.of_isF 9 _ rfl) (.cons (.of_isF 9 _ rfl) (.cons (.of_isF 9 _ rfl) (.cons (.of_isF 9 _ rfl) .nil)))))) stl_nil),Fin.ret (vs:=[.agg (ZIn.c (⟨(2:Int),v1.2,(0:Int),((1:Int)+v13.2)⟩:ZIn))]) (.cons (.cellF (.agg (ZIn.c (⟨(2:Int),v1.2,(0:Int),((1:Int)+v13.2)⟩:ZIn))) ty33 rfl rfl) .nil) ⟨rfl,rfl⟩⟩
     ·refine T.skip (T.sr (oN mv (oN mv (jB h fun v15 cv15 h=>oA (EvA.call rfl rfl rfl ((F_spec_l17Rd_pick_P (⟨v2.1.b,v2.1.p⟩:Xspec_l17Rd) (2:Int) ver0 cv15).one 0 rfl (.cons (.hp rfl) (.cons (.pF rfl) .nil)) (rowsF_row rfl) (rowsF_row rfl) rfl)) (oN (EvN.build [I (1:Int),I v1.2,I v15.2,I (0:Int)] Try.underlying33 zs33 fs33 rfl rfl) (oV (sr [I (1:Int),I v1.2,I v15.2,I (0:Int)] ty33 rfl rfl rfl rfl) (TO.nil (T.ret ?_))))))))
      obtain rfl:=osj h
      repeat (first|refine retS ?_|refine retB ?_)
      exact ⟨envOf [(2,.fp (ZIn.c (⟨(1:Int),v1.2,v15.2,(0:Int)⟩:ZIn)) 0)],[some ⟨ver0,2,86,[(Xspec_l17Rd.c (⟨v15.1.b,v15.1.p⟩:Xspec_l17Rd))]⟩],cutS rfl (.cons (.row (.cons (.fz (.of_isF 9 _ rfl)) (.cons (.fz (.of_isF 9 _ rfl)) .nil))) .nil) (stl_cons (.fz (Fz.fpL (ver:=0) (s:=4) (ty:=33) (rows:=[[I (1:Int),I v1.2,I v15.2,I (0:Int)]]) rfl rfl rfl (.cons (.of_isF 9 _ rfl) (.cons (.of_isF 9 _ rfl) (.cons (.of_isF 9 _ rfl) (.cons (.of_isF 9 _ rfl) .nil)))))) stl_nil),Fin.ret (vs:=[.agg (ZIn.c (⟨(1:Int),v1.2,v15.2,(0:Int)⟩:ZIn))]) (.cons (.cellF (.agg (ZIn.c (⟨(1:Int),v1.2,v15.2,(0:Int)⟩:ZIn))) ty33 rfl rfl) .nil) ⟨rfl,rfl⟩⟩
    ·refine T.sr (oN (EvN.ieq rfl rfl) (oN as' (TO.nil ?_)))
     refine T.ifH rfl h (fun q11 h => ?_) (fun q11 h => ?_)
     ·refine T.skip ?_
      obtain rfl:=osj h
      exact ⟨(),trivial,kw rfl rfl⟩
     ·refine T.region (oN (EvN.ieq rfl rfl) (oN as' (TO.nil ?_)))
      obtain rfl:=osj h
      exact ⟨(),trivial,kw rfl rfl⟩
set_option maxHeartbeats 4000000 in
theorem F_spec_l1Draw_P (r_:Xspec_l17Rd) (ver0:Nat) {q:Xspec_l17Rd×(List (List ZIn))} (h:F_spec_l1Draw r_=some q):ACall Try.prog 47 [.hp 0 ver0 2 0 0] [some ⟨ver0,2,86,[(Xspec_l17Rd.c r_)]⟩] (eL (cL ZIn.c) q.2) [some ⟨ver0,2,86,[(Xspec_l17Rd.c q.1)]⟩]:=by
 refine aM Try.func47 rfl (by kernel_rfl) rfl (T.sr (oN as' (TO.nil (T.sr (oC h (fun _=>F_spec_l1Tests_P) rfl rfl rfl rfl fun v1 _ h=>oN as' (TO.nil ?_))))))
 obtain ⟨Ks2,es2,ws2,h,ks2⟩:=sumL h
 refine T.join (S:=(List Int)×Int) (G:=Unit) (fun s2=>Ks2 s2=some q) (fun s2 gh=>True) (fun s2 gh=>[(0,.hp 0 ver0 2 0 0)]) (fun s2 gh=>[some ⟨ver0,2,86,[[eL cY s2.1,I s2.2]]⟩]) (fun s2 gh h hg => ?_) ?_
 ·clear ks2
  subst es2
  refine T.sr (oA (EvA.mkO (c:=(cL ZIn.c)) ([]:List (List ZIn)) [] sl23 rfl rfl rfl (fun _=>rfl) rfl rfl) (oN (EvN.asg (hS false 1 0 1 (([]:List (List ZIn)).length)) rfl) (TO.nil ?_)))
  refine T.jF (G:=Nat) h (fun s9 gh=>True) (fun s9 gh=>[(6,hS false 1 gh 1 s9.2.2.length),(0,.hp 0 ver0 2 0 0)]) (fun s9 gh=>[some ⟨ver0,2,86,[[eL cY s9.1,I s9.2.1]]⟩,bE false gh 1 31 (s9.2.2.map (cL ZIn.c))]) (fun s9 u35 h hg => ?_) (fun s9 h => ?_)
  ·refine T.seq (T.sr (oN mv (jB h fun v36 cv36 h=>oA (EvA.callT rfl rfl (F_spec_ProgramValid_P s9.2.2 cv36) (.cons (Fz.own (g:=false) (ver:=u35) (l:=s9.2.2) rfl rfl rfl nofun (fun _=>rfl)) .nil) rfl) (TO.nil ?_))))
   refine T.ifH rfl h (fun q37 h => ?_) (fun q37 h => ?_)
   ·refine T.sr (oN mv (oN (EvN.asg (hS false 1 u35 1 s9.2.2.length) rfl) (TO.nil (T.ret ?_))))
    obtain rfl:=osj h
    repeat (first|refine retS ?_|refine retB ?_)
    exact ⟨envOf [(2,eL (cL ZIn.c) s9.2.2)],[some ⟨ver0,2,86,[(Xspec_l17Rd.c (⟨s9.1,s9.2.1⟩:Xspec_l17Rd))]⟩],cutS rfl (.cons (.row (.cons (.fz (.of_isF 9 _ rfl)) (.cons (.fz (.of_isF 9 _ rfl)) .nil))) .nil) (stl_cons (.fz (Fz.own (g:=false) (ver:=u35) (l:=s9.2.2) rfl rfl rfl nofun (fun _=>rfl))) stl_nil),Fin.ret (vs:=[eL (cL ZIn.c) s9.2.2]) (.cons (.tmp rfl) .nil) ⟨rfl,rfl⟩⟩
   ·refine T.skip (T.sr (oN mv (jB h fun v38 cv38 h=>oA (EvA.call rfl rfl rfl ((F_spec_l1Instr_P (⟨s9.1,s9.2.1⟩:Xspec_l17Rd) ver0 cv38).one 0 rfl (.cons (.hp rfl) .nil) (rowsF_row rfl) (rowsF_row rfl) rfl)) (oN (EvN.mkF (c:=ZIn.c) ([v38.2]:List ZIn) [(ZIn.c v38.2)] sl31 rfl rfl rfl (fun _=>rfl) ZIn.isF rfl) (oN (EvN.mkF (c:=(cL ZIn.c)) ([([v38.2]:List ZIn)]:List (List ZIn)) [[eL ZIn.c ([v38.2]:List ZIn)]] sl23 rfl rfl rfl (fun _=>rfl) (fun _=>rfl) rfl) (oN as' (TO.nil (T.ret ?_))))))))
    obtain rfl:=osj h
    repeat (first|refine retS ?_|refine retB ?_)
    exact ⟨envOf [(2,eL (cL ZIn.c) ([([v38.2]:List ZIn)]:List (List ZIn)))],[some ⟨ver0,2,86,[(Xspec_l17Rd.c (⟨v38.1.b,v38.1.p⟩:Xspec_l17Rd))]⟩],cutS rfl (.cons (.row (.cons (.fz (.of_isF 9 _ rfl)) (.cons (.fz (.of_isF 9 _ rfl)) .nil))) .nil) (stl_cons (.fz (.of_isF 9 _ rfl)) stl_nil),Fin.ret (vs:=[eL (cL ZIn.c) ([([v38.2]:List ZIn)]:List (List ZIn))]) (.cons (.tmp rfl) .nil) ⟨rfl,rfl⟩⟩
  ·refine T.sr (oN mv (oN (EvN.mkF (c:=cI) ([(2:Int),(3:Int),(1:Int)]:List Int) [[I (2:Int)],[I (3:Int)],[I (1:Int)]] sl63 rfl rfl rfl (fun _=>rfl) (fun _=>rfl) rfl) (jB h fun v10 cv10 h=>oA (EvA.call rfl rfl rfl ((F_spec_l17Rd_num_P (⟨s2.1,s2.2⟩:Xspec_l17Rd) ([(2:Int),(3:Int),(1:Int)]:List Int) ver0 cv10).one 0 rfl (.cons (.hp rfl) (.cons (.pF rfl) .nil)) (rowsF_row rfl) (rowsF_row rfl) rfl)) (oN as' (TO.nil (T.block ?_))))))
   refine T.loop (S:=(List Int)×Int×(List (List ZIn))×Int) (G:=Nat) F_spec_l1Draw_L15 (fun s14 gh=>True) (fun s14 gh=>[(7,I s14.2.2.2),(6,hS false 1 gh 1 s14.2.2.1.length),(0,.hp 0 ver0 2 0 0)]) (fun s14 gh=>[some ⟨ver0,2,86,[[eL cY s14.1,I s14.2.1]]⟩,bE false gh 1 31 (s14.2.2.1.map (cL ZIn.c))]) (s0:=(v10.1.b,v10.1.p,([]:List (List ZIn)),v10.2)) 0 h trivial (kw rfl rfl) (fun s14 u16 ws14 h hg => ?_)
   refine T.seq (T.sr (oN mv (oN (EvN.igt rfl rfl) (TO.nil ?_))))
   refine T.ifH rfl h (fun q17 h => ?_) (fun q17 h => ?_)
   ·refine T.skip ?_
    refine T.jF (G:=Nat) h (fun s18 gh=>True) (fun s18 gh=>[(6,hS false 1 gh 1 s18.2.2.length),(7,I s14.2.2.2),(0,.hp 0 ver0 2 0 0)]) (fun s18 gh=>[some ⟨ver0,2,86,[[eL cY s18.1,I s18.2.1]]⟩,bE false gh 1 31 (s18.2.2.map (cL ZIn.c))]) (fun s18 u33 h hg => ?_) (fun s18 h => ?_)
    ·refine T.region (oN mv (jW h fun g34 h=>oN (EvN.sub rfl rfl g34) (oN as' (TO.nil ?_))))
     obtain rfl:=osj h
     exact ⟨(s18.1,s18.2.1,s18.2.2,(s14.2.2.2-(1:Int))),u33,rfl,trivial,kw rfl rfl⟩
    ·refine T.block (T.sr (oA (EvA.mkO (c:=ZIn.c) ([]:List ZIn) [] sl31 rfl rfl rfl (fun _=>rfl) rfl rfl) (oN (EvN.asg (hS false 2 0 4 (([]:List ZIn).length)) rfl) (TO.nil ?_))))
     refine T.jF (G:=Nat) h (fun s19 gh=>True) (fun s19 gh=>[(8,hS false 2 gh 4 s19.2.2.length),(7,I s14.2.2.2),(6,hS false 1 u16 1 s14.2.2.1.length),(0,.hp 0 ver0 2 0 0)]) (fun s19 gh=>[some ⟨ver0,2,86,[[eL cY s19.1,I s19.2.1]]⟩,bE false u16 1 31 (s14.2.2.1.map (cL ZIn.c)),bE false gh 4 33 (s19.2.2.map ZIn.c)]) (fun s19 u31 h hg => ?_) (fun s19 h => ?_)
     ·refine T.region (oN mv (oN mv (oA (EvA.mkR [[hS false 2 u31 4 s19.2.2.length]] sl23 rfl rfl rfl rfl) (jL h fun g32 h=>oA (EvA.appR (g:=false) (rows:=s14.2.2.1.map (cL ZIn.c)) (rows':=s14.2.2.1.map (cL ZIn.c)++[[hS false 2 u31 4 s19.2.2.length]]) (n':=s14.2.2.1.length+1) sl23 (by kernel_rfl) rfl rfl (by simp) nofun (SrcOk.raw (rows:=[[hS false 2 u31 4 s19.2.2.length]]) rfl rfl rfl) g32 rfl rfl) (oN (EvN.asg (hS false 1 (u16+1) 1 (s14.2.2.1.length+1)) rfl) (TO.nil ?_))))))
      obtain rfl:=osj h
      exact ⟨u16+1,trivial,cutS rfl (.cons (.row (.cons (.fz (.of_isF 9 _ rfl)) (.cons (.fz (.of_isF 9 _ rfl)) .nil))) (.cons (.snoc (fun _=>rfl) (.cons (.cons (.fz (Fz.own (g:=false) (ver:=u31) (l:=s19.2.2) rfl rfl rfl nofun ZIn.isF)) .nil) .nil)) .nil)) (stl_cons (.eqv (congrArg (hS false 1 (u16+1) 1) (by simp:(s14.2.2.1.length+1)=(s14.2.2.1++[s19.2.2]).length)) (.hS (g:=false) (b:=1) (ver:=u16+1) (s:=1) (n:=(s14.2.2.1++[s19.2.2]).length) rfl)) (stl_cons (.fz (.of_isF 9 _ rfl)) (stl_cons (.hp (Nat.le_of_ble_eq_true rfl)) stl_nil)))⟩
     ·refine T.sr (oN mv (oN (EvN.mkF (c:=cI) ([(2:Int),(1:Int),(3:Int),(2:Int),(0:Int)]:List Int) [[I (2:Int)],[I (1:Int)],[I (3:Int)],[I (2:Int)],[I (0:Int)]] sl63 rfl rfl rfl (fun _=>rfl) (fun _=>rfl) rfl) (jB h fun v20 cv20 h=>oA (EvA.call rfl rfl rfl ((F_spec_l17Rd_num_P (⟨s14.1,s14.2.1⟩:Xspec_l17Rd) ([(2:Int),(1:Int),(3:Int),(2:Int),(0:Int)]:List Int) ver0 cv20).one 0 rfl (.cons (.hp rfl) (.cons (.pF rfl) .nil)) (rowsF_row rfl) (rowsF_row rfl) rfl)) (oN as' (TO.nil (T.block ?_))))))
      refine T.loop (S:=(List Int)×Int×(List ZIn)×Int) (G:=Nat) F_spec_l1Draw_L25 (fun s24 gh=>True) (fun s24 gh=>[(9,I s24.2.2.2),(8,hS false 2 gh 4 s24.2.2.1.length),(7,I s14.2.2.2),(6,hS false 1 u16 1 s14.2.2.1.length),(0,.hp 0 ver0 2 0 0)]) (fun s24 gh=>[some ⟨ver0,2,86,[[eL cY s24.1,I s24.2.1]]⟩,bE false u16 1 31 (s14.2.2.1.map (cL ZIn.c)),bE false gh 4 33 (s24.2.2.1.map ZIn.c)]) (s0:=(v20.1.b,v20.1.p,([]:List ZIn),v20.2)) 0 h trivial (kw rfl rfl) (fun s24 u26 ws24 h hg => ?_)
      refine T.seq (T.sr (oN mv (oN (EvN.igt rfl rfl) (TO.nil ?_))))
      refine T.ifH rfl h (fun q27 h => ?_) (fun q27 h => ?_)
      ·refine T.skip (T.seq (T.block (T.region (oN mv (oN mv (jB h fun v28 cv28 h=>oA (EvA.call rfl rfl rfl ((F_spec_l1Instr_P (⟨s24.1,s24.2.1⟩:Xspec_l17Rd) ver0 cv28).one 0 rfl (.cons (.hp rfl) .nil) (rowsF_row rfl) (rowsF_row rfl) rfl)) (oN (EvN.mkF (c:=ZIn.c) ([v28.2]:List ZIn) [(ZIn.c v28.2)] sl31 rfl rfl rfl (fun _=>rfl) ZIn.isF rfl) (jL h fun g29 h=>oA (EvA.app1 (g:=false) (l:=s24.2.2.1) v28.2 sl31 (by kernel_rfl) rfl rfl rfl nofun (SrcOk.fz (l:=([v28.2]:List ZIn)) rfl (fun _=>rfl)) g29) (oN (EvN.asg (hS false 2 (u26+1) 4 ((s24.2.2.1++[v28.2]).length)) rfl) (TO.nil (T.region (oN mv (jW h fun g30 h => ?_)))))))))))))
       refine oN (EvN.sub rfl rfl g30) (oN as' (TO.nil ?_))
       obtain rfl:=osj h
       exact ⟨(v28.1.b,v28.1.p,(s24.2.2.1++[v28.2]),(s24.2.2.2-(1:Int))),u26+1,rfl,trivial,kw rfl rfl⟩
      ·refine T.exit (lX h fun h => ?_)
       obtain rfl:=osj h
       exact ⟨u26,trivial,kw rfl rfl⟩
   ·refine T.exit (lX h fun h => ?_)
    obtain rfl:=osj h
    exact ⟨u16,trivial,kw rfl rfl⟩
 ·refine T.sr (oN mv (jB h fun v3 cv3 h=>oA (EvA.call rfl rfl rfl ((F_spec_l17Rd_pick_P (⟨r_.b,r_.p⟩:Xspec_l17Rd) (3:Int) ver0 cv3).one 0 rfl (.cons (.hp rfl) (.cons (.pF rfl) .nil)) (rowsF_row rfl) (rowsF_row rfl) rfl)) (oN (EvN.igt rfl rfl) (TO.nil ?_))))
  refine T.ifH rfl h (fun q4 h => ?_) (fun q4 h => ?_)
  ·refine T.sr (oN mv (oN mv (oN mv (oN (EvN.lenL sl95 rfl) (jB h fun v5 cv5 h=>oA (EvA.call rfl rfl rfl ((F_spec_l17Rd_pick_P (⟨v3.1.b,v3.1.p⟩:Xspec_l17Rd) (v1.length:Int) ver0 cv5).one 0 rfl (.cons (.hp rfl) (.cons (.pF rfl) .nil)) (rowsF_row rfl) (rowsF_row rfl) rfl)) (jD h fun g6 h=>oN (EvN.ixL sl95 rfl rfl g6 (fun _=>rfl)) (oN (lf (St (v1.getD v5.2.toNat default)) ty9 rfl) (oC h (fun _=>F_spec_ParseProgram_P _) rfl rfl rfl rfl fun v7 _ h=>oN mv (oN (EvN.ext (eL (cL ZIn.c) v7.1) rfl rfl) (oN (EvN.ext (Bo v7.2) rfl rfl) (oN as' (oN as' ?_))))))))))))
   refine TO.nil (T.seq (T.clean (H0:=[some ⟨ver0,2,86,[(Xspec_l17Rd.c v5.1)]⟩]) (e0:=envOf [(5,Bo v7.2),(4,eL (cL ZIn.c) v7.1),(0,.hp 0 ver0 2 0 0)]) rfl (wkC rfl (wkC rfl (wkC rfl wkN))) (T.region (oN mv (TO.nil ?_)))))
   refine T.ifH rfl h (fun q8 h => ?_) (fun q8 h => ?_)
   ·refine T.sr (oN mv (oN as' (TO.nil (T.ret ?_))))
    obtain rfl:=osj h
    replace h:=congrArg some (show _=_ from ks2)
    obtain rfl:=osj h
    repeat (first|refine retS ?_|refine retB ?_)
    exact ⟨envOf [(2,eL (cL ZIn.c) v7.1)],[some ⟨ver0,2,86,[(Xspec_l17Rd.c (⟨v5.1.b,v5.1.p⟩:Xspec_l17Rd))]⟩],kw rfl rfl,Fin.ret (vs:=[eL (cL ZIn.c) v7.1]) (.cons (.tmp rfl) .nil) ⟨rfl,rfl⟩⟩
   ·refine T.skip ?_
    obtain rfl:=osj h
    exact ⟨(v5.1.b,v5.1.p),(),ks2,trivial,kw rfl rfl⟩
  ·refine T.skip ?_
   obtain rfl:=osj h
   exact ⟨(v3.1.b,v3.1.p),(),ks2,trivial,kw rfl rfl⟩
theorem F_spec_l1Writes_P (x:ZIn) {q:Bool} (h:F_spec_l1Writes x=some q):PCall Try.prog 64 [.agg (ZIn.c x)] (Bo q):=by
 refine pM Try.func64 rfl (by kernel_rfl) rfl (T.sr (oN (EvN.bxF (ZIn.c x) rfl rfl rfl) (oN as' (TO.nil (T.sr (oN (fa fs33 rfl) (oN (lf (I x.Op) ty3 rfl) (oN (EvN.ieq rfl rfl) (oN mv ?_)))))))))
 refine TO.jB h 4 (fun s1=>[(10,Bo s1),(1,.fp (ZIn.c x) 0)]) (fun s1=>[]) (fun s1 q2 h js1 => ?_) (fun s1 q2 h js1 => ?_) (fun s1 h => ?_)
 ·refine gS rfl q2 (gS rfl q2 (gS rfl q2 (oN (EvN.pickT rfl q2 (Bo true) rfl) ?_)))
  obtain rfl:=osj h
  exact js1 _ _ (kw rfl rfl)
 ·refine gN rfl q2 (fa fs33 rfl) (gN rfl q2 (lf (I x.Op) ty3 rfl) (gN rfl q2 (EvN.ieq rfl rfl) (oN (EvN.pickF rfl q2 (Bo (x.Op==(3:Int))) rfl) ?_)))
  obtain rfl:=osj h
  exact js1 _ _ (kw rfl rfl)
 ·refine oN mv ?_
  refine TO.jB h 4 (fun s3=>[(15,Bo s3)]) (fun s3=>[]) (fun s3 q4 h js3 => ?_) (fun s3 q4 h js3 => ?_) (fun s3 h => ?_)
  ·refine gS rfl q4 (gS rfl q4 (gS rfl q4 (oN (EvN.pickT rfl q4 (Bo true) rfl) ?_)))
   obtain rfl:=osj h
   exact js3 _ _ (kw rfl rfl)
  ·refine gN rfl q4 (fa fs33 rfl) (gN rfl q4 (lf (I x.Op) ty3 rfl) (gN rfl q4 (EvN.ieq rfl rfl) (oN (EvN.pickF rfl q4 (Bo (x.Op==(5:Int))) rfl) ?_)))
   obtain rfl:=osj h
   exact js3 _ _ (kw rfl rfl)
  ·refine oN as' (TO.nil (T.ret ?_))
   obtain rfl:=osj h
   exact finR rfl rfl rfl
theorem F_spec_l1Reads_P (x:ZIn) {q:Bool} (h:F_spec_l1Reads x=some q):PCall Try.prog 65 [.agg (ZIn.c x)] (Bo q):=by
 refine pM Try.func65 rfl (by kernel_rfl) rfl (T.sr (oN (EvN.bxF (ZIn.c x) rfl rfl rfl) (oN as' (TO.nil (T.sr (oN (fa fs33 rfl) (oN (lf (I x.Op) ty3 rfl) (oN (EvN.ieq rfl rfl) (oN mv ?_)))))))))
 refine TO.jB h 4 (fun s1=>[(10,Bo s1)]) (fun s1=>[]) (fun s1 q2 h js1 => ?_) (fun s1 q2 h js1 => ?_) (fun s1 h => ?_)
 ·refine gS rfl q2 (gS rfl q2 (gS rfl q2 (oN (EvN.pickT rfl q2 (Bo true) rfl) ?_)))
  obtain rfl:=osj h
  exact js1 _ _ (kw rfl rfl)
 ·refine gN rfl q2 (fa fs33 rfl) (gN rfl q2 (lf (I x.Op) ty3 rfl) (gN rfl q2 (EvN.ieq rfl rfl) (oN (EvN.pickF rfl q2 (Bo (x.Op==(5:Int))) rfl) ?_)))
  obtain rfl:=osj h
  exact js1 _ _ (kw rfl rfl)
 ·refine oN as' (TO.nil (T.ret ?_))
  obtain rfl:=osj h
  exact finR rfl rfl rfl
set_option maxHeartbeats 4000000 in
theorem F_spec_l1Count_P (p:List (List ZIn)) (loc:Int) (writes:Bool) {q:Int} (h:F_spec_l1Count p loc writes=some q):PCall Try.prog 50 [eL (cL ZIn.c) p,I loc,Bo writes] (I q):=by
 refine pM Try.func50 rfl (by kernel_rfl) rfl (T.sr (oN as' (TO.nil (T.sr (oN as' (TO.nil ?_))))))
 refine T.jU h (fun s1=>[(7,I s1)]) (fun s1=>[]) (fun s1 h => ?_) (fun s1 h => ?_)
 ·refine T.sr (oN mv (oN as' (TO.nil (T.ret ?_))))
  obtain rfl:=osj h
  exact finR rfl rfl rfl
 ·refine T.sr (oN as' (TO.nil (T.block ?_)))
  refine T.lU h (fun s4=>[(8,I s4.1),(7,I s4.2),(0,eL (cL ZIn.c) p),(1,I loc),(2,Bo writes)]) (fun s4=>[]) (kw rfl rfl) (fun s4 ws4 h => ?_)
  refine T.seq (T.sr (oN mv (oN mv (oN (EvN.lenL sl23 rfl) (oN (EvN.ilt rfl rfl) (TO.nil ?_))))))
  refine T.ifH rfl h (fun q6 h => ?_) (fun q6 h => ?_)
  ·refine T.skip ?_
   refine T.jU h (fun s7=>[(8,I s4.1),(7,I s7),(0,eL (cL ZIn.c) p),(1,I loc),(2,Bo writes)]) (fun s7=>[]) (fun s7 h => ?_) (fun s7 h => ?_)
   ·refine T.region (oN mv (jW h fun g29 h=>oN (EvN.add rfl rfl g29) (oN as' (TO.nil ?_))))
    exact lE h (kw rfl rfl)
   ·refine T.block (T.sr (oN as' (TO.nil (T.block ?_))))
    refine T.lU h (fun s10=>[(9,I s10.1),(8,I s4.1),(7,I s10.2),(0,eL (cL ZIn.c) p),(1,I loc),(2,Bo writes)]) (fun s10=>[]) (kw rfl rfl) (fun s10 ws10 h => ?_)
    refine T.seq (T.sr (oN mv (oN mv (oN mv (jD h fun g12 h=>oN (EvN.ixL sl23 rfl rfl g12 (fun _=>rfl)) (oN (lf (eL ZIn.c (p.getD s4.1.toNat default)) ty31 rfl) (oN (EvN.lenL sl31 rfl) (oN (EvN.ilt rfl rfl) (TO.nil ?_)))))))))
    refine T.ifH rfl h (fun q13 h => ?_) (fun q13 h => ?_)
    ·refine T.skip ?_
     refine T.jU h (fun s14=>[(7,I s14),(9,I s10.1),(8,I s4.1),(0,eL (cL ZIn.c) p),(1,I loc),(2,Bo writes)]) (fun s14=>[]) (fun s14 h => ?_) (fun s14 h => ?_)
     ·refine T.region (oN mv (jW h fun g28 h=>oN (EvN.add rfl rfl g28) (oN as' (TO.nil ?_))))
      exact lE h (kw rfl rfl)
     ·refine T.block (T.sr (oN mv (oN mv (oN (EvN.ixL sl23 rfl rfl g12 (fun _=>rfl)) (oN (lf (eL ZIn.c (p.getD s4.1.toNat default)) ty31 rfl) (oN mv (jD h fun g15 h=>oN (EvN.ixL sl31 rfl rfl g15 (fun _=>rfl)) (oN (lf (.agg (ZIn.c ((p.getD s4.1.toNat default).getD s10.1.toNat default))) ty33 rfl) (oA (EvA.al zs33 rfl rfl) (oV (sr (ZIn.c ((p.getD s4.1.toNat default).getD s10.1.toNat default)) ty33 rfl rfl rfl rfl) (TO.nil (T.sr (oN (fa fs33 rfl) (oA (lh (I (((p.getD s4.1.toNat default).getD s10.1.toNat default).Loc)) ty3 rfl rfl rfl) ?_))))))))))))))
      refine oN mv (oN (EvN.ieq rfl rfl) (oN mv ?_))
      refine TO.jB h 14 (fun s16=>[(51,Bo s16),(9,I s10.1),(8,I s4.1),(7,I s10.2),(0,eL (cL ZIn.c) p),(1,I loc),(2,Bo writes)]) (fun s16=>[some ⟨0,4,33,[(ZIn.c ((p.getD s4.1.toNat default).getD s10.1.toNat default))]⟩]) (fun s16 q17 h js16 => ?_) (fun s16 q17 h js16 => ?_) (fun s16 h => ?_)
      ·refine gN rfl q17 mv (gN rfl q17 mv ?_)
       refine TO.jB h 3 (fun s18=>[(42,Bo s18),(39,Bo writes),(38,Bo writes),(37,Bo ((((p.getD s4.1.toNat default).getD s10.1.toNat default).Loc)==loc)),(10,.hp 0 0 4 0 0),(9,I s10.1),(8,I s4.1),(7,I s10.2),(0,eL (cL ZIn.c) p),(1,I loc),(2,Bo writes)]) (fun s18=>[some ⟨0,4,33,[(ZIn.c ((p.getD s4.1.toNat default).getD s10.1.toNat default))]⟩]) (fun s18 q19 h js18 => ?_) (fun s18 q19 h js18 => ?_) (fun s18 h => ?_)
       ·refine gA rfl q19 (lh (.agg (ZIn.c ((p.getD s4.1.toNat default).getD s10.1.toNat default))) ty33 rfl rfl rfl) (jB h fun v20 cv20 h=>gN rfl q19 (EvN.call rfl rfl rfl (F_spec_l1Writes_P (⟨((p.getD s4.1.toNat default).getD s10.1.toNat default).Op,((p.getD s4.1.toNat default).getD s10.1.toNat default).Loc,((p.getD s4.1.toNat default).getD s10.1.toNat default).Reg,((p.getD s4.1.toNat default).getD s10.1.toNat default).Val⟩:ZIn) cv20) rfl) (gN rfl q17 (EvN.pickT rfl q19 (Bo v20) rfl) ?_))
        obtain rfl:=osj h
        exact js18 _ _ (kw rfl rfl)
       ·refine gS rfl q19 (gS rfl q19 (gN rfl q17 (EvN.pickF rfl q19 (Bo false) rfl) ?_))
        obtain rfl:=osj h
        exact js18 _ _ (kw rfl rfl)
       ·refine gN rfl q17 mv ?_
        refine TO.jB h 7 (fun s21=>[(50,Bo s21),(43,Bo s18),(42,Bo s18),(39,Bo writes),(38,Bo writes),(37,Bo ((((p.getD s4.1.toNat default).getD s10.1.toNat default).Loc)==loc)),(9,I s10.1),(8,I s4.1),(7,I s10.2),(0,eL (cL ZIn.c) p),(1,I loc),(2,Bo writes)]) (fun s21=>[some ⟨0,4,33,[(ZIn.c ((p.getD s4.1.toNat default).getD s10.1.toNat default))]⟩]) (fun s21 q22 h js21 => ?_) (fun s21 q22 h js21 => ?_) (fun s21 h => ?_)
        ·refine gS rfl q22 (gS rfl q22 (gS rfl q22 (gU rfl (gU rfl (gS rfl q22 (gN rfl q17 (EvN.pickT rfl q22 (Bo true) rfl) ?_))))))
         obtain rfl:=osj h
         exact js21 _ _ (kw rfl rfl)
        ·refine gN rfl q22 mv (gN rfl q22 (EvN.not rfl) (gN rfl q22 mv ?_))
         refine TO.jB h 3 (fun s23=>[(49,Bo s23),(46,Bo (!writes)),(45,Bo (!writes)),(44,Bo writes),(43,Bo s18),(42,Bo s18),(39,Bo writes),(38,Bo writes),(37,Bo ((((p.getD s4.1.toNat default).getD s10.1.toNat default).Loc)==loc)),(9,I s10.1),(8,I s4.1),(7,I s10.2),(0,eL (cL ZIn.c) p),(1,I loc),(2,Bo writes)]) (fun s23=>[some ⟨0,4,33,[(ZIn.c ((p.getD s4.1.toNat default).getD s10.1.toNat default))]⟩]) (fun s23 q24 h js23 => ?_) (fun s23 q24 h js23 => ?_) (fun s23 h => ?_)
         ·refine gA rfl q24 (lh (.agg (ZIn.c ((p.getD s4.1.toNat default).getD s10.1.toNat default))) ty33 rfl rfl rfl) (jB h fun v25 cv25 h=>gN rfl q24 (EvN.call rfl rfl rfl (F_spec_l1Reads_P (⟨((p.getD s4.1.toNat default).getD s10.1.toNat default).Op,((p.getD s4.1.toNat default).getD s10.1.toNat default).Loc,((p.getD s4.1.toNat default).getD s10.1.toNat default).Reg,((p.getD s4.1.toNat default).getD s10.1.toNat default).Val⟩:ZIn) cv25) rfl) (gN rfl q22 (EvN.pickT rfl q24 (Bo v25) rfl) ?_))
          obtain rfl:=osj h
          exact js23 _ _ (kw rfl rfl)
         ·refine gS rfl q24 (gS rfl q24 (gN rfl q22 (EvN.pickF rfl q24 (Bo false) rfl) ?_))
          obtain rfl:=osj h
          exact js23 _ _ (kw rfl rfl)
         ·refine gN rfl q17 (EvN.pickF rfl q22 (Bo s23) rfl) ?_
          obtain rfl:=osj h
          exact js21 _ _ (kw rfl rfl)
        ·refine oN (EvN.pickT rfl q17 (Bo s21) rfl) ?_
         obtain rfl:=osj h
         exact js16 _ _ (kw rfl rfl)
      ·refine gS rfl q17 (gS rfl q17 (gU rfl (gU rfl (gS rfl q17 (gS rfl q17 (gU rfl (gU rfl (gU rfl (gU rfl (gU rfl (gU rfl (gS rfl q17 (oN (EvN.pickF rfl q17 (Bo false) rfl) ?_)))))))))))))
       obtain rfl:=osj h
       exact js16 _ _ (kw rfl rfl)
      ·refine TO.nil ?_
       refine T.ifH rfl h (fun q26 h => ?_) (fun q26 h => ?_)
       ·refine T.region (oN mv (jW h fun g27 h=>oN (EvN.add rfl rfl g27) (oN as' (TO.nil ?_))))
        obtain rfl:=osj h
        exact ⟨(),trivial,cutS rfl .nil (stl_cons (.fz (.of_isF 9 _ rfl)) (stl_cons (.fz (.of_isF 9 _ rfl)) (stl_cons (.fz (.of_isF 9 _ rfl)) (stl_cons (.fz (.of_isF 9 _ rfl)) (stl_cons (.fz (.of_isF 9 _ rfl)) (stl_cons (.fz (.of_isF 9 _ rfl)) stl_nil))))))⟩
       ·refine T.skip ?_
        obtain rfl:=osj h
        exact ⟨(),trivial,cutS rfl .nil (stl_cons (.fz (.of_isF 9 _ rfl)) (stl_cons (.fz (.of_isF 9 _ rfl)) (stl_cons (.fz (.of_isF 9 _ rfl)) (stl_cons (.fz (.of_isF 9 _ rfl)) (stl_cons (.fz (.of_isF 9 _ rfl)) (stl_cons (.fz (.of_isF 9 _ rfl)) stl_nil))))))⟩
    ·refine T.exit (lX h fun h => ?_)
     obtain rfl:=osj h
     exact ⟨(),trivial,kw rfl rfl⟩
  ·refine T.exit (lX h fun h => ?_)
   obtain rfl:=osj h
   exact ⟨(),trivial,kw rfl rfl⟩
theorem F_spec_l1Execs_P (p:List (List ZIn)) (most:Int) {q:Int} (h:F_spec_l1Execs p most=some q):PCall Try.prog 40 [eL (cL ZIn.c) p,I most] (I q):=by
 refine pM Try.func40 rfl (by kernel_rfl) rfl (T.sr (oN as' (TO.nil (T.sr (oN as' (TO.nil ?_))))))
 refine T.jU h (fun s1=>[(5,I s1),(1,I most)]) (fun s1=>[]) (fun s1 h => ?_) (fun s1 h => ?_)
 ·refine T.seq (T.sr (oN mv (oN mv (oN (EvN.igt rfl rfl) (TO.nil ?_)))))
  refine T.ifH rfl h (fun q31 h => ?_) (fun q31 h => ?_)
  ·refine T.sr (oN mv (jW h fun g32 h=>oN (EvN.add rfl rfl g32) (oN as' (TO.nil (T.ret ?_)))))
   obtain rfl:=osj h
   exact finR rfl rfl rfl
  ·refine T.skip (T.sr (oN mv (oN as' (TO.nil (T.ret ?_)))))
   obtain rfl:=osj h
   exact finR rfl rfl rfl
 ·refine T.sr (oN as' (TO.nil (T.block ?_)))
  refine T.lU h (fun s4=>[(6,I s4.1),(5,I s4.2),(0,eL (cL ZIn.c) p),(1,I most)]) (fun s4=>[]) (kw rfl rfl) (fun s4 ws4 h => ?_)
  refine T.seq (T.sr (oN mv (oN (EvN.ile rfl rfl) (TO.nil ?_))))
  refine T.ifH rfl h (fun q6 h => ?_) (fun q6 h => ?_)
  ·refine T.skip ?_
   refine T.jU h (fun s7=>[(6,I s4.1),(5,I s7),(0,eL (cL ZIn.c) p),(1,I most)]) (fun s7=>[]) (fun s7 h => ?_) (fun s7 h => ?_)
   ·refine T.region (oN mv (jW h fun g30 h=>oN (EvN.add rfl rfl g30) (oN as' (TO.nil ?_))))
    exact lE h (kw rfl rfl)
   ·refine T.block (T.sr (oN mv (oN mv (oC h (fun _=>F_spec_l1Count_P _ _ _) rfl rfl rfl rfl fun v8 _ h=>oN as' (TO.nil ?_)))))
    refine T.jU h (fun s9=>[(7,I v8),(6,I s4.1),(5,I s9),(0,eL (cL ZIn.c) p),(1,I most)]) (fun s9=>[]) (fun s9 h => ?_) (fun s9 h => ?_)
    ·refine T.sr (oN as' (TO.nil (T.block ?_)))
     refine T.lU h (fun s23=>[(9,I s23.1),(7,I v8),(6,I s4.1),(5,I s23.2),(0,eL (cL ZIn.c) p),(1,I most)]) (fun s23=>[]) (kw rfl rfl) (fun s23 ws23 h => ?_)
     refine T.seq (T.sr (oN mv (oN mv (oN (EvN.ile rfl rfl) (oN mv ?_)))))
     refine TO.jB h 4 (fun s25=>[(40,Bo s25),(9,I s23.1),(7,I v8),(6,I s4.1),(5,I s23.2),(0,eL (cL ZIn.c) p),(1,I most)]) (fun s25=>[]) (fun s25 q26 h js25 => ?_) (fun s25 q26 h js25 => ?_) (fun s25 h => ?_)
     ·refine gN rfl q26 mv (gN rfl q26 mv (gN rfl q26 (EvN.ile rfl rfl) (oN (EvN.pickT rfl q26 (Bo (decide (s23.2<=most))) rfl) ?_)))
      obtain rfl:=osj h
      exact js25 _ _ (kw rfl rfl)
     ·refine gS rfl q26 (gS rfl q26 (gS rfl q26 (oN (EvN.pickF rfl q26 (Bo false) rfl) ?_)))
      obtain rfl:=osj h
      exact js25 _ _ (kw rfl rfl)
     ·refine TO.nil ?_
      refine T.ifH rfl h (fun q27 h => ?_) (fun q27 h => ?_)
      ·refine T.skip (T.seq (T.block (T.region (oN mv (oN mv (jW h fun g28 h=>oN (EvN.mul rfl rfl g28) (oN as' (TO.nil (T.region (oN mv (jW h fun g29 h=>oN (EvN.add rfl rfl g29) (oN as' (TO.nil ?_)))))))))))))
       exact lE h (kw rfl rfl)
      ·refine T.exit (lX h fun h => ?_)
       obtain rfl:=osj h
       exact ⟨(),trivial,kw rfl rfl⟩
    ·refine T.sr (oN as' (TO.nil (T.block ?_)))
     refine T.lU h (fun s12=>[(8,I s12.1),(7,I v8),(6,I s4.1),(5,I s12.2),(0,eL (cL ZIn.c) p),(1,I most)]) (fun s12=>[]) (kw rfl rfl) (fun s12 ws12 h => ?_)
     refine T.seq (T.sr (oN mv (oN mv (oN mv (oC h (fun _=>F_spec_l1Count_P _ _ _) rfl rfl rfl rfl fun v14 _ h=>oN (EvN.ilt rfl rfl) (oN mv ?_))))))
     refine TO.jB h 4 (fun s15=>[(26,Bo s15),(8,I s12.1),(7,I v8),(6,I s4.1),(5,I s12.2),(0,eL (cL ZIn.c) p),(1,I most)]) (fun s15=>[]) (fun s15 q16 h js15 => ?_) (fun s15 q16 h js15 => ?_) (fun s15 h => ?_)
     ·refine gN rfl q16 mv (gN rfl q16 mv (gN rfl q16 (EvN.ile rfl rfl) (oN (EvN.pickT rfl q16 (Bo (decide (s12.2<=most))) rfl) ?_)))
      obtain rfl:=osj h
      exact js15 _ _ (kw rfl rfl)
     ·refine gS rfl q16 (gS rfl q16 (gS rfl q16 (oN (EvN.pickF rfl q16 (Bo false) rfl) ?_)))
      obtain rfl:=osj h
      exact js15 _ _ (kw rfl rfl)
     ·refine TO.nil ?_
      refine T.ifH rfl h (fun q17 h => ?_) (fun q17 h => ?_)
      ·refine T.skip (T.seq (T.block (T.region (oN mv (oN mv (jW h fun g18 h=>oN (EvN.add rfl rfl g18) (jW h fun g19 h=>oN (EvN.mul rfl rfl g19) (oN as' (TO.nil (T.region (oN mv (jW h fun g20 h=>oN (EvN.add rfl rfl g20) ?_))))))))))))
       refine oN as' (TO.nil ?_)
       exact lE h (kw rfl rfl)
      ·refine T.exit (lX h fun h => ?_)
       obtain rfl:=osj h
       exact ⟨(),trivial,kw rfl rfl⟩
  ·refine T.exit (lX h fun h => ?_)
   obtain rfl:=osj h
   exact ⟨(),trivial,kw rfl rfl⟩
theorem F_spec_l8Small_P (r_:Xspec_l17Rd) (ver0:Nat) {q:Xspec_l17Rd×(List (List ZIn))} (h:F_spec_l8Small r_=some q):ACall Try.prog 35 [.hp 0 ver0 2 0 0] [some ⟨ver0,2,86,[(Xspec_l17Rd.c r_)]⟩] (eL (cL ZIn.c) q.2) [some ⟨ver0,2,86,[(Xspec_l17Rd.c q.1)]⟩]:=by
 refine aM Try.func35 rfl (by kernel_rfl) rfl (T.sr (oN as' (TO.nil (T.sr (oN mv (jB h fun v1 cv1 h=>oA (EvA.call rfl rfl rfl ((F_spec_l1Draw_P (⟨r_.b,r_.p⟩:Xspec_l17Rd) ver0 cv1).one 0 rfl (.cons (.hp rfl) .nil) (rowsF_row rfl) (rowsF_row rfl) rfl)) (oN as' (TO.nil (T.seq (T.sr (oN mv (oC h (fun _=>F_spec_l1Execs_P _ _) rfl rfl rfl rfl fun v2 _ h=>oN (EvN.ile rfl rfl) (TO.nil ?_)))))))))))))
 refine T.ifH rfl h (fun q3 h => ?_) (fun q3 h => ?_)
 ·refine T.sr (oN mv (oN as' (TO.nil (T.ret ?_))))
  obtain rfl:=osj h
  repeat (first|refine retS ?_|refine retB ?_)
  exact ⟨envOf [(2,eL (cL ZIn.c) v1.2)],[some ⟨ver0,2,86,[(Xspec_l17Rd.c (⟨v1.1.b,v1.1.p⟩:Xspec_l17Rd))]⟩],kw rfl rfl,Fin.ret (vs:=[eL (cL ZIn.c) v1.2]) (.cons (.tmp rfl) .nil) ⟨rfl,rfl⟩⟩
 ·refine T.skip (T.sr (oC h (fun _=>F_spec_ParseProgram_P _) rfl rfl rfl rfl fun v4 _ h=>oN mv (oN (EvN.ext (eL (cL ZIn.c) v4.1) rfl rfl) (oN (EvN.ext (Bo v4.2) rfl rfl) (oN as' (oN as' (TO.nil (T.sr (oN mv (oN as' (TO.nil (T.ret ?_))))))))))))
  obtain rfl:=osj h
  repeat (first|refine retS ?_|refine retB ?_)
  exact ⟨envOf [(2,eL (cL ZIn.c) v4.1)],[some ⟨ver0,2,86,[(Xspec_l17Rd.c (⟨v1.1.b,v1.1.p⟩:Xspec_l17Rd))]⟩],kw rfl rfl,Fin.ret (vs:=[eL (cL ZIn.c) v4.1]) (.cons (.tmp rfl) .nil) ⟨rfl,rfl⟩⟩
end Go.Proofs.Ytlgfihlflchhgaa
