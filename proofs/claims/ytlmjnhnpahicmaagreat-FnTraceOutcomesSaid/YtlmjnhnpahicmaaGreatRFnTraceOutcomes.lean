/- Texts joined. No conditions. -/
import Derived.OpenShut
import Derived.Test.YtlmjnhnpahicmaaGreatQ13
namespace Go.Proofs.YtlmjnhnpahicmaaGreat
noncomputable section
open Go.RowKit
set_option maxRecDepth 100000
theorem uo {q:(List ByteArray)} (h:fH=some q):aA Tryz.prog 105 [] (eL cS q):=by
 refine aA.mkT Tryz.func105 Z (by kernel_rfl) Z (by kernel_rfl) (e0:=ah []) Lx (T.sr (oN as' (TO.nil (T.sr (oN (LA.mkF (c:=cS) ([(⟨#[120,61,49,59,97,61,121,124,121,61,49,59,97,61,120]⟩:ByteArray),(⟨#[120,61,49,59,102,101,110,99,101,59,97,61,121,124,121,61,49,59,102,101,110,99,101,59,97,61,120]⟩:ByteArray),(⟨#[120,61,49,59,121,61,49,124,97,61,121,59,98,61,120]⟩:ByteArray),(⟨#[120,61,49,59,121,61,49,124,97,61,121,59,102,101,110,99,101,59,98,61,120]⟩:ByteArray),(⟨#[120,61,49,59,102,101,110,99,101,59,121,61,49,124,97,61,121,59,98,61,120]⟩:ByteArray),(⟨#[97,61,120,59,121,61,49,124,97,61,121,59,120,61,49]⟩:ByteArray),(⟨#[97,61,120,59,121,61,97,124,97,61,121,59,120,61,97]⟩:ByteArray),(⟨#[120,61,49,124,120,61,50,124,97,61,120,59,98,61,120]⟩:ByteArray),(⟨#[120,61,49,124,121,61,49,124,97,61,120,59,98,61,121,124,97,61,121,59,98,61,120]⟩:ByteArray),(⟨#[120,61,49,124,97,61,120,59,121,61,49,124,97,61,121,59,98,61,120]⟩:ByteArray),(⟨#[120,61,49,124,121,61,49,124,97,61,120,59,98,61,121]⟩:ByteArray),(⟨#[97,61,120,58,49,124,97,61,120,58,50,124,120,61,51]⟩:ByteArray),(⟨#[120,61,49,59,97,61,120,59,98,61,121,124,121,61,49,59,97,61,121,59,98,61,120]⟩:ByteArray),(⟨#[120,61,50,59,121,61,49,124,121,61,50,59,120,61,49]⟩:ByteArray),(⟨#[97,61,120,58,49,59,98,61,121,124,97,61,121,58,49,59,98,61,120]⟩:ByteArray),(⟨#[120,61,49,59,120,61,50,124,97,61,120,59,98,61,120]⟩:ByteArray),(⟨#[120,61,49,59,121,61,49,59,97,61,122,124,122,61,49,59,97,61,121,59,98,61,120]⟩:ByteArray),(⟨#[97,61,120,58,49,124,98,61,120,58,49]⟩:ByteArray),(⟨#[102,101,110,99,101]⟩:ByteArray),(⟨#[]⟩:ByteArray),(⟨#[120,61,49,59,97,61,121,124,121,61,49,59,102,101,110,99,101,59,97,61,120]⟩:ByteArray)]:List ByteArray) [[St (⟨#[120,61,49,59,97,61,121,124,121,61,49,59,97,61,120]⟩:ByteArray)],[St (⟨#[120,61,49,59,102,101,110,99,101,59,97,61,121,124,121,61,49,59,102,101,110,99,101,59,97,61,120]⟩:ByteArray)],[St (⟨#[120,61,49,59,121,61,49,124,97,61,121,59,98,61,120]⟩:ByteArray)],[St (⟨#[120,61,49,59,121,61,49,124,97,61,121,59,102,101,110,99,101,59,98,61,120]⟩:ByteArray)],[St (⟨#[120,61,49,59,102,101,110,99,101,59,121,61,49,124,97,61,121,59,98,61,120]⟩:ByteArray)],[St (⟨#[97,61,120,59,121,61,49,124,97,61,121,59,120,61,49]⟩:ByteArray)],[St (⟨#[97,61,120,59,121,61,97,124,97,61,121,59,120,61,97]⟩:ByteArray)],[St (⟨#[120,61,49,124,120,61,50,124,97,61,120,59,98,61,120]⟩:ByteArray)],[St (⟨#[120,61,49,124,121,61,49,124,97,61,120,59,98,61,121,124,97,61,121,59,98,61,120]⟩:ByteArray)],[St (⟨#[120,61,49,124,97,61,120,59,121,61,49,124,97,61,121,59,98,61,120]⟩:ByteArray)],[St (⟨#[120,61,49,124,121,61,49,124,97,61,120,59,98,61,121]⟩:ByteArray)],[St (⟨#[97,61,120,58,49,124,97,61,120,58,50,124,120,61,51]⟩:ByteArray)],[St (⟨#[120,61,49,59,97,61,120,59,98,61,121,124,121,61,49,59,97,61,121,59,98,61,120]⟩:ByteArray)],[St (⟨#[120,61,50,59,121,61,49,124,121,61,50,59,120,61,49]⟩:ByteArray)],[St (⟨#[97,61,120,58,49,59,98,61,121,124,97,61,121,58,49,59,98,61,120]⟩:ByteArray)],[St (⟨#[120,61,49,59,120,61,50,124,97,61,120,59,98,61,120]⟩:ByteArray)],[St (⟨#[120,61,49,59,121,61,49,59,97,61,122,124,122,61,49,59,97,61,121,59,98,61,120]⟩:ByteArray)],[St (⟨#[97,61,120,58,49,124,98,61,120,58,49]⟩:ByteArray)],[St (⟨#[102,101,110,99,101]⟩:ByteArray)],[St (⟨#[]⟩:ByteArray)],[St (⟨#[120,61,49,59,97,61,121,124,121,61,49,59,102,101,110,99,101,59,97,61,120]⟩:ByteArray)]] vY Z Z Z (fun _=>Z) (fun _=>Z) Z) ?_)))));refine oN as' (TO.nil (T.ret ?_))
 cases h
 exact cH Z Z Z
theorem o7 (s:ByteArray) (c:Int) {q:(List ByteArray)} (h:jp s c=some q):aA Tryz.prog 108 [St s,Y c] (eL cS q):=by
 refine pM Tryz.func108 Z (by kernel_rfl) Z (T.sr (oN as' (TO.nil (T.sr (oA (EvA.mkO (c:=cS) ([]:List ByteArray) [] vY Z Z Z (fun _=>Z) Z Z) (oN (LA.asg (hS false 0 0 1 (([]:List ByteArray).length)) Z) (TO.nil (T.sr (oN as' (TO.nil ?_))))))))));refine T.jF (G:=Nat) h (fun s1 gh=>True) (fun s1 gh=>[(5,hS false 0 gh 1 s1.length)]) (fun s1 gh=>[bE false gh 1 9 (s1.map cS)]) (fun s1 u19 h hg=>?_) (fun s1 h=>?_)
 ·refine T.sr (oN mv (oN (LA.asg (hS false 0 u19 1 s1.length) Z) (TO.nil (T.ret ?_))));obtain rfl:=LC h
  repeat (first|refine fD ?_|refine fE ?_)
  exact Fin.ret (vs:=[hS false 0 u19 1 s1.length]) (.cons (.tmp Z) .nil) (Fz.own (g:=false) (ver:=u19) (l:=s1) Z Z Z nofun (fun _=>Z))
 ·refine T.sr (oN as' (TO.nil (T.block ?_)));refine T.loop (S:=(List ByteArray)×Int×Int) (G:=Nat) (iB s c) (fun s5 gh=>True) (fun s5 gh=>[(7,I s5.2.1),(6,I s5.2.2),(5,hS false 0 gh 1 s5.1.length),(0,St s),(1,Y c)]) (fun s5 gh=>[bE false gh 1 9 (s5.1.map cS)]) (s0:=(([]:List ByteArray),U,U)) 0 h trivial (kw Z Z) (fun s5 u7 ws5 h hg=>?_);refine T.seq (T.sr (oN mv (oN mv (oN (LA.lenst Tryz.underlying9 Z) (oN (LA.ile Z Z) (TO.nil ?_))))));refine T.ifH Z h (fun q8 h=>?_) (fun q8 h=>?_)
  ·refine T.skip ?_;refine T.jF (G:=Nat) h (fun s9 gh=>True) (fun s9 gh=>[(6,I s9.2),(5,hS false 0 gh 1 s9.1.length),(7,I s5.2.1),(0,St s),(1,Y c)]) (fun s9 gh=>[bE false gh 1 9 (s9.1.map cS)]) (fun s9 u17 h hg=>?_) (fun s9 h=>?_)
   ·refine T.region (oN mv (jW h fun g18 h=>oN (LA.add Z Z g18) (oN as' (TO.nil ?_))));obtain rfl:=LC h;exact ⟨(s9.1,(s5.2.1+V),s9.2),u17,Z,trivial,kw Z Z⟩
   ·refine T.block (T.sr (oN mv (oN mv (oN (LA.lenst Tryz.underlying9 Z) (oN (LA.ieq Z Z) (oN mv ?_))))));refine TO.jB h 6 (fun s10=>[(25,Bo s10),(7,I s5.2.1),(6,I s5.2.2),(5,hS false 0 u7 1 s5.1.length),(0,St s),(1,Y c)]) (fun s10=>[bE false u7 1 9 (s5.1.map cS)]) (fun s10 q11 h js10=>?_) (fun s10 q11 h js10=>?_) (fun s10 h=>?_)
    ·refine gS Z q11 (gS Z q11 (gS Z q11 (gS Z q11 (gS Z q11 (oN (LA.pickT Z q11 (Bo true) Z) ?_)))))
     cases h
     exact js10 _ _ (kw Z Z)
    ·refine gN Z q11 mv (gN Z q11 mv (jD h fun g12 h=>gN Z q11 (LA.ixst Tryz.underlying9 Z Z g12) (gN Z q11 mv (gN Z q11 (LA.ieq Z Z) (oN (LA.pickF Z q11 (Bo (((s.data.getD s5.2.1.toNat 0).toNat:Int)==c)) Z) ?_)))))
     cases h
     exact js10 _ _ (kw Z Z)
    ·refine TO.nil ?_;refine T.ifH Z h (fun q13 h=>?_) (fun q13 h=>?_)
     ·refine T.sr (oN mv (oN mv (oN mv (oN mv (jD h fun g14 h=>oN (LA.slst Tryz.underlying9 Z (.yes Z) (.yes Z) g14) (oN (LA.mkF (c:=cS) ([(s.extract s5.2.2.toNat s5.2.1.toNat)]:List ByteArray) [[St (s.extract s5.2.2.toNat s5.2.1.toNat)]] vY Z Z Z (fun _=>Z) (fun _=>Z) Z) (jL h fun g15 h=>oA (EvA.app1 (g:=false) (l:=s5.1) (s.extract s5.2.2.toNat s5.2.1.toNat) vY (by kernel_rfl) Z Z Z nofun (aJ.fz (l:=([(s.extract s5.2.2.toNat s5.2.1.toNat)]:List ByteArray)) Z (fun _=>Z)) g15) (oN (LA.asg (hS false 0 (u7+1) 1 ((s5.1++[(s.extract s5.2.2.toNat s5.2.1.toNat)]).length)) Z) (TO.nil (T.region (oN mv (jW h fun g16 h=>oN (LA.add Z Z g16) ?_))))))))))));refine oN as' (TO.nil ?_)
      cases h
      exact ⟨u7+1,trivial,kw Z Z⟩
     ·refine T.skip ?_
      cases h
      exact ⟨u7,trivial,kw Z Z⟩
  ·refine T.exit (lX h fun h=>?_)
   cases h
   exact ⟨u7,trivial,kw Z Z⟩
theorem bL (s:ByteArray) (at_:Int) (from_:Int) (most:Int) {q:Int} (h:bz s at_ from_ most=some q):aA Tryz.prog 129 [St s,I at_,Y from_,I most] (I q):=by
 refine pM Tryz.func129 Z (by kernel_rfl) Z (T.sr (oN as' (TO.nil (T.seq (T.sr (oN mv (oN mv (oN (LA.lenst Tryz.underlying9 Z) (oN (LA.ige Z Z) (oN mv ?_))))))))));refine TO.jB h 6 (fun s1=>[(19,Bo s1),(0,St s),(1,I at_),(2,Y from_),(3,I most)]) (fun s1=>[]) (fun s1 q2 h js1=>?_) (fun s1 q2 h js1=>?_) (fun s1 h=>?_)
 ·refine gS Z q2 (gS Z q2 (gS Z q2 (gS Z q2 (gS Z q2 (oN (LA.pickT Z q2 (Bo true) Z) ?_)))))
  cases h
  exact js1 _ _ (kw Z Z)
 ·refine gN Z q2 mv (gN Z q2 mv (jD h fun g3 h=>gN Z q2 (LA.ixst Tryz.underlying9 Z Z g3) (gN Z q2 mv (gN Z q2 (LA.ilt Z Z) (oN (LA.pickF Z q2 (Bo (decide (((s.data.getD at_.toNat 0).toNat:Int)<from_))) Z) ?_)))))
  cases h
  exact js1 _ _ (kw Z Z)
 ·refine oN mv ?_;refine TO.jB h 9 (fun s4=>[(29,Bo s4),(0,St s),(1,I at_),(2,Y from_)]) (fun s4=>[]) (fun s4 q5 h js4=>?_) (fun s4 q5 h js4=>?_) (fun s4 h=>?_)
  ·refine gS Z q5 (gS Z q5 (gS Z q5 (gS Z q5 (gS Z q5 (gS Z q5 (gS Z q5 (gS Z q5 (oN (LA.pickT Z q5 (Bo true) Z) ?_))))))))
   cases h
   exact js4 _ _ (kw Z Z)
  ·refine gN Z q5 mv (gN Z q5 mv (jD h fun g6 h=>gN Z q5 (LA.ixst Tryz.underlying9 Z Z g6) (gN Z q5 mv (jW h fun g7 h=>gN Z q5 (LA.sub Z Z g7) (jW h fun g8 h=>gN Z q5 (LA.iconv ty5.und Tryz.underlying3 Z g8) (gN Z q5 mv (gN Z q5 (LA.igt Z Z) (oN (LA.pickF Z q5 (Bo (decide (most<(((s.data.getD at_.toNat 0).toNat:Int)-from_)))) Z) ?_))))))))
   cases h
   exact js4 _ _ (kw Z Z)
  ·refine TO.nil ?_;refine T.ifH Z h (fun q9 h=>?_) (fun q9 h=>?_)
   ·refine T.sr (oN as' (TO.nil (T.ret ?_)))
    cases h
    exact cH Z Z Z
   ·refine T.skip (T.sr (oN mv (oN mv (jD h fun g10 h=>oN (LA.ixst Tryz.underlying9 Z Z g10) (oN mv (jW h fun g11 h=>oN (LA.sub Z Z g11) (jW h fun g12 h=>oN (LA.iconv ty5.und Tryz.underlying3 Z g12) (oN as' (TO.nil (T.ret ?_))))))))))
    cases h
    exact cH Z Z Z
set_option maxHeartbeats 4000000 in
theorem uq (s:ByteArray) {q:LD} (h:jT s=some q):aA Tryz.prog 109 [St s] (.agg (LD.c q)):=by
 refine pM Tryz.func109 Z (by kernel_rfl) Z (T.sr (oA (EvA.al sV Z Z) (TO.nil (T.seq (T.sr (oN mv (oN (LA.seq Z Z) (TO.nil ?_))))))));refine T.ifH Z h (fun q1 h=>?_) (fun q1 h=>?_)
 ·refine T.sr (oN (LA.build [I (4:Int),I U,I U,I U] Tryz.underlying70 sV lu Z Z) (oV (sr [I (4:Int),I U,I U,I U] jP Z Z Z Z) (TO.nil (T.ret ?_))));obtain rfl:=LC h
  repeat (first|refine fD ?_|refine fE ?_)
  exact Fin.ret (vs:=[.agg [I (4:Int),I U,I U,I U]]) (.cons (.cell (.agg [I (4:Int),I U,I U,I U]) jP Z Z Z Z Z Z) .nil) (.of_isF 9 _ Z)
 ·refine T.skip (T.sr (oN mv (oC h (fun _=>bL _ _ _ _) Z Z Z Z fun v2 _ h=>oN as' (TO.nil (T.sr (oN mv (oC h (fun _=>bL _ _ _ _) Z Z Z Z fun v3 _ h=>oN as' (TO.nil (T.seq (T.sr (oN mv (oN (LA.ige Z Z) (oN mv ?_)))))))))))));refine TO.jB h 4 (fun s4=>[(18,Bo s4),(4,I v3),(3,I v2),(2,.hp 0 0 4 0 0),(0,St s)]) (fun s4=>[some ⟨0,4,70,[[I U,I U,I U,I U]]⟩]) (fun s4 q5 h js4=>?_) (fun s4 q5 h js4=>?_) (fun s4 h=>?_)
  ·refine gN Z q5 mv (gN Z q5 (LA.lenst Tryz.underlying9 Z) (gN Z q5 (LA.ieq Z Z) (oN (LA.pickT Z q5 (Bo ((s.size:Int)==(3:Int))) Z) ?_)))
   cases h
   exact js4 _ _ (kw Z Z)
  ·refine gS Z q5 (gS Z q5 (gS Z q5 (oN (LA.pickF Z q5 (Bo false) Z) ?_)))
   cases h
   exact js4 _ _ (kw Z Z)
  ·refine TO.nil ?_;refine T.ifH Z h (fun q6 h=>?_) (fun q6 h=>?_)
   ·refine T.sr (oN mv (oN mv (oC h (fun _=>bL _ _ _ _) Z Z Z Z fun v7 _ h=>oN (LA.build [I V,I v7,I v2,I U] Tryz.underlying70 sV lu Z Z) (oV (sr [I V,I v7,I v2,I U] jP Z Z Z Z) (TO.nil (T.ret ?_))))));obtain rfl:=LC h
    repeat (first|refine fD ?_|refine fE ?_)
    exact Fin.ret (vs:=[.agg [I V,I v7,I v2,I U]]) (.cons (.cell (.agg [I V,I v7,I v2,I U]) jP Z Z Z Z Z Z) .nil) (.of_isF 9 _ Z)
   ·refine T.skip (T.seq (T.sr (oN mv (oN (LA.ige Z Z) (oN mv ?_)))));refine TO.jB h 4 (fun s8=>[(29,Bo s8),(4,I v3),(3,I v2),(2,.hp 0 0 4 0 0),(0,St s)]) (fun s8=>[some ⟨0,4,70,[[I U,I U,I U,I U]]⟩]) (fun s8 q9 h js8=>?_) (fun s8 q9 h js8=>?_) (fun s8 h=>?_)
    ·refine gN Z q9 mv (gN Z q9 (LA.lenst Tryz.underlying9 Z) (gN Z q9 (LA.ieq Z Z) (oN (LA.pickT Z q9 (Bo ((s.size:Int)==(5:Int))) Z) ?_)))
     cases h
     exact js8 _ _ (kw Z Z)
    ·refine gS Z q9 (gS Z q9 (gS Z q9 (oN (LA.pickF Z q9 (Bo false) Z) ?_)))
     cases h
     exact js8 _ _ (kw Z Z)
    ·refine TO.nil ?_;refine T.ifH Z h (fun q10 h=>?_) (fun q10 h=>?_)
     ·refine T.sr (oN mv (oN mv (oC h (fun _=>bL _ _ _ _) Z Z Z Z fun v11 _ h=>oN mv (oC h (fun _=>bL _ _ _ _) Z Z Z Z fun v12 _ h=>oN (LA.build [I (5:Int),I v11,I v2,I v12] Tryz.underlying70 sV lu Z Z) (oV (sr [I (5:Int),I v11,I v2,I v12] jP Z Z Z Z) (TO.nil (T.ret ?_)))))));obtain rfl:=LC h
      repeat (first|refine fD ?_|refine fE ?_)
      exact Fin.ret (vs:=[.agg [I (5:Int),I v11,I v2,I v12]]) (.cons (.cell (.agg [I (5:Int),I v11,I v2,I v12]) jP Z Z Z Z Z Z) .nil) (.of_isF 9 _ Z)
     ·refine T.skip (T.seq (T.sr (oN mv (oN (LA.ige Z Z) (oN mv ?_)))));refine TO.jB h 4 (fun s13=>[(42,Bo s13),(4,I v3),(2,.hp 0 0 4 0 0),(0,St s)]) (fun s13=>[some ⟨0,4,70,[[I U,I U,I U,I U]]⟩]) (fun s13 q14 h js13=>?_) (fun s13 q14 h js13=>?_) (fun s13 h=>?_)
      ·refine gN Z q14 mv (jB h fun v15 cv15 h=>gN Z q14 (LA.call Z Z Z (bL s (2:Int) (97:Int) (2:Int) cv15) Z) (gN Z q14 (LA.ige Z Z) (oN (LA.pickT Z q14 (Bo (decide (U<=v15))) Z) ?_)))
       cases h
       exact js13 _ _ (kw Z Z)
      ·refine gS Z q14 (gS Z q14 (gS Z q14 (oN (LA.pickF Z q14 (Bo false) Z) ?_)))
       cases h
       exact js13 _ _ (kw Z Z)
      ·refine TO.nil ?_;refine T.ifH Z h (fun q16 h=>?_) (fun q16 h=>?_)
       ·refine T.sr (oN mv (oN mv (oC h (fun _=>bL _ _ _ _) Z Z Z Z fun v17 _ h=>oN (LA.build [I (3:Int),I v3,I v17,I U] Tryz.underlying70 sV lu Z Z) (oV (sr [I (3:Int),I v3,I v17,I U] jP Z Z Z Z) (TO.nil (T.ret ?_))))));obtain rfl:=LC h
        repeat (first|refine fD ?_|refine fE ?_)
        exact Fin.ret (vs:=[.agg [I (3:Int),I v3,I v17,I U]]) (.cons (.cell (.agg [I (3:Int),I v3,I v17,I U]) jP Z Z Z Z Z Z) .nil) (.of_isF 9 _ Z)
       ·refine T.skip (T.sr (oN mv (oN mv (oC h (fun _=>bL _ _ _ _) Z Z Z Z fun v18 _ h=>oN (LA.build [I (2:Int),I v3,I U,I v18] Tryz.underlying70 sV lu Z Z) (oV (sr [I (2:Int),I v3,I U,I v18] jP Z Z Z Z) (TO.nil (T.ret ?_)))))));obtain rfl:=LC h
        repeat (first|refine fD ?_|refine fE ?_)
        exact Fin.ret (vs:=[.agg [I (2:Int),I v3,I U,I v18]]) (.cons (.cell (.agg [I (2:Int),I v3,I U,I v18]) jP Z Z Z Z Z Z) .nil) (.of_isF 9 _ Z)
theorem mU (from_:Int) (n:Int) {q:ByteArray} (h:gp from_ n=some q):aA Tryz.prog 139 [Y from_,I n] (St q):=by
 refine pM Tryz.func139 Z (by kernel_rfl) Z (T.sr (oN as' (TO.nil (T.sr (oN mv (oN mv (jW h fun g1 h=>oN (LA.iconv LS.und Tryz.underlying5 Z g1) (jW h fun g2 h=>oN (LA.add Z Z g2) (oN (LA.mkF (c:=cY) ([(from_+n)]:LI) [[Y (from_+n)]] yX Z Z Z (fun _=>Z) (fun _=>Z) Z) (oA (EvA.b2s (l:=([(from_+n)]:LI)) Tryz.underlying33 Tryz.underlying5 Tryz.underlying9 (Er Z) (aJ.fz (l:=([(from_+n)]:LI)) Z (fun _=>Z))) (oN as' (TO.nil (T.ret ?_)))))))))))))
 cases h
 exact cH Z Z Z
theorem ut:∀ (nf:Nat) (n:Int) {q:ByteArray} (h:gq nf n=some q),aA Tryz.prog 140 [I n] (St q):=by
 intro nf
 induction nf with
 | zero=>intros;rename_i h;cases h
 | succ nf ih=>
  intro n q h;replace h:jq (gq nf) n=some q:=h;refine pM Tryz.func140 Z (by kernel_rfl) Z (T.sr (oN as' (TO.nil (T.seq (T.sr (oN mv (oN (LA.ilt Z Z) (TO.nil ?_))))))));refine T.ifH Z h (fun q1 h=>?_) (fun q1 h=>?_)
  ·refine T.sr (oN as' (TO.nil (T.ret ?_)))
   cases h
   exact cH Z Z Z
  ·refine T.skip (T.seq (T.sr (oN mv (oN (LA.ilt Z Z) (TO.nil ?_)))));refine T.ifH Z h (fun q2 h=>?_) (fun q2 h=>?_)
   ·refine T.sr (oN mv (jW h fun g3 h=>oN (LA.neg Z g3) (oC h (fun _=>ih _) Z Z Z Z fun v4 _ h=>jD h fun g5 h=>oN (LA.cat Z Z g5) (oN as' (TO.nil (T.ret ?_))))))
    cases h
    exact cH Z Z Z
   ·refine T.skip (T.sr (oN as' (TO.nil ?_)));refine T.jU h (fun s6=>[(3,St s6.1),(0,I s6.2)]) (fun s6=>[]) (fun s6 h=>?_) (fun s6 h=>?_)
    ·refine T.sr (oN mv (jW h fun g17 h=>oN (LA.add Z Z g17) (jW h fun g18 h=>oN (LA.iconv LS.und Tryz.underlying5 Z g18) (oN (LA.mkF (c:=cY) ([((48:Int)+s6.2)]:LI) [[Y ((48:Int)+s6.2)]] yX Z Z Z (fun _=>Z) (fun _=>Z) Z) (oA (EvA.b2s (l:=([((48:Int)+s6.2)]:LI)) Tryz.underlying33 Tryz.underlying5 Tryz.underlying9 (Er Z) (aJ.fz (l:=([((48:Int)+s6.2)]:LI)) Z (fun _=>Z))) (oN mv (jD h fun g19 h=>oN (LA.cat Z Z g19) (oN as' (TO.nil (T.ret ?_))))))))))
     cases h
     exact cH Z Z Z
    ·refine T.block ?_;refine T.lU h (fun s9=>[(3,St s9.1),(0,I s9.2)]) (fun s9=>[]) (kw Z Z) (fun s9 ws9 h=>?_);refine T.seq (T.sr (oN mv (oN (LA.igt Z Z) (TO.nil ?_))));refine T.ifH Z h (fun q11 h=>?_) (fun q11 h=>?_)
     ·refine T.skip (T.block (T.sr (oN mv (jD h fun g12 h=>oN (LA.rem Z Z g12) (jW h fun g13 h=>oN (LA.add Z Z g13) (jW h fun g14 h=>oN (LA.iconv LS.und Tryz.underlying5 Z g14) (oN (LA.mkF (c:=cY) ([((48:Int)+(s9.2.tmod (10:Int)))]:LI) [[Y ((48:Int)+(s9.2.tmod (10:Int)))]] yX Z Z Z (fun _=>Z) (fun _=>Z) Z) (oA (EvA.b2s (l:=([((48:Int)+(s9.2.tmod (10:Int)))]:LI)) Tryz.underlying33 Tryz.underlying5 Tryz.underlying9 (Er Z) (aJ.fz (l:=([((48:Int)+(s9.2.tmod (10:Int)))]:LI)) Z (fun _=>Z))) (oN mv (jD h fun g15 h=>oN (LA.cat Z Z g15) (oN as' ?_)))))))))));refine TO.nil (T.region (oN mv (jW h fun g16 h=>oN (LA.quo Z Z g12 g16) (oN as' (TO.nil ?_)))));exact lE h (kw Z Z)
     ·refine T.exit (lX h fun h=>?_)
      cases h
      exact ⟨(),trivial,kw Z Z⟩
theorem o8 (n:Int) {q:ByteArray} (h:kL n=some q):aA Tryz.prog 140 [I n] (St q):=by
 obtain ⟨nf,h⟩:=sx h;exact ut nf n h
theorem wD (x:LD) {q:ByteArray} (h:kM x=some q):aA Tryz.prog 130 [.agg (LD.c x)] (St q):=by
 refine pM Tryz.func130 Z (by kernel_rfl) Z (T.sr (oN (LA.bxF (LD.c x) Z Z Z) (oN as' (TO.nil (T.sr (oN (fa lu Z) (oN (lf (I x.Loc) LS Z) (oC h (fun _=>mU _ _) Z Z Z Z fun v1 _ h=>oN as' (TO.nil (T.sr (oN (fa lu Z) (oN (lf (I x.Reg) LS Z) (oC h (fun _=>mU _ _) Z Z Z Z fun v2 _ h=>oN as' ?_)))))))))))));refine TO.nil (T.seq (T.sr (oN (fa lu Z) (oN (lf (I x.Op) LS Z) (TO.nil (T.block (T.sr (oN (LA.ieq Z Z) (oN as' (TO.nil ?_))))))))));refine T.ifH Z h (fun q3 h=>?_) (fun q3 h=>?_)
 ·refine T.sr (oN mv (jD h fun g4 h=>oN (LA.cat Z Z g4) (oN mv (jD h fun g5 h=>oN (LA.cat Z Z g5) (oN as' (TO.nil (T.ret ?_)))))))
  cases h
  exact cH Z Z Z
 ·refine T.sr (oN (LA.ieq Z Z) (oN as' (TO.nil ?_)));refine T.ifH Z h (fun q6 h=>?_) (fun q6 h=>?_)
  ·refine T.sr (oN mv (jD h fun g7 h=>oN (LA.cat Z Z g7) (oN (fa lu Z) (oN (lf (I x.Val) LS Z) (oC h (fun _=>o8 _) Z Z Z Z fun v8 _ h=>jD h fun g9 h=>oN (LA.cat Z Z g9) (oN as' (TO.nil (T.ret ?_))))))))
   cases h
   exact cH Z Z Z
  ·refine T.sr (oN (LA.ieq Z Z) (oN as' (TO.nil ?_)));refine T.ifH Z h (fun q10 h=>?_) (fun q10 h=>?_)
   ·refine T.seq (T.clean (H0:=[]) (e0:=ah [(4,St v2),(3,St v1)]) Z (Ly Z (Ly Z Lx)) (T.region (oN mv (jD h fun g11 h=>oN (LA.cat Z Z g11) (oN mv (jD h fun g12 h=>oN (LA.cat Z Z g12) (oN as' (TO.nil (T.ret ?_)))))))))
    cases h
    exact cH Z Z Z
   ·refine T.sr (oN (LA.ieq Z Z) (oN as' (TO.nil ?_)));refine T.ifH Z h (fun q13 h=>?_) (fun q13 h=>?_)
    ·refine T.seq (T.clean (H0:=[]) (e0:=ah [(4,St v2),(3,St v1),(1,.fp (LD.c x) 0)]) Z (Ly Z (Ly Z (Ly Z Lx))) (T.region (oN mv (jD h fun g14 h=>oN (LA.cat Z Z g14) (oN mv (jD h fun g15 h=>oN (LA.cat Z Z g15) (jD h fun g16 h=>oN (LA.cat Z Z g16) (oN (fa lu Z) (oN (lf (I x.Val) LS Z) (oC h (fun _=>o8 _) Z Z Z Z fun v17 _ h=>jD h fun g18 h=>oN (LA.cat Z Z g18) ?_))))))))));refine oN as' (TO.nil (T.ret ?_))
     cases h
     exact cH Z Z Z
    ·refine T.skip (T.seq (T.clean (H0:=[]) (e0:=ah []) Z Lx (T.region (oN as' (TO.nil (T.ret ?_))))))
     cases h
     exact cH Z Z Z
theorem rQ (p:List (List LD)) {q:ByteArray} (h:iC p=some q):aA Tryz.prog 110 [eL (cL LD.c) p] (St q):=by
 refine pM Tryz.func110 Z (by kernel_rfl) Z (T.sr (oN as' (TO.nil (T.sr (oN as' (TO.nil ?_))))));refine T.jU h (fun s1=>[(3,St s1)]) (fun s1=>[]) (fun s1 h=>?_) (fun s1 h=>?_)
 ·refine T.sr (oN mv (oN as' (TO.nil (T.ret ?_))))
  cases h
  exact cH Z Z Z
 ·refine T.sr (oN as' (TO.nil (T.block ?_)));refine T.lU h (fun s4=>[(4,I s4.1),(3,St s4.2),(0,eL (cL LD.c) p)]) (fun s4=>[]) (kw Z Z) (fun s4 ws4 h=>?_);refine T.seq (T.sr (oN mv (oN mv (oN (LA.lenL jC Z) (oN (LA.ilt Z Z) (TO.nil ?_))))));refine T.ifH Z h (fun q6 h=>?_) (fun q6 h=>?_)
  ·refine T.skip ?_;refine T.jU h (fun s7=>[(3,St s7),(4,I s4.1),(0,eL (cL LD.c) p)]) (fun s7=>[]) (fun s7 h=>?_) (fun s7 h=>?_)
   ·refine T.region (oN mv (jW h fun g24 h=>oN (LA.add Z Z g24) (oN as' (TO.nil ?_))));exact lE h (kw Z Z)
   ·refine T.block ?_;refine T.jU h (fun s8=>[(3,St s8),(4,I s4.1),(0,eL (cL LD.c) p)]) (fun s8=>[]) (fun s8 h=>?_) (fun s8 h=>?_)
    ·refine T.sr (oN as' (TO.nil (T.block ?_)));refine T.lU h (fun s13=>[(5,I s13.1),(3,St s13.2),(4,I s4.1),(0,eL (cL LD.c) p)]) (fun s13=>[]) (kw Z Z) (fun s13 ws13 h=>?_);refine T.seq (T.sr (oN mv (oN mv (oN mv (jD h fun g15 h=>oN (LA.ixL jC Z Z g15 (fun _=>Z)) (oN (lf (eL LD.c (J p s4.1)) tX Z) (oN (LA.lenL nQ Z) (oN (LA.ilt Z Z) (TO.nil ?_)))))))));refine T.ifH Z h (fun q16 h=>?_) (fun q16 h=>?_)
     ·refine T.skip (T.seq (T.block ?_));refine T.jU h (fun s17=>[(3,St s17),(5,I s13.1),(4,I s4.1),(0,eL (cL LD.c) p)]) (fun s17=>[]) (fun s17 h=>?_) (fun s17 h=>?_)
      ·refine T.region (oN mv (oN mv (oN mv (oN (LA.ixL jC Z Z g15 (fun _=>Z)) (oN (lf (eL LD.c (J p s4.1)) tX Z) (oN mv (jD h fun g20 h=>oN (LA.ixL nQ Z Z g20 (fun _=>Z)) (oN (lf (.agg (LD.c (J (J p s4.1) s13.1))) jP Z) (oC h (fun _=>wD _) Z Z Z Z fun v21 _ h=>jD h fun g22 h=>oN (LA.cat Z Z g22) (oN as' (TO.nil (T.region ?_))))))))))));refine oN mv (jW h fun g23 h=>oN (LA.add Z Z g23) (oN as' (TO.nil ?_)));exact lE h (kw Z Z)
      ·refine T.sr (oN mv (oN (LA.igt Z Z) (TO.nil ?_)));refine T.ifH Z h (fun q18 h=>?_) (fun q18 h=>?_)
       ·refine T.region (oN mv (jD h fun g19 h=>oN (LA.cat Z Z g19) (oN as' (TO.nil ?_))))
        cases h
        exact ⟨(),trivial,kw Z Z⟩
       ·refine T.skip ?_
        cases h
        exact ⟨(),trivial,kw Z Z⟩
     ·refine T.exit (lX h fun h=>?_)
      cases h
      exact ⟨(),trivial,kw Z Z⟩
    ·refine T.sr (oN mv (oN (LA.igt Z Z) (TO.nil ?_)));refine T.ifH Z h (fun q9 h=>?_) (fun q9 h=>?_)
     ·refine T.region (oN mv (jD h fun g10 h=>oN (LA.cat Z Z g10) (oN as' (TO.nil ?_))))
      cases h
      exact ⟨(),trivial,kw Z Z⟩
     ·refine T.skip ?_
      cases h
      exact ⟨(),trivial,kw Z Z⟩
  ·refine T.exit (lX h fun h=>?_)
   cases h
   exact ⟨(),trivial,kw Z Z⟩
set_option maxHeartbeats 4000000 in
theorem ko (text:ByteArray) {q:(List (List LD))×Bool} (h:bf text=some q):aA Tryz.prog 81 [St text] (.tup [eL (cL LD.c) q.1,Bo q.2]):=by
 refine pM Tryz.func81 Z (by kernel_rfl) Z (T.sr (oN as' (oN as' (TO.nil (T.sr (oA (EvA.mkO (c:=(cL LD.c)) ([]:List (List LD)) [] jC Z Z Z (fun _=>Z) Z Z) (oN (LA.asg (hS false 0 0 1 (([]:List (List LD)).length)) Z) (TO.nil (T.sr (oN mv (oC h (fun _=>o7 _ _) Z Z Z Z fun v1 _ h=>oN as' (TO.nil ?_))))))))))));refine T.jF (G:=Nat) h (fun s2 gh=>True) (fun s2 gh=>[(4,hS false 0 gh 1 s2.length),(0,St text)]) (fun s2 gh=>[bE false gh 1 50 (s2.map (cL LD.c))]) (fun s2 u35 h hg=>?_) (fun s2 h=>?_)
 ·refine T.seq (T.sr (oN mv (jB h fun v36 cv36 h=>oA (EvA.callT Z Z (gz s2 cv36) (.cons (Fz.own (g:=false) (ver:=u35) (l:=s2) Z Z Z nofun (fun _=>Z)) .nil) Z) (oN (LA.not Z) (oN mv ?_)))));refine TO.jB h 5 (fun s37=>[(66,Bo s37),(4,hS false 0 u35 1 s2.length)]) (fun s37=>[bE false u35 1 50 (s2.map (cL LD.c))]) (fun s37 q38 h js37=>?_) (fun s37 q38 h js37=>?_) (fun s37 h=>?_)
  ·refine gS Z q38 (gS Z q38 (gS Z q38 (gS Z q38 (oN (LA.pickT Z q38 (Bo true) Z) ?_))))
   cases h
   exact js37 _ _ (kw Z Z)
  ·refine gN Z q38 mv (jB h fun v39 cv39 h=>gA Z q38 (EvA.callT Z Z (rQ s2 cv39) (.cons (Fz.own (g:=false) (ver:=u35) (l:=s2) Z Z Z nofun (fun _=>Z)) .nil) Z) (gN Z q38 mv (gN Z q38 (LA.sne Z Z) (oN (LA.pickF Z q38 (Bo (!decide (v39=text))) Z) ?_))))
   cases h
   exact js37 _ _ (kw Z Z)
  ·refine TO.nil ?_;refine T.ifH Z h (fun q40 h=>?_) (fun q40 h=>?_)
   ·refine T.sr (oN (LA.mkF (c:=(cL LD.c)) ([]:List (List LD)) [] jC Z Z Z (fun _=>Z) (fun _=>Z) Z) (oN as' (oN as' (TO.nil (T.ret ?_)))));obtain rfl:=LC h
    repeat (first|refine fD ?_|refine fE ?_)
    exact Fin.ret (vs:=[eL (cL LD.c) ([]:List (List LD)),Bo false]) (.cons (.tmp Z) (.cons (.tmp Z) .nil)) (.tupL (.cons (.of_isF 9 _ Z) (.cons (.of_isF 9 _ Z) .nil)))
   ·refine T.skip (T.sr (oN mv (oN (LA.asg (hS false 0 u35 1 s2.length) Z) (oN as' (TO.nil (T.ret ?_))))));obtain rfl:=LC h
    repeat (first|refine fD ?_|refine fE ?_)
    exact Fin.ret (vs:=[hS false 0 u35 1 s2.length,Bo true]) (.cons (.tmp Z) (.cons (.tmp Z) .nil)) (.tupL (.cons (Fz.own (g:=false) (ver:=u35) (l:=s2) Z Z Z nofun (fun _=>Z)) (.cons (.of_isF 9 _ Z) .nil)))
 ·refine T.sr (oN as' (TO.nil (T.block ?_)));refine T.loop (S:=(List (List LD))×Int) (G:=Nat) (db v1) (fun s6 gh=>True) (fun s6 gh=>[(6,I s6.2),(5,eL cS v1),(4,hS false 0 gh 1 s6.1.length),(0,St text)]) (fun s6 gh=>[bE false gh 1 50 (s6.1.map (cL LD.c))]) (s0:=(([]:List (List LD)),U)) 0 h trivial (kw Z Z) (fun s6 u8 ws6 h hg=>?_);refine T.seq (T.sr (oN mv (oN mv (oN (LA.lenL vY Z) (oN (LA.ilt Z Z) (oN mv ?_))))));refine TO.jB h 3 (fun s9=>[(20,Bo s9),(6,I s6.2),(5,eL cS v1),(4,hS false 0 u8 1 s6.1.length),(0,St text)]) (fun s9=>[bE false u8 1 50 (s6.1.map (cL LD.c))]) (fun s9 q10 h js9=>?_) (fun s9 q10 h js9=>?_) (fun s9 h=>?_)
  ·refine gN Z q10 mv (gN Z q10 (LA.ile Z Z) (oN (LA.pickT Z q10 (Bo (decide (s6.2<=(3:Int)))) Z) ?_))
   cases h
   exact js9 _ _ (kw Z Z)
  ·refine gS Z q10 (gS Z q10 (oN (LA.pickF Z q10 (Bo false) Z) ?_))
   cases h
   exact js9 _ _ (kw Z Z)
  ·refine TO.nil ?_;refine T.ifH Z h (fun q11 h=>?_) (fun q11 h=>?_)
   ·refine T.skip ?_;refine T.jF (G:=Nat) h (fun s12 gh=>True) (fun s12 gh=>[(4,hS false 0 gh 1 s12.length),(6,I s6.2),(5,eL cS v1),(0,St text)]) (fun s12 gh=>[bE false gh 1 50 (s12.map (cL LD.c))]) (fun s12 u33 h hg=>?_) (fun s12 h=>?_)
    ·refine T.region (oN mv (jW h fun g34 h=>oN (LA.add Z Z g34) (oN as' (TO.nil ?_))));obtain rfl:=LC h;exact ⟨(s12,(s6.2+V)),u33,Z,trivial,kw Z Z⟩
    ·refine T.block (T.sr (oA (EvA.mkO (c:=LD.c) ([]:List LD) [] nQ Z Z Z (fun _=>Z) Z Z) (oN (LA.asg (hS false 1 0 4 (([]:List LD).length)) Z) (TO.nil (T.sr (oN mv (oN mv (jD h fun g13 h=>oN (LA.ixL vY Z Z g13 (fun _=>Z)) (oN (lf (St (J v1 s6.2)) ty9 Z) (oC h (fun _=>o7 _ _) Z Z Z Z fun v14 _ h=>oN as' (TO.nil ?_)))))))))));refine T.jF (G:=Nat) h (fun s15 gh=>True) (fun s15 gh=>[(7,hS false 1 gh 4 s15.length),(6,I s6.2),(5,eL cS v1),(4,hS false 0 u8 1 s6.1.length),(0,St text)]) (fun s15 gh=>[bE false u8 1 50 (s6.1.map (cL LD.c)),bE false gh 4 70 (s15.map LD.c)]) (fun s15 u31 h hg=>?_) (fun s15 h=>?_)
     ·refine T.region (oN mv (oN mv (oA (EvA.mkR [[hS false 1 u31 4 s15.length]] jC Z Z Z Z) (jL h fun g32 h=>oA (EvA.appR (g:=false) (rows:=s6.1.map (cL LD.c)) (rows':=s6.1.map (cL LD.c)++[[hS false 1 u31 4 s15.length]]) (n':=s6.1.length+1) jC (by kernel_rfl) Z Z (by simp) nofun (aJ.raw (rows:=[[hS false 1 u31 4 s15.length]]) Z Z Z) g32 Z Z) (oN (LA.asg (hS false 0 (u8+1) 1 (s6.1.length+1)) Z) (TO.nil ?_))))));obtain rfl:=LC h;exact ⟨u8+1,trivial,jA Z (.cons (.snoc (fun _=>Z) (.cons (.cons (.fz (Fz.own (g:=false) (ver:=u31) (l:=s15) Z Z Z nofun LD.isF)) .nil) .nil)) .nil) (aa (.eqv (congrArg (hS false 0 (u8+1) 1) (by simp:(s6.1.length+1)=(s6.1++[s15]).length)) (.hS (g:=false) (b:=0) (ver:=u8+1) (s:=1) (n:=(s6.1++[s15]).length) Z)) (aa (.fz (.of_isF 9 _ Z)) (aa (.fz (.of_isF 9 _ Z)) (aa (.fz (.of_isF 9 _ Z)) az))))⟩
     ·refine T.sr (oN as' (TO.nil (T.block ?_)));refine T.loop (S:=(List LD)×Int) (G:=Nat) (cA v1 s6 v14) (fun s19 gh=>True) (fun s19 gh=>[(9,I s19.2),(8,eL cS v14),(7,hS false 1 gh 4 s19.1.length),(6,I s6.2),(5,eL cS v1),(4,hS false 0 u8 1 s6.1.length),(0,St text)]) (fun s19 gh=>[bE false u8 1 50 (s6.1.map (cL LD.c)),bE false gh 4 70 (s19.1.map LD.c)]) (s0:=(([]:List LD),U)) 0 h trivial (kw Z Z) (fun s19 u21 ws19 h hg=>?_);refine T.seq (T.sr (oN mv (oN mv (oN (LA.lenL vY Z) (oN (LA.ilt Z Z) (oN mv ?_))))));refine TO.jB h 3 (fun s22=>[(36,Bo s22),(9,I s19.2),(8,eL cS v14),(7,hS false 1 u21 4 s19.1.length),(6,I s6.2),(5,eL cS v1),(4,hS false 0 u8 1 s6.1.length),(0,St text)]) (fun s22=>[bE false u8 1 50 (s6.1.map (cL LD.c)),bE false u21 4 70 (s19.1.map LD.c)]) (fun s22 q23 h js22=>?_) (fun s22 q23 h js22=>?_) (fun s22 h=>?_)
      ·refine gN Z q23 mv (gN Z q23 (LA.ile Z Z) (oN (LA.pickT Z q23 (Bo (decide (s19.2<=(7:Int)))) Z) ?_))
       cases h
       exact js22 _ _ (kw Z Z)
      ·refine gS Z q23 (gS Z q23 (oN (LA.pickF Z q23 (Bo false) Z) ?_))
       cases h
       exact js22 _ _ (kw Z Z)
      ·refine oN mv ?_;refine TO.jB h 6 (fun s24=>[(43,Bo s24),(9,I s19.2),(8,eL cS v14),(7,hS false 1 u21 4 s19.1.length),(6,I s6.2),(5,eL cS v1),(4,hS false 0 u8 1 s6.1.length),(0,St text)]) (fun s24=>[bE false u8 1 50 (s6.1.map (cL LD.c)),bE false u21 4 70 (s19.1.map LD.c)]) (fun s24 q25 h js24=>?_) (fun s24 q25 h js24=>?_) (fun s24 h=>?_)
       ·refine gN Z q25 mv (gN Z q25 mv (gN Z q25 (LA.ixL vY Z Z g13 (fun _=>Z)) (gN Z q25 (lf (St (J v1 s6.2)) ty9 Z) (gN Z q25 (LA.sne Z Z) (oN (LA.pickT Z q25 (Bo (!decide ((J v1 s6.2)=(⟨#[]⟩:ByteArray)))) Z) ?_)))))
        cases h
        exact js24 _ _ (kw Z Z)
       ·refine gS Z q25 (gS Z q25 (gS Z q25 (gS Z q25 (gS Z q25 (oN (LA.pickF Z q25 (Bo false) Z) ?_)))))
        cases h
        exact js24 _ _ (kw Z Z)
       ·refine TO.nil ?_;refine T.ifH Z h (fun q26 h=>?_) (fun q26 h=>?_)
        ·refine T.skip (T.seq (T.block (T.region (oN mv (oN mv (oN mv (jD h fun g27 h=>oN (LA.ixL vY Z Z g27 (fun _=>Z)) (oN (lf (St (J v14 s19.2)) ty9 Z) (oC h (fun _=>uq _) Z Z Z Z fun v28 _ h=>oN (LA.mkF (c:=LD.c) ([v28]:List LD) [(LD.c v28)] nQ Z Z Z (fun _=>Z) LD.isF Z) (jL h fun g29 h=>oA (EvA.app1 (g:=false) (l:=s19.1) v28 nQ (by kernel_rfl) Z Z Z nofun (aJ.fz (l:=([v28]:List LD)) Z (fun _=>Z)) g29) (oN (LA.asg (hS false 1 (u21+1) 4 ((s19.1++[v28]).length)) Z) (TO.nil ?_))))))))))));refine T.region (oN mv (jW h fun g30 h=>oN (LA.add Z Z g30) (oN as' (TO.nil ?_))));obtain rfl:=LC h;exact ⟨((s19.1++[v28]),(s19.2+V)),u21+1,Z,trivial,kw Z Z⟩
        ·refine T.exit (lX h fun h=>?_)
         cases h
         exact ⟨u21,trivial,kw Z Z⟩
   ·refine T.exit (lX h fun h=>?_)
    cases h
    exact ⟨u8,trivial,kw Z Z⟩
set_option maxHeartbeats 4000000 in
theorem nU (r_:ae) (ver0:Nat) {q:ae×LD} (h:ic r_=some q):eM Tryz.prog 106 [.hp 0 ver0 2 0 0] [some ⟨ver0,2,103,[(ae.c r_)]⟩] (.agg (LD.c q.2)) [some ⟨ver0,2,103,[(ae.c q.1)]⟩]:=by
 refine aM Tryz.func106 Z (by kernel_rfl) Z (T.sr (oA (EvA.al sV Z Z) (TO.nil (T.sr (oN mv (jB h fun v1 cv1 h=>oA (EvA.call Z Z Z ((aF (⟨r_.b,r_.p⟩:ae) (2:Int) ver0 cv1).one 0 Z (.cons (.hp Z) (.cons (.pF Z) .nil)) (aj Z) (aj Z) Z)) (oN as' (TO.nil (T.seq (T.sr (oN mv (jB h fun v2 cv2 h=>oA (EvA.call Z Z Z ((aF (⟨v1.1.b,v1.1.p⟩:ae) (7:Int) ver0 cv2).one 0 Z (.cons (.hp Z) (.cons (.pF Z) .nil)) (aj Z) (aj Z) Z)) (TO.nil ?_)))))))))))));refine T.block (T.sr (oN (LA.ieq Z Z) (oN as' (TO.nil ?_))));refine T.ifH Z h (fun q3 h=>?_) (fun q3 h=>?_)
 ·refine T.sr (oN (LA.build [I (4:Int),I U,I U,I U] Tryz.underlying70 sV lu Z Z) (oV (sr [I (4:Int),I U,I U,I U] jP Z Z Z Z) (TO.nil (T.ret ?_))));obtain rfl:=LC h
  repeat (first|refine fD ?_|refine fE ?_)
  exact ⟨ah [(2,.fp (LD.c (⟨(4:Int),U,U,U⟩:LD)) 0)],[some ⟨ver0,2,103,[(ae.c (⟨v2.1.b,v2.1.p⟩:ae))]⟩],jA Z (.cons (.row (.cons (.fz (.of_isF 9 _ Z)) (.cons (.fz (.of_isF 9 _ Z)) .nil))) .nil) (aa (.fz (Fz.fpL (ver:=0) (s:=4) (ty:=70) (rows:=[[I (4:Int),I U,I U,I U]]) Z Z Z (.cons (.of_isF 9 _ Z) (.cons (.of_isF 9 _ Z) (.cons (.of_isF 9 _ Z) (.cons (.of_isF 9 _ Z) .nil)))))) az),Fin.ret (vs:=[.agg (LD.c (⟨(4:Int),U,U,U⟩:LD))]) (.cons (.cellF (.agg (LD.c (⟨(4:Int),U,U,U⟩:LD))) jP Z Z) .nil) ⟨Z,Z⟩⟩
 ·refine T.sr (oN (LA.ieq Z Z) (oN as' (TO.nil ?_)));refine T.ifH Z h (fun q4 h=>?_) (fun q4 h=>?_)
  ·refine T.sr (oN mv (oN mv (jB h fun v5 cv5 h=>oA (EvA.call Z Z Z ((aF (⟨v2.1.b,v2.1.p⟩:ae) (2:Int) ver0 cv5).one 0 Z (.cons (.hp Z) (.cons (.pF Z) .nil)) (aj Z) (aj Z) Z)) (oN (LA.build [I (3:Int),I v1.2,I v5.2,I U] Tryz.underlying70 sV lu Z Z) (oV (sr [I (3:Int),I v1.2,I v5.2,I U] jP Z Z Z Z) (TO.nil (T.ret ?_)))))));obtain rfl:=LC h
   repeat (first|refine fD ?_|refine fE ?_)
   exact ⟨ah [(2,.fp (LD.c (⟨(3:Int),v1.2,v5.2,U⟩:LD)) 0)],[some ⟨ver0,2,103,[(ae.c (⟨v5.1.b,v5.1.p⟩:ae))]⟩],jA Z (.cons (.row (.cons (.fz (.of_isF 9 _ Z)) (.cons (.fz (.of_isF 9 _ Z)) .nil))) .nil) (aa (.fz (Fz.fpL (ver:=0) (s:=4) (ty:=70) (rows:=[[I (3:Int),I v1.2,I v5.2,I U]]) Z Z Z (.cons (.of_isF 9 _ Z) (.cons (.of_isF 9 _ Z) (.cons (.of_isF 9 _ Z) (.cons (.of_isF 9 _ Z) .nil)))))) az),Fin.ret (vs:=[.agg (LD.c (⟨(3:Int),v1.2,v5.2,U⟩:LD))]) (.cons (.cellF (.agg (LD.c (⟨(3:Int),v1.2,v5.2,U⟩:LD))) jP Z Z) .nil) ⟨Z,Z⟩⟩
  ·refine T.sr (oN (LA.ieq Z Z) (oN as' (TO.nil ?_)));refine T.ifH Z h (fun q6 h=>?_) (fun q6 h=>?_)
   ·refine T.sr (oN mv (oN mv (jB h fun v7 cv7 h=>oA (EvA.call Z Z Z ((aF (⟨v2.1.b,v2.1.p⟩:ae) (2:Int) ver0 cv7).one 0 Z (.cons (.hp Z) (.cons (.pF Z) .nil)) (aj Z) (aj Z) Z)) (oN mv (jB h fun v8 cv8 h=>oA (EvA.call Z Z Z ((aF (⟨v7.1.b,v7.1.p⟩:ae) (3:Int) ver0 cv8).one 0 Z (.cons (.hp Z) (.cons (.pF Z) .nil)) (aj Z) (aj Z) Z)) (jW h fun g9 h=>oN (LA.add Z Z g9) (oN (LA.build [I (5:Int),I v1.2,I v7.2,I (V+v8.2)] Tryz.underlying70 sV lu Z Z) (oV (sr [I (5:Int),I v1.2,I v7.2,I (V+v8.2)] jP Z Z Z Z) (TO.nil (T.ret ?_))))))))));obtain rfl:=LC h
    repeat (first|refine fD ?_|refine fE ?_)
    exact ⟨ah [(2,.fp (LD.c (⟨(5:Int),v1.2,v7.2,(V+v8.2)⟩:LD)) 0)],[some ⟨ver0,2,103,[(ae.c (⟨v8.1.b,v8.1.p⟩:ae))]⟩],jA Z (.cons (.row (.cons (.fz (.of_isF 9 _ Z)) (.cons (.fz (.of_isF 9 _ Z)) .nil))) .nil) (aa (.fz (Fz.fpL (ver:=0) (s:=4) (ty:=70) (rows:=[[I (5:Int),I v1.2,I v7.2,I (V+v8.2)]]) Z Z Z (.cons (.of_isF 9 _ Z) (.cons (.of_isF 9 _ Z) (.cons (.of_isF 9 _ Z) (.cons (.of_isF 9 _ Z) .nil)))))) az),Fin.ret (vs:=[.agg (LD.c (⟨(5:Int),v1.2,v7.2,(V+v8.2)⟩:LD))]) (.cons (.cellF (.agg (LD.c (⟨(5:Int),v1.2,v7.2,(V+v8.2)⟩:LD))) jP Z Z) .nil) ⟨Z,Z⟩⟩
   ·refine T.jU h (fun s10=>[(26,Bo s10),(3,I v1.2),(2,.hp 1 0 4 0 0),(0,.hp 0 ver0 2 0 0)]) (fun s10=>[some ⟨ver0,2,103,[(ae.c v2.1)]⟩,some ⟨0,4,70,[[I U,I U,I U,I U]]⟩]) (fun s10 h=>?_) (fun s10 h=>?_)
    ·refine T.ifH Z h (fun q12 h=>?_) (fun q12 h=>?_)
     ·refine T.sr (oN mv (oN mv (jB h fun v13 cv13 h=>oA (EvA.call Z Z Z ((aF (⟨v2.1.b,v2.1.p⟩:ae) (3:Int) ver0 cv13).one 0 Z (.cons (.hp Z) (.cons (.pF Z) .nil)) (aj Z) (aj Z) Z)) (jW h fun g14 h=>oN (LA.add Z Z g14) (oN (LA.build [I (2:Int),I v1.2,I U,I (V+v13.2)] Tryz.underlying70 sV lu Z Z) (oV (sr [I (2:Int),I v1.2,I U,I (V+v13.2)] jP Z Z Z Z) (TO.nil (T.ret ?_))))))));obtain rfl:=LC h
      repeat (first|refine fD ?_|refine fE ?_)
      exact ⟨ah [(2,.fp (LD.c (⟨(2:Int),v1.2,U,(V+v13.2)⟩:LD)) 0)],[some ⟨ver0,2,103,[(ae.c (⟨v13.1.b,v13.1.p⟩:ae))]⟩],jA Z (.cons (.row (.cons (.fz (.of_isF 9 _ Z)) (.cons (.fz (.of_isF 9 _ Z)) .nil))) .nil) (aa (.fz (Fz.fpL (ver:=0) (s:=4) (ty:=70) (rows:=[[I (2:Int),I v1.2,I U,I (V+v13.2)]]) Z Z Z (.cons (.of_isF 9 _ Z) (.cons (.of_isF 9 _ Z) (.cons (.of_isF 9 _ Z) (.cons (.of_isF 9 _ Z) .nil)))))) az),Fin.ret (vs:=[.agg (LD.c (⟨(2:Int),v1.2,U,(V+v13.2)⟩:LD))]) (.cons (.cellF (.agg (LD.c (⟨(2:Int),v1.2,U,(V+v13.2)⟩:LD))) jP Z Z) .nil) ⟨Z,Z⟩⟩
     ·refine T.skip (T.sr (oN mv (oN mv (jB h fun v15 cv15 h=>oA (EvA.call Z Z Z ((aF (⟨v2.1.b,v2.1.p⟩:ae) (2:Int) ver0 cv15).one 0 Z (.cons (.hp Z) (.cons (.pF Z) .nil)) (aj Z) (aj Z) Z)) (oN (LA.build [I V,I v1.2,I v15.2,I U] Tryz.underlying70 sV lu Z Z) (oV (sr [I V,I v1.2,I v15.2,I U] jP Z Z Z Z) (TO.nil (T.ret ?_))))))));obtain rfl:=LC h
      repeat (first|refine fD ?_|refine fE ?_)
      exact ⟨ah [(2,.fp (LD.c (⟨V,v1.2,v15.2,U⟩:LD)) 0)],[some ⟨ver0,2,103,[(ae.c (⟨v15.1.b,v15.1.p⟩:ae))]⟩],jA Z (.cons (.row (.cons (.fz (.of_isF 9 _ Z)) (.cons (.fz (.of_isF 9 _ Z)) .nil))) .nil) (aa (.fz (Fz.fpL (ver:=0) (s:=4) (ty:=70) (rows:=[[I V,I v1.2,I v15.2,I U]]) Z Z Z (.cons (.of_isF 9 _ Z) (.cons (.of_isF 9 _ Z) (.cons (.of_isF 9 _ Z) (.cons (.of_isF 9 _ Z) .nil)))))) az),Fin.ret (vs:=[.agg (LD.c (⟨V,v1.2,v15.2,U⟩:LD))]) (.cons (.cellF (.agg (LD.c (⟨V,v1.2,v15.2,U⟩:LD))) jP Z Z) .nil) ⟨Z,Z⟩⟩
    ·refine T.sr (oN (LA.ieq Z Z) (oN as' (TO.nil ?_)));refine T.ifH Z h (fun q11 h=>?_) (fun q11 h=>?_)
     ·refine T.skip ?_
      cases h
      exact ⟨(),trivial,kw Z Z⟩
     ·refine T.region (oN (LA.ieq Z Z) (oN as' (TO.nil ?_)))
      cases h
      exact ⟨(),trivial,kw Z Z⟩
set_option maxHeartbeats 4000000 in
theorem wE (r_:ae) (ver0:Nat) {q:ae×(List (List LD))} (h:kN r_=some q):eM Tryz.prog 79 [.hp 0 ver0 2 0 0] [some ⟨ver0,2,103,[(ae.c r_)]⟩] (eL (cL LD.c) q.2) [some ⟨ver0,2,103,[(ae.c q.1)]⟩]:=by
 refine aM Tryz.func79 Z (by kernel_rfl) Z (T.sr (oN as' (TO.nil (T.sr (oC h (fun _=>uo) Z Z Z Z fun v1 _ h=>oN as' (TO.nil ?_))))));obtain ⟨Ks2,es2,ws2,h,ks2⟩:=sumL h;refine T.join (S:=(LI)×Int) (G:=Unit) (fun s2=>Ks2 s2=some q) (fun s2 gh=>True) (fun s2 gh=>[(0,.hp 0 ver0 2 0 0)]) (fun s2 gh=>[some ⟨ver0,2,103,[[eL cY s2.1,I s2.2]]⟩]) (fun s2 gh h hg=>?_) ?_
 ·clear ks2;subst es2;refine T.sr (oA (EvA.mkO (c:=(cL LD.c)) ([]:List (List LD)) [] jC Z Z Z (fun _=>Z) Z Z) (oN (LA.asg (hS false 1 0 1 (([]:List (List LD)).length)) Z) (TO.nil ?_)));refine T.jF (G:=Nat) h (fun s9 gh=>True) (fun s9 gh=>[(6,hS false 1 gh 1 s9.2.2.length),(0,.hp 0 ver0 2 0 0)]) (fun s9 gh=>[some ⟨ver0,2,103,[[eL cY s9.1,I s9.2.1]]⟩,bE false gh 1 50 (s9.2.2.map (cL LD.c))]) (fun s9 u35 h hg=>?_) (fun s9 h=>?_)
  ·refine T.seq (T.sr (oN mv (jB h fun v36 cv36 h=>oA (EvA.callT Z Z (gz s9.2.2 cv36) (.cons (Fz.own (g:=false) (ver:=u35) (l:=s9.2.2) Z Z Z nofun (fun _=>Z)) .nil) Z) (TO.nil ?_))));refine T.ifH Z h (fun q37 h=>?_) (fun q37 h=>?_)
   ·refine T.sr (oN mv (oN (LA.asg (hS false 1 u35 1 s9.2.2.length) Z) (TO.nil (T.ret ?_))));obtain rfl:=LC h
    repeat (first|refine fD ?_|refine fE ?_)
    exact ⟨ah [(2,eL (cL LD.c) s9.2.2)],[some ⟨ver0,2,103,[(ae.c (⟨s9.1,s9.2.1⟩:ae))]⟩],jA Z (.cons (.row (.cons (.fz (.of_isF 9 _ Z)) (.cons (.fz (.of_isF 9 _ Z)) .nil))) .nil) (aa (.fz (Fz.own (g:=false) (ver:=u35) (l:=s9.2.2) Z Z Z nofun (fun _=>Z))) az),Fin.ret (vs:=[eL (cL LD.c) s9.2.2]) (.cons (.tmp Z) .nil) ⟨Z,Z⟩⟩
   ·refine T.skip (T.sr (oN mv (jB h fun v38 cv38 h=>oA (EvA.call Z Z Z ((nU (⟨s9.1,s9.2.1⟩:ae) ver0 cv38).one 0 Z (.cons (.hp Z) .nil) (aj Z) (aj Z) Z)) (oN (LA.mkF (c:=LD.c) ([v38.2]:List LD) [(LD.c v38.2)] nQ Z Z Z (fun _=>Z) LD.isF Z) (oN (LA.mkF (c:=(cL LD.c)) ([([v38.2]:List LD)]:List (List LD)) [[eL LD.c ([v38.2]:List LD)]] jC Z Z Z (fun _=>Z) (fun _=>Z) Z) (oN as' (TO.nil (T.ret ?_))))))));obtain rfl:=LC h
    repeat (first|refine fD ?_|refine fE ?_)
    exact ⟨ah [(2,eL (cL LD.c) ([([v38.2]:List LD)]:List (List LD)))],[some ⟨ver0,2,103,[(ae.c (⟨v38.1.b,v38.1.p⟩:ae))]⟩],jA Z (.cons (.row (.cons (.fz (.of_isF 9 _ Z)) (.cons (.fz (.of_isF 9 _ Z)) .nil))) .nil) (aa (.fz (.of_isF 9 _ Z)) az),Fin.ret (vs:=[eL (cL LD.c) ([([v38.2]:List LD)]:List (List LD))]) (.cons (.tmp Z) .nil) ⟨Z,Z⟩⟩
  ·refine T.sr (oN mv (oN (LA.mkF (c:=cI) ([(2:Int),(3:Int),V]:LI) [[I (2:Int)],[I (3:Int)],[I V]] bF Z Z Z (fun _=>Z) (fun _=>Z) Z) (jB h fun v10 cv10 h=>oA (EvA.call Z Z Z ((dI (⟨s2.1,s2.2⟩:ae) ([(2:Int),(3:Int),V]:LI) ver0 cv10).one 0 Z (.cons (.hp Z) (.cons (.pF Z) .nil)) (aj Z) (aj Z) Z)) (oN as' (TO.nil (T.block ?_))))));refine T.loop (S:=(LI)×Int×(List (List LD))×Int) (G:=Nat) gL (fun s14 gh=>True) (fun s14 gh=>[(7,I s14.2.2.2),(6,hS false 1 gh 1 s14.2.2.1.length),(0,.hp 0 ver0 2 0 0)]) (fun s14 gh=>[some ⟨ver0,2,103,[[eL cY s14.1,I s14.2.1]]⟩,bE false gh 1 50 (s14.2.2.1.map (cL LD.c))]) (s0:=(v10.1.b,v10.1.p,([]:List (List LD)),v10.2)) 0 h trivial (kw Z Z) (fun s14 u16 ws14 h hg=>?_);refine T.seq (T.sr (oN mv (oN (LA.igt Z Z) (TO.nil ?_))));refine T.ifH Z h (fun q17 h=>?_) (fun q17 h=>?_)
   ·refine T.skip ?_;refine T.jF (G:=Nat) h (fun s18 gh=>True) (fun s18 gh=>[(6,hS false 1 gh 1 s18.2.2.length),(7,I s14.2.2.2),(0,.hp 0 ver0 2 0 0)]) (fun s18 gh=>[some ⟨ver0,2,103,[[eL cY s18.1,I s18.2.1]]⟩,bE false gh 1 50 (s18.2.2.map (cL LD.c))]) (fun s18 u33 h hg=>?_) (fun s18 h=>?_)
    ·refine T.region (oN mv (jW h fun g34 h=>oN (LA.sub Z Z g34) (oN as' (TO.nil ?_))));obtain rfl:=LC h;exact ⟨(s18.1,s18.2.1,s18.2.2,(s14.2.2.2-V)),u33,Z,trivial,kw Z Z⟩
    ·refine T.block (T.sr (oA (EvA.mkO (c:=LD.c) ([]:List LD) [] nQ Z Z Z (fun _=>Z) Z Z) (oN (LA.asg (hS false 2 0 4 (([]:List LD).length)) Z) (TO.nil ?_))));refine T.jF (G:=Nat) h (fun s19 gh=>True) (fun s19 gh=>[(8,hS false 2 gh 4 s19.2.2.length),(7,I s14.2.2.2),(6,hS false 1 u16 1 s14.2.2.1.length),(0,.hp 0 ver0 2 0 0)]) (fun s19 gh=>[some ⟨ver0,2,103,[[eL cY s19.1,I s19.2.1]]⟩,bE false u16 1 50 (s14.2.2.1.map (cL LD.c)),bE false gh 4 70 (s19.2.2.map LD.c)]) (fun s19 u31 h hg=>?_) (fun s19 h=>?_)
     ·refine T.region (oN mv (oN mv (oA (EvA.mkR [[hS false 2 u31 4 s19.2.2.length]] jC Z Z Z Z) (jL h fun g32 h=>oA (EvA.appR (g:=false) (rows:=s14.2.2.1.map (cL LD.c)) (rows':=s14.2.2.1.map (cL LD.c)++[[hS false 2 u31 4 s19.2.2.length]]) (n':=s14.2.2.1.length+1) jC (by kernel_rfl) Z Z (by simp) nofun (aJ.raw (rows:=[[hS false 2 u31 4 s19.2.2.length]]) Z Z Z) g32 Z Z) (oN (LA.asg (hS false 1 (u16+1) 1 (s14.2.2.1.length+1)) Z) (TO.nil ?_))))));obtain rfl:=LC h;exact ⟨u16+1,trivial,jA Z (.cons (.row (.cons (.fz (.of_isF 9 _ Z)) (.cons (.fz (.of_isF 9 _ Z)) .nil))) (.cons (.snoc (fun _=>Z) (.cons (.cons (.fz (Fz.own (g:=false) (ver:=u31) (l:=s19.2.2) Z Z Z nofun LD.isF)) .nil) .nil)) .nil)) (aa (.eqv (congrArg (hS false 1 (u16+1) 1) (by simp:(s14.2.2.1.length+1)=(s14.2.2.1++[s19.2.2]).length)) (.hS (g:=false) (b:=1) (ver:=u16+1) (s:=1) (n:=(s14.2.2.1++[s19.2.2]).length) Z)) (aa (.fz (.of_isF 9 _ Z)) (aa (.hp (nlb Z)) az)))⟩
     ·refine T.sr (oN mv (oN (LA.mkF (c:=cI) ([(2:Int),V,(3:Int),(2:Int),U]:LI) [[I (2:Int)],[I V],[I (3:Int)],[I (2:Int)],[I U]] bF Z Z Z (fun _=>Z) (fun _=>Z) Z) (jB h fun v20 cv20 h=>oA (EvA.call Z Z Z ((dI (⟨s14.1,s14.2.1⟩:ae) ([(2:Int),V,(3:Int),(2:Int),U]:LI) ver0 cv20).one 0 Z (.cons (.hp Z) (.cons (.pF Z) .nil)) (aj Z) (aj Z) Z)) (oN as' (TO.nil (T.block ?_))))));refine T.loop (S:=(LI)×Int×(List LD)×Int) (G:=Nat) gK (fun s24 gh=>True) (fun s24 gh=>[(9,I s24.2.2.2),(8,hS false 2 gh 4 s24.2.2.1.length),(7,I s14.2.2.2),(6,hS false 1 u16 1 s14.2.2.1.length),(0,.hp 0 ver0 2 0 0)]) (fun s24 gh=>[some ⟨ver0,2,103,[[eL cY s24.1,I s24.2.1]]⟩,bE false u16 1 50 (s14.2.2.1.map (cL LD.c)),bE false gh 4 70 (s24.2.2.1.map LD.c)]) (s0:=(v20.1.b,v20.1.p,([]:List LD),v20.2)) 0 h trivial (kw Z Z) (fun s24 u26 ws24 h hg=>?_);refine T.seq (T.sr (oN mv (oN (LA.igt Z Z) (TO.nil ?_))));refine T.ifH Z h (fun q27 h=>?_) (fun q27 h=>?_)
      ·refine T.skip (T.seq (T.block (T.region (oN mv (oN mv (jB h fun v28 cv28 h=>oA (EvA.call Z Z Z ((nU (⟨s24.1,s24.2.1⟩:ae) ver0 cv28).one 0 Z (.cons (.hp Z) .nil) (aj Z) (aj Z) Z)) (oN (LA.mkF (c:=LD.c) ([v28.2]:List LD) [(LD.c v28.2)] nQ Z Z Z (fun _=>Z) LD.isF Z) (jL h fun g29 h=>oA (EvA.app1 (g:=false) (l:=s24.2.2.1) v28.2 nQ (by kernel_rfl) Z Z Z nofun (aJ.fz (l:=([v28.2]:List LD)) Z (fun _=>Z)) g29) (oN (LA.asg (hS false 2 (u26+1) 4 ((s24.2.2.1++[v28.2]).length)) Z) (TO.nil (T.region (oN mv (jW h fun g30 h=>?_)))))))))))));refine oN (LA.sub Z Z g30) (oN as' (TO.nil ?_));obtain rfl:=LC h;exact ⟨(v28.1.b,v28.1.p,(s24.2.2.1++[v28.2]),(s24.2.2.2-V)),u26+1,Z,trivial,kw Z Z⟩
      ·refine T.exit (lX h fun h=>?_)
       cases h
       exact ⟨u26,trivial,kw Z Z⟩
   ·refine T.exit (lX h fun h=>?_)
    cases h
    exact ⟨u16,trivial,kw Z Z⟩
 ·refine T.sr (oN mv (jB h fun v3 cv3 h=>oA (EvA.call Z Z Z ((aF (⟨r_.b,r_.p⟩:ae) (3:Int) ver0 cv3).one 0 Z (.cons (.hp Z) (.cons (.pF Z) .nil)) (aj Z) (aj Z) Z)) (oN (LA.igt Z Z) (TO.nil ?_))));refine T.ifH Z h (fun q4 h=>?_) (fun q4 h=>?_)
  ·refine T.sr (oN mv (oN mv (oN mv (oN (LA.lenL vY Z) (jB h fun v5 cv5 h=>oA (EvA.call Z Z Z ((aF (⟨v3.1.b,v3.1.p⟩:ae) (v1.length:Int) ver0 cv5).one 0 Z (.cons (.hp Z) (.cons (.pF Z) .nil)) (aj Z) (aj Z) Z)) (jD h fun g6 h=>oN (LA.ixL vY Z Z g6 (fun _=>Z)) (oN (lf (St (J v1 v5.2)) ty9 Z) (oC h (fun _=>ko _) Z Z Z Z fun v7 _ h=>oN mv (oN (LA.ext (eL (cL LD.c) v7.1) Z Z) (oN (LA.ext (Bo v7.2) Z Z) (oN as' (oN as' ?_))))))))))));refine TO.nil (T.seq (T.clean (H0:=[some ⟨ver0,2,103,[(ae.c v5.1)]⟩]) (e0:=ah [(5,Bo v7.2),(4,eL (cL LD.c) v7.1),(0,.hp 0 ver0 2 0 0)]) Z (Ly Z (Ly Z (Ly Z Lx))) (T.region (oN mv (TO.nil ?_)))));refine T.ifH Z h (fun q8 h=>?_) (fun q8 h=>?_)
   ·refine T.sr (oN mv (oN as' (TO.nil (T.ret ?_))));obtain rfl:=LC h;replace h:=congrArg some (show _=_ from ks2);obtain rfl:=LC h
    repeat (first|refine fD ?_|refine fE ?_)
    exact ⟨ah [(2,eL (cL LD.c) v7.1)],[some ⟨ver0,2,103,[(ae.c (⟨v5.1.b,v5.1.p⟩:ae))]⟩],kw Z Z,Fin.ret (vs:=[eL (cL LD.c) v7.1]) (.cons (.tmp Z) .nil) ⟨Z,Z⟩⟩
   ·refine T.skip ?_;obtain rfl:=LC h;exact ⟨(v5.1.b,v5.1.p),(),ks2,trivial,kw Z Z⟩
  ·refine T.skip ?_;obtain rfl:=LC h;exact ⟨(v3.1.b,v3.1.p),(),ks2,trivial,kw Z Z⟩
set_option maxHeartbeats 4000000 in
theorem nV (p:List (List LD)) (loc:Int) (writes:Bool) {q:Int} (h:ig p loc writes=some q):aA Tryz.prog 107 [eL (cL LD.c) p,I loc,Bo writes] (I q):=by
 refine pM Tryz.func107 Z (by kernel_rfl) Z (T.sr (oN as' (TO.nil (T.sr (oN as' (TO.nil ?_))))));refine T.jU h (fun s1=>[(7,I s1)]) (fun s1=>[]) (fun s1 h=>?_) (fun s1 h=>?_)
 ·refine T.sr (oN mv (oN as' (TO.nil (T.ret ?_))))
  cases h
  exact cH Z Z Z
 ·refine T.sr (oN as' (TO.nil (T.block ?_)));refine T.lU h (fun s4=>[(8,I s4.1),(7,I s4.2),(0,eL (cL LD.c) p),(1,I loc),(2,Bo writes)]) (fun s4=>[]) (kw Z Z) (fun s4 ws4 h=>?_);refine T.seq (T.sr (oN mv (oN mv (oN (LA.lenL jC Z) (oN (LA.ilt Z Z) (TO.nil ?_))))));refine T.ifH Z h (fun q6 h=>?_) (fun q6 h=>?_)
  ·refine T.skip ?_;refine T.jU h (fun s7=>[(8,I s4.1),(7,I s7),(0,eL (cL LD.c) p),(1,I loc),(2,Bo writes)]) (fun s7=>[]) (fun s7 h=>?_) (fun s7 h=>?_)
   ·refine T.region (oN mv (jW h fun g29 h=>oN (LA.add Z Z g29) (oN as' (TO.nil ?_))));exact lE h (kw Z Z)
   ·refine T.block (T.sr (oN as' (TO.nil (T.block ?_))));refine T.lU h (fun s10=>[(9,I s10.1),(8,I s4.1),(7,I s10.2),(0,eL (cL LD.c) p),(1,I loc),(2,Bo writes)]) (fun s10=>[]) (kw Z Z) (fun s10 ws10 h=>?_);refine T.seq (T.sr (oN mv (oN mv (oN mv (jD h fun g12 h=>oN (LA.ixL jC Z Z g12 (fun _=>Z)) (oN (lf (eL LD.c (J p s4.1)) tX Z) (oN (LA.lenL nQ Z) (oN (LA.ilt Z Z) (TO.nil ?_)))))))));refine T.ifH Z h (fun q13 h=>?_) (fun q13 h=>?_)
    ·refine T.skip ?_;refine T.jU h (fun s14=>[(7,I s14),(9,I s10.1),(8,I s4.1),(0,eL (cL LD.c) p),(1,I loc),(2,Bo writes)]) (fun s14=>[]) (fun s14 h=>?_) (fun s14 h=>?_)
     ·refine T.region (oN mv (jW h fun g28 h=>oN (LA.add Z Z g28) (oN as' (TO.nil ?_))));exact lE h (kw Z Z)
     ·refine T.block (T.sr (oN mv (oN mv (oN (LA.ixL jC Z Z g12 (fun _=>Z)) (oN (lf (eL LD.c (J p s4.1)) tX Z) (oN mv (jD h fun g15 h=>oN (LA.ixL nQ Z Z g15 (fun _=>Z)) (oN (lf (.agg (LD.c (J (J p s4.1) s10.1))) jP Z) (oA (EvA.al sV Z Z) (oV (sr (LD.c (J (J p s4.1) s10.1)) jP Z Z Z Z) (TO.nil (T.sr (oN (fa lu Z) (oA (lh (I ((J (J p s4.1) s10.1).Loc)) LS Z Z Z) ?_))))))))))))));refine oN mv (oN (LA.ieq Z Z) (oN mv ?_));refine TO.jB h 14 (fun s16=>[(51,Bo s16),(9,I s10.1),(8,I s4.1),(7,I s10.2),(0,eL (cL LD.c) p),(1,I loc),(2,Bo writes)]) (fun s16=>[some ⟨0,4,70,[(LD.c (J (J p s4.1) s10.1))]⟩]) (fun s16 q17 h js16=>?_) (fun s16 q17 h js16=>?_) (fun s16 h=>?_)
      ·refine gN Z q17 mv (gN Z q17 mv ?_);refine TO.jB h 3 (fun s18=>[(42,Bo s18),(39,Bo writes),(38,Bo writes),(37,Bo (((J (J p s4.1) s10.1).Loc)==loc)),(10,.hp 0 0 4 0 0),(9,I s10.1),(8,I s4.1),(7,I s10.2),(0,eL (cL LD.c) p),(1,I loc),(2,Bo writes)]) (fun s18=>[some ⟨0,4,70,[(LD.c (J (J p s4.1) s10.1))]⟩]) (fun s18 q19 h js18=>?_) (fun s18 q19 h js18=>?_) (fun s18 h=>?_)
       ·refine gA Z q19 (lh (.agg (LD.c (J (J p s4.1) s10.1))) jP Z Z Z) (jB h fun v20 cv20 h=>gN Z q19 (LA.call Z Z Z (mR (⟨(J (J p s4.1) s10.1).Op,(J (J p s4.1) s10.1).Loc,(J (J p s4.1) s10.1).Reg,(J (J p s4.1) s10.1).Val⟩:LD) cv20) Z) (gN Z q17 (LA.pickT Z q19 (Bo v20) Z) ?_))
        cases h
        exact js18 _ _ (kw Z Z)
       ·refine gS Z q19 (gS Z q19 (gN Z q17 (LA.pickF Z q19 (Bo false) Z) ?_))
        cases h
        exact js18 _ _ (kw Z Z)
       ·refine gN Z q17 mv ?_;refine TO.jB h 7 (fun s21=>[(50,Bo s21),(43,Bo s18),(42,Bo s18),(39,Bo writes),(38,Bo writes),(37,Bo (((J (J p s4.1) s10.1).Loc)==loc)),(9,I s10.1),(8,I s4.1),(7,I s10.2),(0,eL (cL LD.c) p),(1,I loc),(2,Bo writes)]) (fun s21=>[some ⟨0,4,70,[(LD.c (J (J p s4.1) s10.1))]⟩]) (fun s21 q22 h js21=>?_) (fun s21 q22 h js21=>?_) (fun s21 h=>?_)
        ·refine gS Z q22 (gS Z q22 (gS Z q22 (gU Z (gU Z (gS Z q22 (gN Z q17 (LA.pickT Z q22 (Bo true) Z) ?_))))))
         cases h
         exact js21 _ _ (kw Z Z)
        ·refine gN Z q22 mv (gN Z q22 (LA.not Z) (gN Z q22 mv ?_));refine TO.jB h 3 (fun s23=>[(49,Bo s23),(46,Bo (!writes)),(45,Bo (!writes)),(44,Bo writes),(43,Bo s18),(42,Bo s18),(39,Bo writes),(38,Bo writes),(37,Bo (((J (J p s4.1) s10.1).Loc)==loc)),(9,I s10.1),(8,I s4.1),(7,I s10.2),(0,eL (cL LD.c) p),(1,I loc),(2,Bo writes)]) (fun s23=>[some ⟨0,4,70,[(LD.c (J (J p s4.1) s10.1))]⟩]) (fun s23 q24 h js23=>?_) (fun s23 q24 h js23=>?_) (fun s23 h=>?_)
         ·refine gA Z q24 (lh (.agg (LD.c (J (J p s4.1) s10.1))) jP Z Z Z) (jB h fun v25 cv25 h=>gN Z q24 (LA.call Z Z Z (nS (⟨(J (J p s4.1) s10.1).Op,(J (J p s4.1) s10.1).Loc,(J (J p s4.1) s10.1).Reg,(J (J p s4.1) s10.1).Val⟩:LD) cv25) Z) (gN Z q22 (LA.pickT Z q24 (Bo v25) Z) ?_))
          cases h
          exact js23 _ _ (kw Z Z)
         ·refine gS Z q24 (gS Z q24 (gN Z q22 (LA.pickF Z q24 (Bo false) Z) ?_))
          cases h
          exact js23 _ _ (kw Z Z)
         ·refine gN Z q17 (LA.pickF Z q22 (Bo s23) Z) ?_
          cases h
          exact js21 _ _ (kw Z Z)
        ·refine oN (LA.pickT Z q17 (Bo s21) Z) ?_
         cases h
         exact js16 _ _ (kw Z Z)
      ·refine gS Z q17 (gS Z q17 (gU Z (gU Z (gS Z q17 (gS Z q17 (gU Z (gU Z (gU Z (gU Z (gU Z (gU Z (gS Z q17 (oN (LA.pickF Z q17 (Bo false) Z) ?_)))))))))))))
       cases h
       exact js16 _ _ (kw Z Z)
      ·refine TO.nil ?_;refine T.ifH Z h (fun q26 h=>?_) (fun q26 h=>?_)
       ·refine T.region (oN mv (jW h fun g27 h=>oN (LA.add Z Z g27) (oN as' (TO.nil ?_))))
        cases h
        exact ⟨(),trivial,jA Z .nil (aa (.fz (.of_isF 9 _ Z)) (aa (.fz (.of_isF 9 _ Z)) (aa (.fz (.of_isF 9 _ Z)) (aa (.fz (.of_isF 9 _ Z)) (aa (.fz (.of_isF 9 _ Z)) (aa (.fz (.of_isF 9 _ Z)) az))))))⟩
       ·refine T.skip ?_
        cases h
        exact ⟨(),trivial,jA Z .nil (aa (.fz (.of_isF 9 _ Z)) (aa (.fz (.of_isF 9 _ Z)) (aa (.fz (.of_isF 9 _ Z)) (aa (.fz (.of_isF 9 _ Z)) (aa (.fz (.of_isF 9 _ Z)) (aa (.fz (.of_isF 9 _ Z)) az))))))⟩
    ·refine T.exit (lX h fun h=>?_)
     cases h
     exact ⟨(),trivial,kw Z Z⟩
  ·refine T.exit (lX h fun h=>?_)
   cases h
   exact ⟨(),trivial,kw Z Z⟩
theorem uu (p:List (List LD)) (most:Int) {q:Int} (h:jV p most=some q):aA Tryz.prog 80 [eL (cL LD.c) p,I most] (I q):=by
 refine pM Tryz.func80 Z (by kernel_rfl) Z (T.sr (oN as' (TO.nil (T.sr (oN as' (TO.nil ?_))))));refine T.jU h (fun s1=>[(5,I s1),(1,I most)]) (fun s1=>[]) (fun s1 h=>?_) (fun s1 h=>?_)
 ·refine T.seq (T.sr (oN mv (oN mv (oN (LA.igt Z Z) (TO.nil ?_)))));refine T.ifH Z h (fun q31 h=>?_) (fun q31 h=>?_)
  ·refine T.sr (oN mv (jW h fun g32 h=>oN (LA.add Z Z g32) (oN as' (TO.nil (T.ret ?_)))))
   cases h
   exact cH Z Z Z
  ·refine T.skip (T.sr (oN mv (oN as' (TO.nil (T.ret ?_)))))
   cases h
   exact cH Z Z Z
 ·refine T.sr (oN as' (TO.nil (T.block ?_)));refine T.lU h (fun s4=>[(6,I s4.1),(5,I s4.2),(0,eL (cL LD.c) p),(1,I most)]) (fun s4=>[]) (kw Z Z) (fun s4 ws4 h=>?_);refine T.seq (T.sr (oN mv (oN (LA.ile Z Z) (TO.nil ?_))));refine T.ifH Z h (fun q6 h=>?_) (fun q6 h=>?_)
  ·refine T.skip ?_;refine T.jU h (fun s7=>[(6,I s4.1),(5,I s7),(0,eL (cL LD.c) p),(1,I most)]) (fun s7=>[]) (fun s7 h=>?_) (fun s7 h=>?_)
   ·refine T.region (oN mv (jW h fun g30 h=>oN (LA.add Z Z g30) (oN as' (TO.nil ?_))));exact lE h (kw Z Z)
   ·refine T.block (T.sr (oN mv (oN mv (oC h (fun _=>nV _ _ _) Z Z Z Z fun v8 _ h=>oN as' (TO.nil ?_)))));refine T.jU h (fun s9=>[(7,I v8),(6,I s4.1),(5,I s9),(0,eL (cL LD.c) p),(1,I most)]) (fun s9=>[]) (fun s9 h=>?_) (fun s9 h=>?_)
    ·refine T.sr (oN as' (TO.nil (T.block ?_)));refine T.lU h (fun s23=>[(9,I s23.1),(7,I v8),(6,I s4.1),(5,I s23.2),(0,eL (cL LD.c) p),(1,I most)]) (fun s23=>[]) (kw Z Z) (fun s23 ws23 h=>?_);refine T.seq (T.sr (oN mv (oN mv (oN (LA.ile Z Z) (oN mv ?_)))));refine TO.jB h 4 (fun s25=>[(40,Bo s25),(9,I s23.1),(7,I v8),(6,I s4.1),(5,I s23.2),(0,eL (cL LD.c) p),(1,I most)]) (fun s25=>[]) (fun s25 q26 h js25=>?_) (fun s25 q26 h js25=>?_) (fun s25 h=>?_)
     ·refine gN Z q26 mv (gN Z q26 mv (gN Z q26 (LA.ile Z Z) (oN (LA.pickT Z q26 (Bo (decide (s23.2<=most))) Z) ?_)))
      cases h
      exact js25 _ _ (kw Z Z)
     ·refine gS Z q26 (gS Z q26 (gS Z q26 (oN (LA.pickF Z q26 (Bo false) Z) ?_)))
      cases h
      exact js25 _ _ (kw Z Z)
     ·refine TO.nil ?_;refine T.ifH Z h (fun q27 h=>?_) (fun q27 h=>?_)
      ·refine T.skip (T.seq (T.block (T.region (oN mv (oN mv (jW h fun g28 h=>oN (LA.mul Z Z g28) (oN as' (TO.nil (T.region (oN mv (jW h fun g29 h=>oN (LA.add Z Z g29) (oN as' (TO.nil ?_)))))))))))));exact lE h (kw Z Z)
      ·refine T.exit (lX h fun h=>?_)
       cases h
       exact ⟨(),trivial,kw Z Z⟩
    ·refine T.sr (oN as' (TO.nil (T.block ?_)));refine T.lU h (fun s12=>[(8,I s12.1),(7,I v8),(6,I s4.1),(5,I s12.2),(0,eL (cL LD.c) p),(1,I most)]) (fun s12=>[]) (kw Z Z) (fun s12 ws12 h=>?_);refine T.seq (T.sr (oN mv (oN mv (oN mv (oC h (fun _=>nV _ _ _) Z Z Z Z fun v14 _ h=>oN (LA.ilt Z Z) (oN mv ?_))))));refine TO.jB h 4 (fun s15=>[(26,Bo s15),(8,I s12.1),(7,I v8),(6,I s4.1),(5,I s12.2),(0,eL (cL LD.c) p),(1,I most)]) (fun s15=>[]) (fun s15 q16 h js15=>?_) (fun s15 q16 h js15=>?_) (fun s15 h=>?_)
     ·refine gN Z q16 mv (gN Z q16 mv (gN Z q16 (LA.ile Z Z) (oN (LA.pickT Z q16 (Bo (decide (s12.2<=most))) Z) ?_)))
      cases h
      exact js15 _ _ (kw Z Z)
     ·refine gS Z q16 (gS Z q16 (gS Z q16 (oN (LA.pickF Z q16 (Bo false) Z) ?_)))
      cases h
      exact js15 _ _ (kw Z Z)
     ·refine TO.nil ?_;refine T.ifH Z h (fun q17 h=>?_) (fun q17 h=>?_)
      ·refine T.skip (T.seq (T.block (T.region (oN mv (oN mv (jW h fun g18 h=>oN (LA.add Z Z g18) (jW h fun g19 h=>oN (LA.mul Z Z g19) (oN as' (TO.nil (T.region (oN mv (jW h fun g20 h=>oN (LA.add Z Z g20) ?_))))))))))));refine oN as' (TO.nil ?_);exact lE h (kw Z Z)
      ·refine T.exit (lX h fun h=>?_)
       cases h
       exact ⟨(),trivial,kw Z Z⟩
  ·refine T.exit (lX h fun h=>?_)
   cases h
   exact ⟨(),trivial,kw Z Z⟩
theorem uw (r_:ae) (ver0:Nat) {q:ae×(List (List LD))} (h:jX r_=some q):eM Tryz.prog 41 [.hp 0 ver0 2 0 0] [some ⟨ver0,2,103,[(ae.c r_)]⟩] (eL (cL LD.c) q.2) [some ⟨ver0,2,103,[(ae.c q.1)]⟩]:=by
 refine aM Tryz.func41 Z (by kernel_rfl) Z (T.sr (oN as' (TO.nil (T.sr (oN mv (jB h fun v1 cv1 h=>oA (EvA.call Z Z Z ((wE (⟨r_.b,r_.p⟩:ae) ver0 cv1).one 0 Z (.cons (.hp Z) .nil) (aj Z) (aj Z) Z)) (oN as' (TO.nil (T.seq (T.sr (oN mv (oC h (fun _=>uu _ _) Z Z Z Z fun v2 _ h=>oN (LA.ile Z Z) (TO.nil ?_)))))))))))));refine T.ifH Z h (fun q3 h=>?_) (fun q3 h=>?_)
 ·refine T.sr (oN mv (oN as' (TO.nil (T.ret ?_))));obtain rfl:=LC h
  repeat (first|refine fD ?_|refine fE ?_)
  exact ⟨ah [(2,eL (cL LD.c) v1.2)],[some ⟨ver0,2,103,[(ae.c (⟨v1.1.b,v1.1.p⟩:ae))]⟩],kw Z Z,Fin.ret (vs:=[eL (cL LD.c) v1.2]) (.cons (.tmp Z) .nil) ⟨Z,Z⟩⟩
 ·refine T.skip (T.sr (oC h (fun _=>ko _) Z Z Z Z fun v4 _ h=>oN mv (oN (LA.ext (eL (cL LD.c) v4.1) Z Z) (oN (LA.ext (Bo v4.2) Z Z) (oN as' (oN as' (TO.nil (T.sr (oN mv (oN as' (TO.nil (T.ret ?_))))))))))));obtain rfl:=LC h
  repeat (first|refine fD ?_|refine fE ?_)
  exact ⟨ah [(2,eL (cL LD.c) v4.1)],[some ⟨ver0,2,103,[(ae.c (⟨v1.1.b,v1.1.p⟩:ae))]⟩],kw Z Z,Fin.ret (vs:=[eL (cL LD.c) v4.1]) (.cons (.tmp Z) .nil) ⟨Z,Z⟩⟩
theorem n8 (code:LI) {q:(List (List LD))} (h:dP code=some q):aA Tryz.prog 15 [eL cY code] (eL (cL LD.c) q):=by
 refine pM Tryz.func15 Z (by kernel_rfl) Z (T.sr (oN as' (TO.nil (T.sr (oN mv (jB h fun v1 cv1 h=>oA (EvA.call Z Z Z ((ug code cv1).fresh Z (aj Z) 0 Z)) (oN as' (TO.nil (T.sr (oN mv (oN mv (jB h fun v2 cv2 h=>oA (EvA.call Z Z Z ((uw (⟨v1.b,v1.p⟩:ae) 0 cv2).one 0 Z (.cons (.hp Z) .nil) (aj Z) (aj Z) Z)) (jB h fun v3 cv3 h=>?_)))))))))))));refine oA (EvA.call Z Z Z ((sW (⟨v2.1.b,v2.1.p⟩:ae) v2.2 0 cv3).one 0 Z (.cons (.hp Z) (.cons (.pF Z) .nil)) (aj Z) (aj Z) Z)) (oN as' (TO.nil (T.ret ?_)))
 cases h
 exact cH Z Z Z
theorem o9 (a:LI) (b:LI) {q:Bool} (h:ju a b=some q):aA Tryz.prog 42 [eL cI a,eL cI b] (Bo q):=by
 refine pM Tryz.func42 Z (by kernel_rfl) Z (T.sr (oN as' (TO.nil (T.seq (T.sr (oN mv (oN (LA.lenL bF Z) (oN mv (oN (LA.lenL bF Z) (oN (LA.ine Z Z) (TO.nil ?_)))))))))));refine T.ifH Z h (fun q1 h=>?_) (fun q1 h=>?_)
 ·refine T.sr (oN as' (TO.nil (T.ret ?_)))
  cases h
  exact cH Z Z Z
 ·refine T.skip ?_;obtain ⟨Ks2,es2,ws2,h,ks2⟩:=sumL h;refine T.join (S:=Unit) (G:=Unit) (fun s2=>Ks2 s2=some q) (fun s2 gh=>True) (fun s2 gh=>[]) (fun s2 gh=>[]) (fun s2 gh h hg=>?_) ?_
  ·clear ks2;subst es2;refine T.sr (oN as' (TO.nil (T.ret ?_)))
   cases h
   exact cH Z Z Z
  ·refine T.sr (oN as' (TO.nil (T.block ?_)));refine T.lU h (fun s5=>[(5,I s5),(0,eL cI a),(1,eL cI b)]) (fun s5=>[]) (kw Z Z) (fun s5 ws5 h=>?_);refine T.seq (T.sr (oN mv (oN mv (oN (LA.lenL bF Z) (oN (LA.ilt Z Z) (TO.nil ?_))))));refine T.ifH Z h (fun q7 h=>?_) (fun q7 h=>?_)
   ·refine T.skip (T.seq (T.block (T.seq (T.drawF (fun _=>([],false)) (by kernel_rfl) (by kernel_rfl) (fN Z mv (fN Z mv (jD h fun g8 h=>fN Z (LA.ixL bF Z Z g8 (fun _=>Z)) (fN Z (lf (I (J a s5)) LS Z) (fN Z mv (fN Z mv (jD h fun g9 h=>fN Z (LA.ixL bF Z Z g9 (fun _=>Z)) (fN Z (lf (I (J b s5)) LS Z) (fN Z (LA.ine Z Z) ?_)))))))))))));refine TF.nil ?_;refine T.ifH Z h (fun q10 h=>?_) (fun q10 h=>?_)
    ·refine T.seq (T.clean (H0:=[]) (e0:=ah []) Z Lx (T.region (oN as' (TO.nil (T.ret (lX h fun h=>?_))))));obtain rfl:=LC h;replace h:=congrArg some (show _=_ from ks2)
     cases h
     exact cH Z Z Z
    ·refine T.skip (T.region (oN mv (jW h fun g11 h=>oN (LA.add Z Z g11) (oN as' (TO.nil ?_)))));exact lE h (kw Z Z)
   ·refine T.exit (lX h fun h=>?_)
    cases h
    exact ⟨(),(),ks2,trivial,kw Z Z⟩
theorem uy (a:LL) (b:LL) {q:Bool} (h:jY a b=some q):aA Tryz.prog 16 [eL (cL cI) a,eL (cL cI) b] (Bo q):=by
 refine pM Tryz.func16 Z (by kernel_rfl) Z (T.sr (oN as' (TO.nil (T.seq (T.sr (oN mv (oN (LA.lenL cg Z) (oN mv (oN (LA.lenL cg Z) (oN (LA.ine Z Z) (TO.nil ?_)))))))))));refine T.ifH Z h (fun q1 h=>?_) (fun q1 h=>?_)
 ·refine T.sr (oN as' (TO.nil (T.ret ?_)))
  cases h
  exact cH Z Z Z
 ·refine T.skip ?_;obtain ⟨Ks2,es2,ws2,h,ks2⟩:=sumL h;refine T.join (S:=Unit) (G:=Unit) (fun s2=>Ks2 s2=some q) (fun s2 gh=>True) (fun s2 gh=>[]) (fun s2 gh=>[]) (fun s2 gh h hg=>?_) ?_
  ·clear ks2;subst es2;refine T.sr (oN as' (TO.nil (T.ret ?_)))
   cases h
   exact cH Z Z Z
  ·refine T.sr (oN as' (TO.nil (T.block ?_)));refine T.lU h (fun s5=>[(5,I s5),(0,eL (cL cI) a),(1,eL (cL cI) b)]) (fun s5=>[]) (kw Z Z) (fun s5 ws5 h=>?_);refine T.seq (T.sr (oN mv (oN mv (oN (LA.lenL cg Z) (oN (LA.ilt Z Z) (TO.nil ?_))))));refine T.ifH Z h (fun q7 h=>?_) (fun q7 h=>?_)
   ·refine T.skip (T.seq (T.block (T.seq (T.drawF (fun _=>([],false)) (by kernel_rfl) (by kernel_rfl) (fN Z mv (fN Z mv (jD h fun g8 h=>fN Z (LA.ixL cg Z Z g8 (fun _=>Z)) (fN Z (lf (eL cI (J a s5)) kQ Z) (fN Z mv (fN Z mv (jD h fun g9 h=>fN Z (LA.ixL cg Z Z g9 (fun _=>Z)) (fN Z (lf (eL cI (J b s5)) kQ Z) (fC h (fun _=>o9 _ _) Z Z Z Z Z fun v10 _ h=>?_)))))))))))));refine fN Z (LA.not Z) (TF.nil ?_);refine T.ifH Z h (fun q11 h=>?_) (fun q11 h=>?_)
    ·refine T.seq (T.clean (H0:=[]) (e0:=ah []) Z Lx (T.region (oN as' (TO.nil (T.ret (lX h fun h=>?_))))));obtain rfl:=LC h;replace h:=congrArg some (show _=_ from ks2)
     cases h
     exact cH Z Z Z
    ·refine T.skip (T.region (oN mv (jW h fun g12 h=>oN (LA.add Z Z g12) (oN as' (TO.nil ?_)))));exact lE h (kw Z Z)
   ·refine T.exit (lX h fun h=>?_)
    cases h
    exact ⟨(),(),ks2,trivial,kw Z Z⟩
theorem l5 (list:LL) (o_:LI) {q:Bool} (h:fB list o_=some q):aA Tryz.prog 19 [eL (cL cI) list,eL cI o_] (Bo q):=by
 refine pM Tryz.func19 Z (by kernel_rfl) Z (T.sr (oN as' (TO.nil ?_)));obtain ⟨Ks1,es1,ws1,h,ks1⟩:=sumL h;refine T.join (S:=Unit) (G:=Unit) (fun s1=>Ks1 s1=some q) (fun s1 gh=>True) (fun s1 gh=>[]) (fun s1 gh=>[]) (fun s1 gh h hg=>?_) ?_
 ·clear ks1;subst es1;refine T.sr (oN as' (TO.nil (T.ret ?_)))
  cases h
  exact cH Z Z Z
 ·refine T.sr (oN as' (TO.nil (T.block ?_)));refine T.lU h (fun s4=>[(5,I s4),(0,eL (cL cI) list),(1,eL cI o_)]) (fun s4=>[]) (kw Z Z) (fun s4 ws4 h=>?_);refine T.seq (T.sr (oN mv (oN mv (oN (LA.lenL cg Z) (oN (LA.ilt Z Z) (TO.nil ?_))))));refine T.ifH Z h (fun q6 h=>?_) (fun q6 h=>?_)
  ·refine T.skip (T.seq (T.block (T.sr (oN mv (oN mv (jD h fun g7 h=>oN (LA.ixL cg Z Z g7 (fun _=>Z)) (oN (lf (eL cI (J list s4)) kQ Z) (oN mv (oC h (fun _=>o9 _ _) Z Z Z Z fun v8 _ h=>TO.nil ?_)))))))));refine T.ifH Z h (fun q9 h=>?_) (fun q9 h=>?_)
   ·refine T.sr (oN as' (TO.nil (T.ret (lX h fun h=>?_))));obtain rfl:=LC h;replace h:=congrArg some (show _=_ from ks1)
    cases h
    exact cH Z Z Z
   ·refine T.skip (T.region (oN mv (jW h fun g10 h=>oN (LA.add Z Z g10) (oN as' (TO.nil ?_)))));exact lE h (kw Z Z)
  ·refine T.exit (lX h fun h=>?_)
   cases h
   exact ⟨(),(),ks1,trivial,kw Z Z⟩
theorem tH (a:LL) (b:LL) {q:Bool} (h:jv a b=some q):aA Tryz.prog 20 [eL (cL cI) a,eL (cL cI) b] (Bo q):=by
 refine pM Tryz.func20 Z (by kernel_rfl) Z (T.sr (oN as' (TO.nil ?_)));obtain ⟨Ks1,es1,ws1,h,ks1⟩:=sumL h;refine T.join (S:=Unit) (G:=Unit) (fun s1=>Ks1 s1=some q) (fun s1 gh=>True) (fun s1 gh=>[]) (fun s1 gh=>[]) (fun s1 gh h hg=>?_) ?_
 ·clear ks1;subst es1;refine T.sr (oN as' (TO.nil (T.ret ?_)))
  cases h
  exact cH Z Z Z
 ·refine T.sr (oN as' (TO.nil (T.block ?_)));refine T.lU h (fun s4=>[(5,I s4),(0,eL (cL cI) a),(1,eL (cL cI) b)]) (fun s4=>[]) (kw Z Z) (fun s4 ws4 h=>?_);refine T.seq (T.sr (oN mv (oN mv (oN (LA.lenL cg Z) (oN (LA.ilt Z Z) (TO.nil ?_))))));refine T.ifH Z h (fun q6 h=>?_) (fun q6 h=>?_)
  ·refine T.skip (T.seq (T.block (T.sr (oN mv (oN mv (oN mv (jD h fun g7 h=>oN (LA.ixL cg Z Z g7 (fun _=>Z)) (oN (lf (eL cI (J a s4)) kQ Z) (oC h (fun _=>l5 _ _) Z Z Z Z fun v8 _ h=>oN (LA.not Z) (TO.nil ?_))))))))));refine T.ifH Z h (fun q9 h=>?_) (fun q9 h=>?_)
   ·refine T.sr (oN as' (TO.nil (T.ret (lX h fun h=>?_))));obtain rfl:=LC h;replace h:=congrArg some (show _=_ from ks1)
    cases h
    exact cH Z Z Z
   ·refine T.skip (T.region (oN mv (jW h fun g10 h=>oN (LA.add Z Z g10) (oN as' (TO.nil ?_)))));exact lE h (kw Z Z)
  ·refine T.exit (lX h fun h=>?_)
   cases h
   exact ⟨(),(),ks1,trivial,kw Z Z⟩
theorem mV (code:LI) {q:Bool} (h:bP code=some q):aA Tryz.prog 4 [eL cY code] (Bo q):=by
 refine pM Tryz.func4 Z (by kernel_rfl) Z (T.sr (oN as' (TO.nil (T.seq (T.sr (oN mv (oN (LA.lenL yX Z) (oN (LA.igt Z Z) (TO.nil ?_)))))))));refine T.ifH Z h (fun q1 h=>?_) (fun q1 h=>?_)
 ·refine T.sr (oN as' (TO.nil (T.ret ?_)))
  cases h
  exact cH Z Z Z
 ·refine T.skip (T.sr (oN mv (oC h (fun _=>n8 _) Z Z Z Z fun v2 _ h=>oN as' (TO.nil (T.sr (oN mv (oC h (fun _=>rM _) Z Z Z Z fun v3 _ h=>oN as' (TO.nil (T.seq (T.sr (oN mv (oN mv (oC h (fun _=>rP _) Z Z Z Z fun v4 _ h=>?_)))))))))))));refine oC h (fun _=>uy _ _) Z Z Z Z fun v5 _ h=>oN (LA.not Z) (TO.nil ?_);refine T.ifH Z h (fun q6 h=>?_) (fun q6 h=>?_)
  ·refine T.seq (T.clean (H0:=[]) (e0:=ah []) Z Lx (T.region (oN as' (TO.nil (T.ret ?_)))))
   cases h
   exact cH Z Z Z
  ·refine T.skip (T.sr (oN mv (oC h (fun _=>wu _) Z Z Z Z fun v7 _ h=>oN as' (TO.nil (T.seq (T.clean (H0:=[]) (e0:=ah [(5,eL (cL cI) v7),(4,eL (cL cI) v3),(3,eL (cL LD.c) v2)]) Z (Ly Z (Ly Z (Ly Z Lx))) (T.region (oA (EvA.mkO (c:=(cL cI)) ([]:LL) [] cg Z Z Z (fun _=>Z) Z Z) (oN (LA.asg (hS false 0 0 1 (([]:LL).length)) Z) (TO.nil ?_))))))))));obtain ⟨Ks8,es8,ws8,h,ks8⟩:=sumL h;refine T.join (S:=(LL)) (G:=Nat) (fun s8=>Ks8 s8=some q) (fun s8 gh=>True) (fun s8 gh=>[(6,hS false 0 gh 1 s8.length),(5,eL (cL cI) v7)]) (fun s8 gh=>[bE false gh 1 35 (s8.map (cL cI))]) (fun s8 u24 h hg=>?_) ?_
   ·clear ks8;subst es8;refine T.sr (oN mv (oN mv (jB h fun v25 cv25 h=>oA (EvA.callT Z Z (tH v7 s8 cv25) (.cons (.of_isF 9 _ Z) (.cons (Fz.own (g:=false) (ver:=u24) (l:=s8) Z Z Z nofun (fun _=>Z)) .nil)) Z) (oN as' (TO.nil (T.ret ?_))))))
    cases h
    exact cH Z Z Z
   ·refine T.sr (oN as' (TO.nil (T.block ?_)));refine T.loop (S:=(LL)×Int) (G:=Nat) (bN v2 v3 v7) (fun s12 gh=>True) (fun s12 gh=>[(7,I s12.2),(6,hS false 0 gh 1 s12.1.length),(5,eL (cL cI) v7),(4,eL (cL cI) v3),(3,eL (cL LD.c) v2)]) (fun s12 gh=>[bE false gh 1 35 (s12.1.map (cL cI))]) (s0:=(([]:LL),U)) 0 h trivial (kw Z Z) (fun s12 u14 ws12 h hg=>?_);refine T.seq (T.sr (oN mv (oN mv (oN (LA.lenL cg Z) (oN (LA.ilt Z Z) (TO.nil ?_))))));refine T.ifH Z h (fun q15 h=>?_) (fun q15 h=>?_)
    ·refine T.skip (T.seq (T.block (T.sr (oN mv (oN mv (oN mv (jD h fun g16 h=>oN (LA.ixL cg Z Z g16 (fun _=>Z)) (oN (lf (eL cI (J v3 s12.2)) kQ Z) (oC h (fun _=>pV _ _) Z Z Z Z fun v17 _ h=>oN mv (oN (LA.ext (eL cI v17.1) Z Z) (oN (LA.ext (Bo v17.2) Z Z) (oN as' (oN as' ?_)))))))))))));refine TO.nil (T.seq (T.sr (oN mv (oN (LA.not Z) (oN mv ?_)))));refine TO.jB h 5 (fun s18=>[(47,Bo s18),(8,eL cI v17.1),(7,I s12.2),(6,hS false 0 u14 1 s12.1.length),(5,eL (cL cI) v7),(4,eL (cL cI) v3),(3,eL (cL LD.c) v2)]) (fun s18=>[bE false u14 1 35 (s12.1.map (cL cI))]) (fun s18 q19 h js18=>?_) (fun s18 q19 h js18=>?_) (fun s18 h=>?_)
     ·refine gS Z q19 (gS Z q19 (gS Z q19 (gS Z q19 (oN (LA.pickT Z q19 (Bo true) Z) ?_))))
      cases h
      exact js18 _ _ (kw Z Z)
     ·refine gN Z q19 mv (gN Z q19 mv (jB h fun v20 cv20 h=>gN Z q19 (LA.call Z Z Z (l5 v7 v17.1 cv20) Z) (gN Z q19 (LA.not Z) (oN (LA.pickF Z q19 (Bo (!v20)) Z) ?_))))
      cases h
      exact js18 _ _ (kw Z Z)
     ·refine TO.nil ?_;refine T.ifH Z h (fun q21 h=>?_) (fun q21 h=>?_)
      ·refine T.sr (oN as' (TO.nil (T.ret (lX h fun h=>?_))));obtain rfl:=LC h;replace h:=congrArg some (show _=_ from ks8)
       cases h
       exact cH Z Z Z
      ·refine T.skip (T.region (oN mv (oN mv (oN (LA.mkF (c:=(cL cI)) ([v17.1]:LL) [[eL cI v17.1]] cg Z Z Z (fun _=>Z) (fun _=>Z) Z) (jL h fun g22 h=>oA (EvA.app1 (g:=false) (l:=s12.1) v17.1 cg (by kernel_rfl) Z Z Z nofun (aJ.fz (l:=([v17.1]:LL)) Z (fun _=>Z)) g22) (oN (LA.asg (hS false 0 (u14+1) 1 ((s12.1++[v17.1]).length)) Z) (TO.nil (T.region (oN mv (jW h fun g23 h=>oN (LA.add Z Z g23) (oN as' (TO.nil ?_))))))))))));obtain rfl:=LC h;exact ⟨((s12.1++[v17.1]),(s12.2+V)),u14+1,Z,trivial,kw Z Z⟩
    ·refine T.exit (lX h fun h=>?_);obtain rfl:=LC h;exact ⟨s12.1,u14,ks8,trivial,kw Z Z⟩
open Go.ChangeShapes Go.WideShapes Go.ChangeAt Go.RowKit
theorem Jr {y:Int} (h:(Lit.int .u8 y).wf=true):0<=y/\y<=255:=by
 simp only [Lit.wf,bae,decide_eq_true_eq] at h;exact ⟨h.1,h.2⟩
theorem Js {b:LI} (hb:∀ y∈b,(Lit.int .u8 y).wf=true):bP b=some true:=by
 by_cases h:(1048576:Int)<(b.length:Int)
 ·unfold bP;exact FV (decide_eq_true h) rfl
 ·exact KW ⟨by omega,fun y hy=>Jr (hb y hy)⟩
theorem lawr_FnTraceOutcomes {w:World} (v:Value) (xs:LI) (h:Sl Db 1 w 0 w.heap.size v xs) (hw:∀ y∈xs,(Lit.int .u8 y).wf=true) :
  Calls Tryz.prog 4 #[v] w fun e w'=>e = .returned (.bool true)/\Below w.heap.size w w':=
 BC (mV xs (Js hw)) rfl (K5 (DF h))
namespace fnTraceOutcomes
theorem own:ownKnob Tryz.prog.godebug=none:=by kernel_rfl
theorem laidOut:laidOutB Tryz.prog=true:=by kernel_rfl
theorem F8:([33].all fun t=>Tryz.prog.readableRec t&&decide (t<Tryz.prog.types.size))=true:=by kernel_rfl
theorem readable:∀ t∈([33]:List TypeId),Tryz.prog.readableRec t=true/\t<Tryz.prog.types.size:=fun t ht=>by
 have := List.all_eq_true.1 F8 t ht;simpa using this
theorem lifted (os:Os) (started:os.Started) (H:Type) (enc:TypeId×Value->H) :
  ReturnsInHanded {} Tryz.checked os 4 .any (Rows.fnTraceOutcomesSpec.pre6 enc Tryz.prog Tryz.f4 Rows.fnTraceOutcomesRow.domain false) (Rows.fnTraceOutcomesSpec.post enc Tryz.prog Tryz.f4 false true false false):=by
 refine returnsInHanded_of_change (C:=Tryz.checked) own started (by kernel_rfl) Tryz.func4
  (ChangeSpec.witness6 (enc:=enc) (C:=Tryz.checked) false ⟨#[],#[.slice none 0 0],[]⟩ 8 (by kernel_rfl) (by kernel_rfl) (by kernel_rfl) (by kernel_rfl)) ?_
 intro W base args ds gs before hval0 hW hcnd _;have hval:∀ (j:Nat) t v,Tryz.f4.params[j]? = some t->args[j]? = some v->Value.okWide Tryz.prog W .any base t v:=hval0;have hW':=hW;obtain ⟨p,q,hA0,hV,rfl,hfz,hnd⟩:=hW;have hA:DataW.TrodAll enc Tryz.prog W 0 (fun _=>true) true Tryz.f4.params.toList args.toList ds p:=hA0;rw [Tryz.params4] at hA hval;have hA1:=hA;obtain ⟨v0,vs0,d0,ds0,p0,q0,hargs0,rfl,rfl,h0,r0⟩:=trodAll_cons hA;obtain ⟨rfl,rfl,rfl⟩:=trodAll_nil r0;obtain rfl:args = #[v0]:=by cases args;simp_all
 obtain ⟨rfl,rfl⟩:=trodVars_none hV;obtain ⟨a0,w0,g0⟩:∃ xs:LI,Sl Db 1 W 0 W.heap.size v0 xs/\∀ y∈xs,(Lit.int .u8 y).wf=true:=by
  obtain ⟨fuel,hf⟩:=h0;obtain ⟨v,hv,p,hp,hg⟩:=Ht (f:=Db) (s:=1) (by kernel_rfl) (by omega) Tryz.underlying33 (fun fuel cs x h=>Kn Tryz.underlying5 fuel cs x h) hf;rw [one_cell hv (okWide_slice Tryz.underlying33 (hval 0 33 v0 rfl rfl))];exact ⟨p,hp,hg⟩
 clear hA0 hval0;simp only [List.append_nil] at hW';have hlt:=fun x hx=>hW'.lt x hx;refine (lawr_FnTraceOutcomes v0 a0 w0 g0).mono fun e W' ⟨he,hg⟩ => ?_;subst he;exact ⟨_,rfl,yS (pv:=[]) hW' (fun _ _ _=>trodAll_cons_mk (shut_bool Tryz.underlying4 _) trodAll_mk0) (fun sp hsp=>rH laidOut hg _ _ _ _ readable hA1 (by simpa using hlt) (by simpa using hsp)) (fun _ _=>rfl) (by simp)
  hg (ok_one (by kernel_rfl) rfl (okWide_bool_mk Tryz.underlying4 _))⟩
theorem over:Rows.fnTraceOutcomesRow.holds Tryz.pinned (OpenSpec.ofChange Rows.fnTraceOutcomesSpec):=
 OpenClaim.holds_of_wide 4 Tryz.f4 rfl rfl rfl rfl rfl rfl rfl ⟨rfl,rfl,rfl,rfl,rfl⟩ rfl rfl rfl rfl rfl (by kernel_rfl) Tryz.func4 (by kernel_rfl)
  (of_decide_eq_true (by kernel_rfl)) (by unfold Func.isWrapper;first | (rw [if_pos (by decide +kernel)];kernel_rfl) | (rw [if_neg (by decide +kernel)];exact ⟨rfl,rfl⟩))
  (fun os started H enc _=>lifted os started H enc)
theorem proved:Rows.FnTraceOutcomesSaid:=over
end fnTraceOutcomes
end
end Go.Proofs.YtlmjnhnpahicmaaGreat
