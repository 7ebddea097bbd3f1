/- Texts joined. No conditions. -/
import Derived.OpenShut
import Derived.Test.YtlmjnhnpahicmaaGreatW13
namespace Go.Proofs.YtlmjnhnpahicmaaGreat
noncomputable section
open Go.RowKit
set_option maxRecDepth 100000
theorem ul {q:(List ByteArray)} (h:fo=some q):aB Tryz.prog 105 [] (eL cS q):=by
 refine aB.mkT Tryz.func105 Z (by kernel_rfl) Z (by kernel_rfl) (e0:=ai []) LY (T.sr (oN as' (TO.nil (T.sr (oN (L6.mkF (c:=cS) ([(⟨#[120,61,49,59,97,61,121,124,121,61,49,59,97,61,120]⟩:ByteArray),(⟨#[120,61,49,59,102,101,110,99,101,59,97,61,121,124,121,61,49,59,102,101,110,99,101,59,97,61,120]⟩:ByteArray),(⟨#[120,61,49,59,121,61,49,124,97,61,121,59,98,61,120]⟩:ByteArray),(⟨#[120,61,49,59,121,61,49,124,97,61,121,59,102,101,110,99,101,59,98,61,120]⟩:ByteArray),(⟨#[120,61,49,59,102,101,110,99,101,59,121,61,49,124,97,61,121,59,98,61,120]⟩:ByteArray),(⟨#[97,61,120,59,121,61,49,124,97,61,121,59,120,61,49]⟩:ByteArray),(⟨#[97,61,120,59,121,61,97,124,97,61,121,59,120,61,97]⟩:ByteArray),(⟨#[120,61,49,124,120,61,50,124,97,61,120,59,98,61,120]⟩:ByteArray),(⟨#[120,61,49,124,121,61,49,124,97,61,120,59,98,61,121,124,97,61,121,59,98,61,120]⟩:ByteArray),(⟨#[120,61,49,124,97,61,120,59,121,61,49,124,97,61,121,59,98,61,120]⟩:ByteArray),(⟨#[120,61,49,124,121,61,49,124,97,61,120,59,98,61,121]⟩:ByteArray),(⟨#[97,61,120,58,49,124,97,61,120,58,50,124,120,61,51]⟩:ByteArray),(⟨#[120,61,49,59,97,61,120,59,98,61,121,124,121,61,49,59,97,61,121,59,98,61,120]⟩:ByteArray),(⟨#[120,61,50,59,121,61,49,124,121,61,50,59,120,61,49]⟩:ByteArray),(⟨#[97,61,120,58,49,59,98,61,121,124,97,61,121,58,49,59,98,61,120]⟩:ByteArray),(⟨#[120,61,49,59,120,61,50,124,97,61,120,59,98,61,120]⟩:ByteArray),(⟨#[120,61,49,59,121,61,49,59,97,61,122,124,122,61,49,59,97,61,121,59,98,61,120]⟩:ByteArray),(⟨#[97,61,120,58,49,124,98,61,120,58,49]⟩:ByteArray),(⟨#[102,101,110,99,101]⟩:ByteArray),(⟨#[]⟩:ByteArray),(⟨#[120,61,49,59,97,61,121,124,121,61,49,59,102,101,110,99,101,59,97,61,120]⟩:ByteArray)]:List ByteArray) [[St (⟨#[120,61,49,59,97,61,121,124,121,61,49,59,97,61,120]⟩:ByteArray)],[St (⟨#[120,61,49,59,102,101,110,99,101,59,97,61,121,124,121,61,49,59,102,101,110,99,101,59,97,61,120]⟩:ByteArray)],[St (⟨#[120,61,49,59,121,61,49,124,97,61,121,59,98,61,120]⟩:ByteArray)],[St (⟨#[120,61,49,59,121,61,49,124,97,61,121,59,102,101,110,99,101,59,98,61,120]⟩:ByteArray)],[St (⟨#[120,61,49,59,102,101,110,99,101,59,121,61,49,124,97,61,121,59,98,61,120]⟩:ByteArray)],[St (⟨#[97,61,120,59,121,61,49,124,97,61,121,59,120,61,49]⟩:ByteArray)],[St (⟨#[97,61,120,59,121,61,97,124,97,61,121,59,120,61,97]⟩:ByteArray)],[St (⟨#[120,61,49,124,120,61,50,124,97,61,120,59,98,61,120]⟩:ByteArray)],[St (⟨#[120,61,49,124,121,61,49,124,97,61,120,59,98,61,121,124,97,61,121,59,98,61,120]⟩:ByteArray)],[St (⟨#[120,61,49,124,97,61,120,59,121,61,49,124,97,61,121,59,98,61,120]⟩:ByteArray)],[St (⟨#[120,61,49,124,121,61,49,124,97,61,120,59,98,61,121]⟩:ByteArray)],[St (⟨#[97,61,120,58,49,124,97,61,120,58,50,124,120,61,51]⟩:ByteArray)],[St (⟨#[120,61,49,59,97,61,120,59,98,61,121,124,121,61,49,59,97,61,121,59,98,61,120]⟩:ByteArray)],[St (⟨#[120,61,50,59,121,61,49,124,121,61,50,59,120,61,49]⟩:ByteArray)],[St (⟨#[97,61,120,58,49,59,98,61,121,124,97,61,121,58,49,59,98,61,120]⟩:ByteArray)],[St (⟨#[120,61,49,59,120,61,50,124,97,61,120,59,98,61,120]⟩:ByteArray)],[St (⟨#[120,61,49,59,121,61,49,59,97,61,122,124,122,61,49,59,97,61,121,59,98,61,120]⟩:ByteArray)],[St (⟨#[97,61,120,58,49,124,98,61,120,58,49]⟩:ByteArray)],[St (⟨#[102,101,110,99,101]⟩:ByteArray)],[St (⟨#[]⟩:ByteArray)],[St (⟨#[120,61,49,59,97,61,121,124,121,61,49,59,102,101,110,99,101,59,97,61,120]⟩:ByteArray)]] vW Z Z Z (fun _=>Z) (fun _=>Z) Z) ?_)))));refine oN as' (TO.nil (T.ret ?_))
 cases h
 exact cu Z Z Z
theorem oU (s:ByteArray) (c:Int) {q:(List ByteArray)} (h:jg s c=some q):aB Tryz.prog 108 [St s,Y c] (eL cS q):=by
 refine pM Tryz.func108 Z (by kernel_rfl) Z (T.sr (oN as' (TO.nil (T.sr (oA (EvA.mkO (c:=cS) ([]:List ByteArray) [] vW Z Z Z (fun _=>Z) Z Z) (oN (L6.asg (hS false 0 0 1 (([]:List ByteArray).length)) Z) (TO.nil (T.sr (oN as' (TO.nil ?_))))))))));refine T.jF (G:=Nat) h (fun s1 gh=>True) (fun s1 gh=>[(5,hS false 0 gh 1 s1.length)]) (fun s1 gh=>[bE false gh 1 9 (s1.map cS)]) (fun s1 u19 h hg=>?_) (fun s1 h=>?_)
 ·refine T.sr (oN mv (oN (L6.asg (hS false 0 u19 1 s1.length) Z) (TO.nil (T.ret ?_))));obtain rfl:=L9 h
  repeat (first|refine fE ?_|refine fF ?_)
  exact Fin.ret (vs:=[hS false 0 u19 1 s1.length]) (.cons (.tmp Z) .nil) (Fz.own (g:=false) (ver:=u19) (l:=s1) Z Z Z nofun (fun _=>Z))
 ·refine T.sr (oN as' (TO.nil (T.block ?_)));refine T.loop (S:=(List ByteArray)×Int×Int) (G:=Nat) (ig s c) (fun s5 gh=>True) (fun s5 gh=>[(7,I s5.2.1),(6,I s5.2.2),(5,hS false 0 gh 1 s5.1.length),(0,St s),(1,Y c)]) (fun s5 gh=>[bE false gh 1 9 (s5.1.map cS)]) (s0:=(([]:List ByteArray),U,U)) 0 h trivial (kw Z Z) (fun s5 u7 ws5 h hg=>?_);refine T.seq (T.sr (oN mv (oN mv (oN (L6.lenst Tryz.underlying9 Z) (oN (L6.ile Z Z) (TO.nil ?_))))));refine T.ifH Z h (fun q8 h=>?_) (fun q8 h=>?_)
  ·refine T.skip ?_;refine T.jF (G:=Nat) h (fun s9 gh=>True) (fun s9 gh=>[(6,I s9.2),(5,hS false 0 gh 1 s9.1.length),(7,I s5.2.1),(0,St s),(1,Y c)]) (fun s9 gh=>[bE false gh 1 9 (s9.1.map cS)]) (fun s9 u17 h hg=>?_) (fun s9 h=>?_)
   ·refine T.region (oN mv (jW h fun g18 h=>oN (L6.add Z Z g18) (oN as' (TO.nil ?_))));obtain rfl:=L9 h;exact ⟨(s9.1,(s5.2.1+V),s9.2),u17,Z,trivial,kw Z Z⟩
   ·refine T.block (T.sr (oN mv (oN mv (oN (L6.lenst Tryz.underlying9 Z) (oN (L6.ieq Z Z) (oN mv ?_))))));refine TO.jB h 6 (fun s10=>[(25,Bo s10),(7,I s5.2.1),(6,I s5.2.2),(5,hS false 0 u7 1 s5.1.length),(0,St s),(1,Y c)]) (fun s10=>[bE false u7 1 9 (s5.1.map cS)]) (fun s10 q11 h js10=>?_) (fun s10 q11 h js10=>?_) (fun s10 h=>?_)
    ·refine gS Z q11 (gS Z q11 (gS Z q11 (gS Z q11 (gS Z q11 (oN (L6.pickT Z q11 (Bo true) Z) ?_)))))
     cases h
     exact js10 _ _ (kw Z Z)
    ·refine gN Z q11 mv (gN Z q11 mv (jD h fun g12 h=>gN Z q11 (L6.ixst Tryz.underlying9 Z Z g12) (gN Z q11 mv (gN Z q11 (L6.ieq Z Z) (oN (L6.pickF Z q11 (Bo (((s.data.getD s5.2.1.toNat 0).toNat:Int)==c)) Z) ?_)))))
     cases h
     exact js10 _ _ (kw Z Z)
    ·refine TO.nil ?_;refine T.ifH Z h (fun q13 h=>?_) (fun q13 h=>?_)
     ·refine T.sr (oN mv (oN mv (oN mv (oN mv (jD h fun g14 h=>oN (L6.slst Tryz.underlying9 Z (.yes Z) (.yes Z) g14) (oN (L6.mkF (c:=cS) ([(s.extract s5.2.2.toNat s5.2.1.toNat)]:List ByteArray) [[St (s.extract s5.2.2.toNat s5.2.1.toNat)]] vW Z Z Z (fun _=>Z) (fun _=>Z) Z) (jL h fun g15 h=>oA (EvA.app1 (g:=false) (l:=s5.1) (s.extract s5.2.2.toNat s5.2.1.toNat) vW (by kernel_rfl) Z Z Z nofun (aI.fz (l:=([(s.extract s5.2.2.toNat s5.2.1.toNat)]:List ByteArray)) Z (fun _=>Z)) g15) (oN (L6.asg (hS false 0 (u7+1) 1 ((s5.1++[(s.extract s5.2.2.toNat s5.2.1.toNat)]).length)) Z) (TO.nil (T.region (oN mv (jW h fun g16 h=>oN (L6.add Z Z g16) ?_))))))))))));refine oN as' (TO.nil ?_)
      cases h
      exact ⟨u7+1,trivial,kw Z Z⟩
     ·refine T.skip ?_
      cases h
      exact ⟨u7,trivial,kw Z Z⟩
  ·refine T.exit (lX h fun h=>?_)
   cases h
   exact ⟨u7,trivial,kw Z Z⟩
theorem bI (s:ByteArray) (at_:Int) (from_:Int) (most:Int) {q:Int} (h:bv s at_ from_ most=some q):aB Tryz.prog 129 [St s,I at_,Y from_,I most] (I q):=by
 refine pM Tryz.func129 Z (by kernel_rfl) Z (T.sr (oN as' (TO.nil (T.seq (T.sr (oN mv (oN mv (oN (L6.lenst Tryz.underlying9 Z) (oN (L6.ige Z Z) (oN mv ?_))))))))));refine TO.jB h 6 (fun s1=>[(19,Bo s1),(0,St s),(1,I at_),(2,Y from_),(3,I most)]) (fun s1=>[]) (fun s1 q2 h js1=>?_) (fun s1 q2 h js1=>?_) (fun s1 h=>?_)
 ·refine gS Z q2 (gS Z q2 (gS Z q2 (gS Z q2 (gS Z q2 (oN (L6.pickT Z q2 (Bo true) Z) ?_)))))
  cases h
  exact js1 _ _ (kw Z Z)
 ·refine gN Z q2 mv (gN Z q2 mv (jD h fun g3 h=>gN Z q2 (L6.ixst Tryz.underlying9 Z Z g3) (gN Z q2 mv (gN Z q2 (L6.ilt Z Z) (oN (L6.pickF Z q2 (Bo (decide (((s.data.getD at_.toNat 0).toNat:Int)<from_))) Z) ?_)))))
  cases h
  exact js1 _ _ (kw Z Z)
 ·refine oN mv ?_;refine TO.jB h 9 (fun s4=>[(29,Bo s4),(0,St s),(1,I at_),(2,Y from_)]) (fun s4=>[]) (fun s4 q5 h js4=>?_) (fun s4 q5 h js4=>?_) (fun s4 h=>?_)
  ·refine gS Z q5 (gS Z q5 (gS Z q5 (gS Z q5 (gS Z q5 (gS Z q5 (gS Z q5 (gS Z q5 (oN (L6.pickT Z q5 (Bo true) Z) ?_))))))))
   cases h
   exact js4 _ _ (kw Z Z)
  ·refine gN Z q5 mv (gN Z q5 mv (jD h fun g6 h=>gN Z q5 (L6.ixst Tryz.underlying9 Z Z g6) (gN Z q5 mv (jW h fun g7 h=>gN Z q5 (L6.sub Z Z g7) (jW h fun g8 h=>gN Z q5 (L6.iconv ty5.und Tryz.underlying3 Z g8) (gN Z q5 mv (gN Z q5 (L6.igt Z Z) (oN (L6.pickF Z q5 (Bo (decide (most<(((s.data.getD at_.toNat 0).toNat:Int)-from_)))) Z) ?_))))))))
   cases h
   exact js4 _ _ (kw Z Z)
  ·refine TO.nil ?_;refine T.ifH Z h (fun q9 h=>?_) (fun q9 h=>?_)
   ·refine T.sr (oN as' (TO.nil (T.ret ?_)))
    cases h
    exact cu Z Z Z
   ·refine T.skip (T.sr (oN mv (oN mv (jD h fun g10 h=>oN (L6.ixst Tryz.underlying9 Z Z g10) (oN mv (jW h fun g11 h=>oN (L6.sub Z Z g11) (jW h fun g12 h=>oN (L6.iconv ty5.und Tryz.underlying3 Z g12) (oN as' (TO.nil (T.ret ?_))))))))))
    cases h
    exact cu Z Z Z
set_option maxHeartbeats 4000000 in
theorem um (s:ByteArray) {q:Ma} (h:jN s=some q):aB Tryz.prog 109 [St s] (.agg (Ma.c q)):=by
 refine pM Tryz.func109 Z (by kernel_rfl) Z (T.sr (oA (EvA.al qD Z Z) (TO.nil (T.seq (T.sr (oN mv (oN (L6.seq Z Z) (TO.nil ?_))))))));refine T.ifH Z h (fun q1 h=>?_) (fun q1 h=>?_)
 ·refine T.sr (oN (L6.build [I (4:Int),I U,I U,I U] Tryz.underlying70 qD kg Z Z) (oV (sr [I (4:Int),I U,I U,I U] gV Z Z Z Z) (TO.nil (T.ret ?_))));obtain rfl:=L9 h
  repeat (first|refine fE ?_|refine fF ?_)
  exact Fin.ret (vs:=[.agg [I (4:Int),I U,I U,I U]]) (.cons (.cell (.agg [I (4:Int),I U,I U,I U]) gV Z Z Z Z Z Z) .nil) (.of_isF 9 _ Z)
 ·refine T.skip (T.sr (oN mv (oC h (fun _=>bI _ _ _ _) Z Z Z Z fun v2 _ h=>oN as' (TO.nil (T.sr (oN mv (oC h (fun _=>bI _ _ _ _) Z Z Z Z fun v3 _ h=>oN as' (TO.nil (T.seq (T.sr (oN mv (oN (L6.ige Z Z) (oN mv ?_)))))))))))));refine TO.jB h 4 (fun s4=>[(18,Bo s4),(4,I v3),(3,I v2),(2,.hp 0 0 4 0 0),(0,St s)]) (fun s4=>[some ⟨0,4,70,[[I U,I U,I U,I U]]⟩]) (fun s4 q5 h js4=>?_) (fun s4 q5 h js4=>?_) (fun s4 h=>?_)
  ·refine gN Z q5 mv (gN Z q5 (L6.lenst Tryz.underlying9 Z) (gN Z q5 (L6.ieq Z Z) (oN (L6.pickT Z q5 (Bo ((s.size:Int)==(3:Int))) Z) ?_)))
   cases h
   exact js4 _ _ (kw Z Z)
  ·refine gS Z q5 (gS Z q5 (gS Z q5 (oN (L6.pickF Z q5 (Bo false) Z) ?_)))
   cases h
   exact js4 _ _ (kw Z Z)
  ·refine TO.nil ?_;refine T.ifH Z h (fun q6 h=>?_) (fun q6 h=>?_)
   ·refine T.sr (oN mv (oN mv (oC h (fun _=>bI _ _ _ _) Z Z Z Z fun v7 _ h=>oN (L6.build [I V,I v7,I v2,I U] Tryz.underlying70 qD kg Z Z) (oV (sr [I V,I v7,I v2,I U] gV Z Z Z Z) (TO.nil (T.ret ?_))))));obtain rfl:=L9 h
    repeat (first|refine fE ?_|refine fF ?_)
    exact Fin.ret (vs:=[.agg [I V,I v7,I v2,I U]]) (.cons (.cell (.agg [I V,I v7,I v2,I U]) gV Z Z Z Z Z Z) .nil) (.of_isF 9 _ Z)
   ·refine T.skip (T.seq (T.sr (oN mv (oN (L6.ige Z Z) (oN mv ?_)))));refine TO.jB h 4 (fun s8=>[(29,Bo s8),(4,I v3),(3,I v2),(2,.hp 0 0 4 0 0),(0,St s)]) (fun s8=>[some ⟨0,4,70,[[I U,I U,I U,I U]]⟩]) (fun s8 q9 h js8=>?_) (fun s8 q9 h js8=>?_) (fun s8 h=>?_)
    ·refine gN Z q9 mv (gN Z q9 (L6.lenst Tryz.underlying9 Z) (gN Z q9 (L6.ieq Z Z) (oN (L6.pickT Z q9 (Bo ((s.size:Int)==(5:Int))) Z) ?_)))
     cases h
     exact js8 _ _ (kw Z Z)
    ·refine gS Z q9 (gS Z q9 (gS Z q9 (oN (L6.pickF Z q9 (Bo false) Z) ?_)))
     cases h
     exact js8 _ _ (kw Z Z)
    ·refine TO.nil ?_;refine T.ifH Z h (fun q10 h=>?_) (fun q10 h=>?_)
     ·refine T.sr (oN mv (oN mv (oC h (fun _=>bI _ _ _ _) Z Z Z Z fun v11 _ h=>oN mv (oC h (fun _=>bI _ _ _ _) Z Z Z Z fun v12 _ h=>oN (L6.build [I (5:Int),I v11,I v2,I v12] Tryz.underlying70 qD kg Z Z) (oV (sr [I (5:Int),I v11,I v2,I v12] gV Z Z Z Z) (TO.nil (T.ret ?_)))))));obtain rfl:=L9 h
      repeat (first|refine fE ?_|refine fF ?_)
      exact Fin.ret (vs:=[.agg [I (5:Int),I v11,I v2,I v12]]) (.cons (.cell (.agg [I (5:Int),I v11,I v2,I v12]) gV Z Z Z Z Z Z) .nil) (.of_isF 9 _ Z)
     ·refine T.skip (T.seq (T.sr (oN mv (oN (L6.ige Z Z) (oN mv ?_)))));refine TO.jB h 4 (fun s13=>[(42,Bo s13),(4,I v3),(2,.hp 0 0 4 0 0),(0,St s)]) (fun s13=>[some ⟨0,4,70,[[I U,I U,I U,I U]]⟩]) (fun s13 q14 h js13=>?_) (fun s13 q14 h js13=>?_) (fun s13 h=>?_)
      ·refine gN Z q14 mv (jB h fun v15 cv15 h=>gN Z q14 (L6.call Z Z Z (bI s (2:Int) (97:Int) (2:Int) cv15) Z) (gN Z q14 (L6.ige Z Z) (oN (L6.pickT Z q14 (Bo (decide (U<=v15))) Z) ?_)))
       cases h
       exact js13 _ _ (kw Z Z)
      ·refine gS Z q14 (gS Z q14 (gS Z q14 (oN (L6.pickF Z q14 (Bo false) Z) ?_)))
       cases h
       exact js13 _ _ (kw Z Z)
      ·refine TO.nil ?_;refine T.ifH Z h (fun q16 h=>?_) (fun q16 h=>?_)
       ·refine T.sr (oN mv (oN mv (oC h (fun _=>bI _ _ _ _) Z Z Z Z fun v17 _ h=>oN (L6.build [I (3:Int),I v3,I v17,I U] Tryz.underlying70 qD kg Z Z) (oV (sr [I (3:Int),I v3,I v17,I U] gV Z Z Z Z) (TO.nil (T.ret ?_))))));obtain rfl:=L9 h
        repeat (first|refine fE ?_|refine fF ?_)
        exact Fin.ret (vs:=[.agg [I (3:Int),I v3,I v17,I U]]) (.cons (.cell (.agg [I (3:Int),I v3,I v17,I U]) gV Z Z Z Z Z Z) .nil) (.of_isF 9 _ Z)
       ·refine T.skip (T.sr (oN mv (oN mv (oC h (fun _=>bI _ _ _ _) Z Z Z Z fun v18 _ h=>oN (L6.build [I (2:Int),I v3,I U,I v18] Tryz.underlying70 qD kg Z Z) (oV (sr [I (2:Int),I v3,I U,I v18] gV Z Z Z Z) (TO.nil (T.ret ?_)))))));obtain rfl:=L9 h
        repeat (first|refine fE ?_|refine fF ?_)
        exact Fin.ret (vs:=[.agg [I (2:Int),I v3,I U,I v18]]) (.cons (.cell (.agg [I (2:Int),I v3,I U,I v18]) gV Z Z Z Z Z Z) .nil) (.of_isF 9 _ Z)
theorem mP (from_:Int) (n:Int) {q:ByteArray} (h:fP from_ n=some q):aB Tryz.prog 139 [Y from_,I n] (St q):=by
 refine pM Tryz.func139 Z (by kernel_rfl) Z (T.sr (oN as' (TO.nil (T.sr (oN mv (oN mv (jW h fun g1 h=>oN (L6.iconv Mo.und Tryz.underlying5 Z g1) (jW h fun g2 h=>oN (L6.add Z Z g2) (oN (L6.mkF (c:=cY) ([(from_+n)]:LI) [[Y (from_+n)]] yT Z Z Z (fun _=>Z) (fun _=>Z) Z) (oA (EvA.b2s (l:=([(from_+n)]:LI)) Tryz.underlying33 Tryz.underlying5 Tryz.underlying9 (Ex Z) (aI.fz (l:=([(from_+n)]:LI)) Z (fun _=>Z))) (oN as' (TO.nil (T.ret ?_)))))))))))))
 cases h
 exact cu Z Z Z
theorem uo:∀ (nf:Nat) (n:Int) {q:ByteArray} (h:fQ nf n=some q),aB Tryz.prog 140 [I n] (St q):=by
 intro nf
 induction nf with
 | zero=>intros;rename_i h;cases h
 | succ nf ih=>
  intro n q h;replace h:jh (fQ nf) n=some q:=h;refine pM Tryz.func140 Z (by kernel_rfl) Z (T.sr (oN as' (TO.nil (T.seq (T.sr (oN mv (oN (L6.ilt Z Z) (TO.nil ?_))))))));refine T.ifH Z h (fun q1 h=>?_) (fun q1 h=>?_)
  ·refine T.sr (oN as' (TO.nil (T.ret ?_)))
   cases h
   exact cu Z Z Z
  ·refine T.skip (T.seq (T.sr (oN mv (oN (L6.ilt Z Z) (TO.nil ?_)))));refine T.ifH Z h (fun q2 h=>?_) (fun q2 h=>?_)
   ·refine T.sr (oN mv (jW h fun g3 h=>oN (L6.neg Z g3) (oC h (fun _=>ih _) Z Z Z Z fun v4 _ h=>jD h fun g5 h=>oN (L6.cat Z Z g5) (oN as' (TO.nil (T.ret ?_))))))
    cases h
    exact cu Z Z Z
   ·refine T.skip (T.sr (oN as' (TO.nil ?_)));refine T.jU h (fun s6=>[(3,St s6.1),(0,I s6.2)]) (fun s6=>[]) (fun s6 h=>?_) (fun s6 h=>?_)
    ·refine T.sr (oN mv (jW h fun g17 h=>oN (L6.add Z Z g17) (jW h fun g18 h=>oN (L6.iconv Mo.und Tryz.underlying5 Z g18) (oN (L6.mkF (c:=cY) ([((48:Int)+s6.2)]:LI) [[Y ((48:Int)+s6.2)]] yT Z Z Z (fun _=>Z) (fun _=>Z) Z) (oA (EvA.b2s (l:=([((48:Int)+s6.2)]:LI)) Tryz.underlying33 Tryz.underlying5 Tryz.underlying9 (Ex Z) (aI.fz (l:=([((48:Int)+s6.2)]:LI)) Z (fun _=>Z))) (oN mv (jD h fun g19 h=>oN (L6.cat Z Z g19) (oN as' (TO.nil (T.ret ?_))))))))))
     cases h
     exact cu Z Z Z
    ·refine T.block ?_;refine T.lU h (fun s9=>[(3,St s9.1),(0,I s9.2)]) (fun s9=>[]) (kw Z Z) (fun s9 ws9 h=>?_);refine T.seq (T.sr (oN mv (oN (L6.igt Z Z) (TO.nil ?_))));refine T.ifH Z h (fun q11 h=>?_) (fun q11 h=>?_)
     ·refine T.skip (T.block (T.sr (oN mv (jD h fun g12 h=>oN (L6.rem Z Z g12) (jW h fun g13 h=>oN (L6.add Z Z g13) (jW h fun g14 h=>oN (L6.iconv Mo.und Tryz.underlying5 Z g14) (oN (L6.mkF (c:=cY) ([((48:Int)+(s9.2.tmod (10:Int)))]:LI) [[Y ((48:Int)+(s9.2.tmod (10:Int)))]] yT Z Z Z (fun _=>Z) (fun _=>Z) Z) (oA (EvA.b2s (l:=([((48:Int)+(s9.2.tmod (10:Int)))]:LI)) Tryz.underlying33 Tryz.underlying5 Tryz.underlying9 (Ex Z) (aI.fz (l:=([((48:Int)+(s9.2.tmod (10:Int)))]:LI)) Z (fun _=>Z))) (oN mv (jD h fun g15 h=>oN (L6.cat Z Z g15) (oN as' ?_)))))))))));refine TO.nil (T.region (oN mv (jW h fun g16 h=>oN (L6.quo Z Z g12 g16) (oN as' (TO.nil ?_)))));exact lE h (kw Z Z)
     ·refine T.exit (lX h fun h=>?_)
      cases h
      exact ⟨(),trivial,kw Z Z⟩
theorem oZ (n:Int) {q:ByteArray} (h:kN n=some q):aB Tryz.prog 140 [I n] (St q):=by
 obtain ⟨nf,h⟩:=r9 h;exact uo nf n h
theorem wC (x:Ma) {q:ByteArray} (h:kO x=some q):aB Tryz.prog 130 [.agg (Ma.c x)] (St q):=by
 refine pM Tryz.func130 Z (by kernel_rfl) Z (T.sr (oN (L6.bxF (Ma.c x) Z Z Z) (oN as' (TO.nil (T.sr (oN (fa kg Z) (oN (lf (I x.Loc) Mo Z) (oC h (fun _=>mP _ _) Z Z Z Z fun v1 _ h=>oN as' (TO.nil (T.sr (oN (fa kg Z) (oN (lf (I x.Reg) Mo Z) (oC h (fun _=>mP _ _) Z Z Z Z fun v2 _ h=>oN as' ?_)))))))))))));refine TO.nil (T.seq (T.sr (oN (fa kg Z) (oN (lf (I x.Op) Mo Z) (TO.nil (T.block (T.sr (oN (L6.ieq Z Z) (oN as' (TO.nil ?_))))))))));refine T.ifH Z h (fun q3 h=>?_) (fun q3 h=>?_)
 ·refine T.sr (oN mv (jD h fun g4 h=>oN (L6.cat Z Z g4) (oN mv (jD h fun g5 h=>oN (L6.cat Z Z g5) (oN as' (TO.nil (T.ret ?_)))))))
  cases h
  exact cu Z Z Z
 ·refine T.sr (oN (L6.ieq Z Z) (oN as' (TO.nil ?_)));refine T.ifH Z h (fun q6 h=>?_) (fun q6 h=>?_)
  ·refine T.sr (oN mv (jD h fun g7 h=>oN (L6.cat Z Z g7) (oN (fa kg Z) (oN (lf (I x.Val) Mo Z) (oC h (fun _=>oZ _) Z Z Z Z fun v8 _ h=>jD h fun g9 h=>oN (L6.cat Z Z g9) (oN as' (TO.nil (T.ret ?_))))))))
   cases h
   exact cu Z Z Z
  ·refine T.sr (oN (L6.ieq Z Z) (oN as' (TO.nil ?_)));refine T.ifH Z h (fun q10 h=>?_) (fun q10 h=>?_)
   ·refine T.seq (T.clean (H0:=[]) (e0:=ai [(4,St v2),(3,St v1)]) Z (LZ Z (LZ Z LY)) (T.region (oN mv (jD h fun g11 h=>oN (L6.cat Z Z g11) (oN mv (jD h fun g12 h=>oN (L6.cat Z Z g12) (oN as' (TO.nil (T.ret ?_)))))))))
    cases h
    exact cu Z Z Z
   ·refine T.sr (oN (L6.ieq Z Z) (oN as' (TO.nil ?_)));refine T.ifH Z h (fun q13 h=>?_) (fun q13 h=>?_)
    ·refine T.seq (T.clean (H0:=[]) (e0:=ai [(4,St v2),(3,St v1),(1,.fp (Ma.c x) 0)]) Z (LZ Z (LZ Z (LZ Z LY))) (T.region (oN mv (jD h fun g14 h=>oN (L6.cat Z Z g14) (oN mv (jD h fun g15 h=>oN (L6.cat Z Z g15) (jD h fun g16 h=>oN (L6.cat Z Z g16) (oN (fa kg Z) (oN (lf (I x.Val) Mo Z) (oC h (fun _=>oZ _) Z Z Z Z fun v17 _ h=>jD h fun g18 h=>oN (L6.cat Z Z g18) ?_))))))))));refine oN as' (TO.nil (T.ret ?_))
     cases h
     exact cu Z Z Z
    ·refine T.skip (T.seq (T.clean (H0:=[]) (e0:=ai []) Z LY (T.region (oN as' (TO.nil (T.ret ?_))))))
     cases h
     exact cu Z Z Z
theorem rN (p:List (List Ma)) {q:ByteArray} (h:ij p=some q):aB Tryz.prog 110 [eL (cL Ma.c) p] (St q):=by
 refine pM Tryz.func110 Z (by kernel_rfl) Z (T.sr (oN as' (TO.nil (T.sr (oN as' (TO.nil ?_))))));refine T.jU h (fun s1=>[(3,St s1)]) (fun s1=>[]) (fun s1 h=>?_) (fun s1 h=>?_)
 ·refine T.sr (oN mv (oN as' (TO.nil (T.ret ?_))))
  cases h
  exact cu Z Z Z
 ·refine T.sr (oN as' (TO.nil (T.block ?_)));refine T.lU h (fun s4=>[(4,I s4.1),(3,St s4.2),(0,eL (cL Ma.c) p)]) (fun s4=>[]) (kw Z Z) (fun s4 ws4 h=>?_);refine T.seq (T.sr (oN mv (oN mv (oN (L6.lenL gI Z) (oN (L6.ilt Z Z) (TO.nil ?_))))));refine T.ifH Z h (fun q6 h=>?_) (fun q6 h=>?_)
  ·refine T.skip ?_;refine T.jU h (fun s7=>[(3,St s7),(4,I s4.1),(0,eL (cL Ma.c) p)]) (fun s7=>[]) (fun s7 h=>?_) (fun s7 h=>?_)
   ·refine T.region (oN mv (jW h fun g24 h=>oN (L6.add Z Z g24) (oN as' (TO.nil ?_))));exact lE h (kw Z Z)
   ·refine T.block ?_;refine T.jU h (fun s8=>[(3,St s8),(4,I s4.1),(0,eL (cL Ma.c) p)]) (fun s8=>[]) (fun s8 h=>?_) (fun s8 h=>?_)
    ·refine T.sr (oN as' (TO.nil (T.block ?_)));refine T.lU h (fun s13=>[(5,I s13.1),(3,St s13.2),(4,I s4.1),(0,eL (cL Ma.c) p)]) (fun s13=>[]) (kw Z Z) (fun s13 ws13 h=>?_);refine T.seq (T.sr (oN mv (oN mv (oN mv (jD h fun g15 h=>oN (L6.ixL gI Z Z g15 (fun _=>Z)) (oN (lf (eL Ma.c (J p s4.1)) qw Z) (oN (L6.lenL lW Z) (oN (L6.ilt Z Z) (TO.nil ?_)))))))));refine T.ifH Z h (fun q16 h=>?_) (fun q16 h=>?_)
     ·refine T.skip (T.seq (T.block ?_));refine T.jU h (fun s17=>[(3,St s17),(5,I s13.1),(4,I s4.1),(0,eL (cL Ma.c) p)]) (fun s17=>[]) (fun s17 h=>?_) (fun s17 h=>?_)
      ·refine T.region (oN mv (oN mv (oN mv (oN (L6.ixL gI Z Z g15 (fun _=>Z)) (oN (lf (eL Ma.c (J p s4.1)) qw Z) (oN mv (jD h fun g20 h=>oN (L6.ixL lW Z Z g20 (fun _=>Z)) (oN (lf (.agg (Ma.c (J (J p s4.1) s13.1))) gV Z) (oC h (fun _=>wC _) Z Z Z Z fun v21 _ h=>jD h fun g22 h=>oN (L6.cat Z Z g22) (oN as' (TO.nil (T.region ?_))))))))))));refine oN mv (jW h fun g23 h=>oN (L6.add Z Z g23) (oN as' (TO.nil ?_)));exact lE h (kw Z Z)
      ·refine T.sr (oN mv (oN (L6.igt Z Z) (TO.nil ?_)));refine T.ifH Z h (fun q18 h=>?_) (fun q18 h=>?_)
       ·refine T.region (oN mv (jD h fun g19 h=>oN (L6.cat Z Z g19) (oN as' (TO.nil ?_))))
        cases h
        exact ⟨(),trivial,kw Z Z⟩
       ·refine T.skip ?_
        cases h
        exact ⟨(),trivial,kw Z Z⟩
     ·refine T.exit (lX h fun h=>?_)
      cases h
      exact ⟨(),trivial,kw Z Z⟩
    ·refine T.sr (oN mv (oN (L6.igt Z Z) (TO.nil ?_)));refine T.ifH Z h (fun q9 h=>?_) (fun q9 h=>?_)
     ·refine T.region (oN mv (jD h fun g10 h=>oN (L6.cat Z Z g10) (oN as' (TO.nil ?_))))
      cases h
      exact ⟨(),trivial,kw Z Z⟩
     ·refine T.skip ?_
      cases h
      exact ⟨(),trivial,kw Z Z⟩
  ·refine T.exit (lX h fun h=>?_)
   cases h
   exact ⟨(),trivial,kw Z Z⟩
set_option maxHeartbeats 4000000 in
theorem ko (text:ByteArray) {q:(List (List Ma))×Bool} (h:aY text=some q):aB Tryz.prog 81 [St text] (.tup [eL (cL Ma.c) q.1,Bo q.2]):=by
 refine pM Tryz.func81 Z (by kernel_rfl) Z (T.sr (oN as' (oN as' (TO.nil (T.sr (oA (EvA.mkO (c:=(cL Ma.c)) ([]:List (List Ma)) [] gI Z Z Z (fun _=>Z) Z Z) (oN (L6.asg (hS false 0 0 1 (([]:List (List Ma)).length)) Z) (TO.nil (T.sr (oN mv (oC h (fun _=>oU _ _) Z Z Z Z fun v1 _ h=>oN as' (TO.nil ?_))))))))))));refine T.jF (G:=Nat) h (fun s2 gh=>True) (fun s2 gh=>[(4,hS false 0 gh 1 s2.length),(0,St text)]) (fun s2 gh=>[bE false gh 1 50 (s2.map (cL Ma.c))]) (fun s2 u35 h hg=>?_) (fun s2 h=>?_)
 ·refine T.seq (T.sr (oN mv (jB h fun v36 cv36 h=>oA (EvA.callT Z Z (fT s2 cv36) (.cons (Fz.own (g:=false) (ver:=u35) (l:=s2) Z Z Z nofun (fun _=>Z)) .nil) Z) (oN (L6.not Z) (oN mv ?_)))));refine TO.jB h 5 (fun s37=>[(66,Bo s37),(4,hS false 0 u35 1 s2.length)]) (fun s37=>[bE false u35 1 50 (s2.map (cL Ma.c))]) (fun s37 q38 h js37=>?_) (fun s37 q38 h js37=>?_) (fun s37 h=>?_)
  ·refine gS Z q38 (gS Z q38 (gS Z q38 (gS Z q38 (oN (L6.pickT Z q38 (Bo true) Z) ?_))))
   cases h
   exact js37 _ _ (kw Z Z)
  ·refine gN Z q38 mv (jB h fun v39 cv39 h=>gA Z q38 (EvA.callT Z Z (rN s2 cv39) (.cons (Fz.own (g:=false) (ver:=u35) (l:=s2) Z Z Z nofun (fun _=>Z)) .nil) Z) (gN Z q38 mv (gN Z q38 (L6.sne Z Z) (oN (L6.pickF Z q38 (Bo (!decide (v39=text))) Z) ?_))))
   cases h
   exact js37 _ _ (kw Z Z)
  ·refine TO.nil ?_;refine T.ifH Z h (fun q40 h=>?_) (fun q40 h=>?_)
   ·refine T.sr (oN (L6.mkF (c:=(cL Ma.c)) ([]:List (List Ma)) [] gI Z Z Z (fun _=>Z) (fun _=>Z) Z) (oN as' (oN as' (TO.nil (T.ret ?_)))));obtain rfl:=L9 h
    repeat (first|refine fE ?_|refine fF ?_)
    exact Fin.ret (vs:=[eL (cL Ma.c) ([]:List (List Ma)),Bo false]) (.cons (.tmp Z) (.cons (.tmp Z) .nil)) (.tupL (.cons (.of_isF 9 _ Z) (.cons (.of_isF 9 _ Z) .nil)))
   ·refine T.skip (T.sr (oN mv (oN (L6.asg (hS false 0 u35 1 s2.length) Z) (oN as' (TO.nil (T.ret ?_))))));obtain rfl:=L9 h
    repeat (first|refine fE ?_|refine fF ?_)
    exact Fin.ret (vs:=[hS false 0 u35 1 s2.length,Bo true]) (.cons (.tmp Z) (.cons (.tmp Z) .nil)) (.tupL (.cons (Fz.own (g:=false) (ver:=u35) (l:=s2) Z Z Z nofun (fun _=>Z)) (.cons (.of_isF 9 _ Z) .nil)))
 ·refine T.sr (oN as' (TO.nil (T.block ?_)));refine T.loop (S:=(List (List Ma))×Int) (G:=Nat) (cH v1) (fun s6 gh=>True) (fun s6 gh=>[(6,I s6.2),(5,eL cS v1),(4,hS false 0 gh 1 s6.1.length),(0,St text)]) (fun s6 gh=>[bE false gh 1 50 (s6.1.map (cL Ma.c))]) (s0:=(([]:List (List Ma)),U)) 0 h trivial (kw Z Z) (fun s6 u8 ws6 h hg=>?_);refine T.seq (T.sr (oN mv (oN mv (oN (L6.lenL vW Z) (oN (L6.ilt Z Z) (oN mv ?_))))));refine TO.jB h 3 (fun s9=>[(20,Bo s9),(6,I s6.2),(5,eL cS v1),(4,hS false 0 u8 1 s6.1.length),(0,St text)]) (fun s9=>[bE false u8 1 50 (s6.1.map (cL Ma.c))]) (fun s9 q10 h js9=>?_) (fun s9 q10 h js9=>?_) (fun s9 h=>?_)
  ·refine gN Z q10 mv (gN Z q10 (L6.ile Z Z) (oN (L6.pickT Z q10 (Bo (decide (s6.2<=(3:Int)))) Z) ?_))
   cases h
   exact js9 _ _ (kw Z Z)
  ·refine gS Z q10 (gS Z q10 (oN (L6.pickF Z q10 (Bo false) Z) ?_))
   cases h
   exact js9 _ _ (kw Z Z)
  ·refine TO.nil ?_;refine T.ifH Z h (fun q11 h=>?_) (fun q11 h=>?_)
   ·refine T.skip ?_;refine T.jF (G:=Nat) h (fun s12 gh=>True) (fun s12 gh=>[(4,hS false 0 gh 1 s12.length),(6,I s6.2),(5,eL cS v1),(0,St text)]) (fun s12 gh=>[bE false gh 1 50 (s12.map (cL Ma.c))]) (fun s12 u33 h hg=>?_) (fun s12 h=>?_)
    ·refine T.region (oN mv (jW h fun g34 h=>oN (L6.add Z Z g34) (oN as' (TO.nil ?_))));obtain rfl:=L9 h;exact ⟨(s12,(s6.2+V)),u33,Z,trivial,kw Z Z⟩
    ·refine T.block (T.sr (oA (EvA.mkO (c:=Ma.c) ([]:List Ma) [] lW Z Z Z (fun _=>Z) Z Z) (oN (L6.asg (hS false 1 0 4 (([]:List Ma).length)) Z) (TO.nil (T.sr (oN mv (oN mv (jD h fun g13 h=>oN (L6.ixL vW Z Z g13 (fun _=>Z)) (oN (lf (St (J v1 s6.2)) ty9 Z) (oC h (fun _=>oU _ _) Z Z Z Z fun v14 _ h=>oN as' (TO.nil ?_)))))))))));refine T.jF (G:=Nat) h (fun s15 gh=>True) (fun s15 gh=>[(7,hS false 1 gh 4 s15.length),(6,I s6.2),(5,eL cS v1),(4,hS false 0 u8 1 s6.1.length),(0,St text)]) (fun s15 gh=>[bE false u8 1 50 (s6.1.map (cL Ma.c)),bE false gh 4 70 (s15.map Ma.c)]) (fun s15 u31 h hg=>?_) (fun s15 h=>?_)
     ·refine T.region (oN mv (oN mv (oA (EvA.mkR [[hS false 1 u31 4 s15.length]] gI Z Z Z Z) (jL h fun g32 h=>oA (EvA.appR (g:=false) (rows:=s6.1.map (cL Ma.c)) (rows':=s6.1.map (cL Ma.c)++[[hS false 1 u31 4 s15.length]]) (n':=s6.1.length+1) gI (by kernel_rfl) Z Z (by simp) nofun (aI.raw (rows:=[[hS false 1 u31 4 s15.length]]) Z Z Z) g32 Z Z) (oN (L6.asg (hS false 0 (u8+1) 1 (s6.1.length+1)) Z) (TO.nil ?_))))));obtain rfl:=L9 h;exact ⟨u8+1,trivial,ik Z (.cons (.snoc (fun _=>Z) (.cons (.cons (.fz (Fz.own (g:=false) (ver:=u31) (l:=s15) Z Z Z nofun Ma.isF)) .nil) .nil)) .nil) (aa (.eqv (congrArg (hS false 0 (u8+1) 1) (by simp:(s6.1.length+1)=(s6.1++[s15]).length)) (.hS (g:=false) (b:=0) (ver:=u8+1) (s:=1) (n:=(s6.1++[s15]).length) Z)) (aa (.fz (.of_isF 9 _ Z)) (aa (.fz (.of_isF 9 _ Z)) (aa (.fz (.of_isF 9 _ Z)) ax))))⟩
     ·refine T.sr (oN as' (TO.nil (T.block ?_)));refine T.loop (S:=(List Ma)×Int) (G:=Nat) (bT v1 s6 v14) (fun s19 gh=>True) (fun s19 gh=>[(9,I s19.2),(8,eL cS v14),(7,hS false 1 gh 4 s19.1.length),(6,I s6.2),(5,eL cS v1),(4,hS false 0 u8 1 s6.1.length),(0,St text)]) (fun s19 gh=>[bE false u8 1 50 (s6.1.map (cL Ma.c)),bE false gh 4 70 (s19.1.map Ma.c)]) (s0:=(([]:List Ma),U)) 0 h trivial (kw Z Z) (fun s19 u21 ws19 h hg=>?_);refine T.seq (T.sr (oN mv (oN mv (oN (L6.lenL vW Z) (oN (L6.ilt Z Z) (oN mv ?_))))));refine TO.jB h 3 (fun s22=>[(36,Bo s22),(9,I s19.2),(8,eL cS v14),(7,hS false 1 u21 4 s19.1.length),(6,I s6.2),(5,eL cS v1),(4,hS false 0 u8 1 s6.1.length),(0,St text)]) (fun s22=>[bE false u8 1 50 (s6.1.map (cL Ma.c)),bE false u21 4 70 (s19.1.map Ma.c)]) (fun s22 q23 h js22=>?_) (fun s22 q23 h js22=>?_) (fun s22 h=>?_)
      ·refine gN Z q23 mv (gN Z q23 (L6.ile Z Z) (oN (L6.pickT Z q23 (Bo (decide (s19.2<=(7:Int)))) Z) ?_))
       cases h
       exact js22 _ _ (kw Z Z)
      ·refine gS Z q23 (gS Z q23 (oN (L6.pickF Z q23 (Bo false) Z) ?_))
       cases h
       exact js22 _ _ (kw Z Z)
      ·refine oN mv ?_;refine TO.jB h 6 (fun s24=>[(43,Bo s24),(9,I s19.2),(8,eL cS v14),(7,hS false 1 u21 4 s19.1.length),(6,I s6.2),(5,eL cS v1),(4,hS false 0 u8 1 s6.1.length),(0,St text)]) (fun s24=>[bE false u8 1 50 (s6.1.map (cL Ma.c)),bE false u21 4 70 (s19.1.map Ma.c)]) (fun s24 q25 h js24=>?_) (fun s24 q25 h js24=>?_) (fun s24 h=>?_)
       ·refine gN Z q25 mv (gN Z q25 mv (gN Z q25 (L6.ixL vW Z Z g13 (fun _=>Z)) (gN Z q25 (lf (St (J v1 s6.2)) ty9 Z) (gN Z q25 (L6.sne Z Z) (oN (L6.pickT Z q25 (Bo (!decide ((J v1 s6.2)=(⟨#[]⟩:ByteArray)))) Z) ?_)))))
        cases h
        exact js24 _ _ (kw Z Z)
       ·refine gS Z q25 (gS Z q25 (gS Z q25 (gS Z q25 (gS Z q25 (oN (L6.pickF Z q25 (Bo false) Z) ?_)))))
        cases h
        exact js24 _ _ (kw Z Z)
       ·refine TO.nil ?_;refine T.ifH Z h (fun q26 h=>?_) (fun q26 h=>?_)
        ·refine T.skip (T.seq (T.block (T.region (oN mv (oN mv (oN mv (jD h fun g27 h=>oN (L6.ixL vW Z Z g27 (fun _=>Z)) (oN (lf (St (J v14 s19.2)) ty9 Z) (oC h (fun _=>um _) Z Z Z Z fun v28 _ h=>oN (L6.mkF (c:=Ma.c) ([v28]:List Ma) [(Ma.c v28)] lW Z Z Z (fun _=>Z) Ma.isF Z) (jL h fun g29 h=>oA (EvA.app1 (g:=false) (l:=s19.1) v28 lW (by kernel_rfl) Z Z Z nofun (aI.fz (l:=([v28]:List Ma)) Z (fun _=>Z)) g29) (oN (L6.asg (hS false 1 (u21+1) 4 ((s19.1++[v28]).length)) Z) (TO.nil ?_))))))))))));refine T.region (oN mv (jW h fun g30 h=>oN (L6.add Z Z g30) (oN as' (TO.nil ?_))));obtain rfl:=L9 h;exact ⟨((s19.1++[v28]),(s19.2+V)),u21+1,Z,trivial,kw Z Z⟩
        ·refine T.exit (lX h fun h=>?_)
         cases h
         exact ⟨u21,trivial,kw Z Z⟩
   ·refine T.exit (lX h fun h=>?_)
    cases h
    exact ⟨u8,trivial,kw Z Z⟩
set_option maxHeartbeats 4000000 in
theorem nO (r_:ae) (ver0:Nat) {q:ae×Ma} (h:gM r_=some q):ez Tryz.prog 106 [.hp 0 ver0 2 0 0] [some ⟨ver0,2,103,[(ae.c r_)]⟩] (.agg (Ma.c q.2)) [some ⟨ver0,2,103,[(ae.c q.1)]⟩]:=by
 refine aM Tryz.func106 Z (by kernel_rfl) Z (T.sr (oA (EvA.al qD Z Z) (TO.nil (T.sr (oN mv (jB h fun v1 cv1 h=>oA (EvA.call Z Z Z ((aF (⟨r_.b,r_.p⟩:ae) (2:Int) ver0 cv1).one 0 Z (.cons (.hp Z) (.cons (.pF Z) .nil)) (av Z) (av Z) Z)) (oN as' (TO.nil (T.seq (T.sr (oN mv (jB h fun v2 cv2 h=>oA (EvA.call Z Z Z ((aF (⟨v1.1.b,v1.1.p⟩:ae) (7:Int) ver0 cv2).one 0 Z (.cons (.hp Z) (.cons (.pF Z) .nil)) (av Z) (av Z) Z)) (TO.nil ?_)))))))))))));refine T.block (T.sr (oN (L6.ieq Z Z) (oN as' (TO.nil ?_))));refine T.ifH Z h (fun q3 h=>?_) (fun q3 h=>?_)
 ·refine T.sr (oN (L6.build [I (4:Int),I U,I U,I U] Tryz.underlying70 qD kg Z Z) (oV (sr [I (4:Int),I U,I U,I U] gV Z Z Z Z) (TO.nil (T.ret ?_))));obtain rfl:=L9 h
  repeat (first|refine fE ?_|refine fF ?_)
  exact ⟨ai [(2,.fp (Ma.c (⟨(4:Int),U,U,U⟩:Ma)) 0)],[some ⟨ver0,2,103,[(ae.c (⟨v2.1.b,v2.1.p⟩:ae))]⟩],ik Z (.cons (.row (.cons (.fz (.of_isF 9 _ Z)) (.cons (.fz (.of_isF 9 _ Z)) .nil))) .nil) (aa (.fz (Fz.fpL (ver:=0) (s:=4) (ty:=70) (rows:=[[I (4:Int),I U,I U,I U]]) Z Z Z (.cons (.of_isF 9 _ Z) (.cons (.of_isF 9 _ Z) (.cons (.of_isF 9 _ Z) (.cons (.of_isF 9 _ Z) .nil)))))) ax),Fin.ret (vs:=[.agg (Ma.c (⟨(4:Int),U,U,U⟩:Ma))]) (.cons (.cellF (.agg (Ma.c (⟨(4:Int),U,U,U⟩:Ma))) gV Z Z) .nil) ⟨Z,Z⟩⟩
 ·refine T.sr (oN (L6.ieq Z Z) (oN as' (TO.nil ?_)));refine T.ifH Z h (fun q4 h=>?_) (fun q4 h=>?_)
  ·refine T.sr (oN mv (oN mv (jB h fun v5 cv5 h=>oA (EvA.call Z Z Z ((aF (⟨v2.1.b,v2.1.p⟩:ae) (2:Int) ver0 cv5).one 0 Z (.cons (.hp Z) (.cons (.pF Z) .nil)) (av Z) (av Z) Z)) (oN (L6.build [I (3:Int),I v1.2,I v5.2,I U] Tryz.underlying70 qD kg Z Z) (oV (sr [I (3:Int),I v1.2,I v5.2,I U] gV Z Z Z Z) (TO.nil (T.ret ?_)))))));obtain rfl:=L9 h
   repeat (first|refine fE ?_|refine fF ?_)
   exact ⟨ai [(2,.fp (Ma.c (⟨(3:Int),v1.2,v5.2,U⟩:Ma)) 0)],[some ⟨ver0,2,103,[(ae.c (⟨v5.1.b,v5.1.p⟩:ae))]⟩],ik Z (.cons (.row (.cons (.fz (.of_isF 9 _ Z)) (.cons (.fz (.of_isF 9 _ Z)) .nil))) .nil) (aa (.fz (Fz.fpL (ver:=0) (s:=4) (ty:=70) (rows:=[[I (3:Int),I v1.2,I v5.2,I U]]) Z Z Z (.cons (.of_isF 9 _ Z) (.cons (.of_isF 9 _ Z) (.cons (.of_isF 9 _ Z) (.cons (.of_isF 9 _ Z) .nil)))))) ax),Fin.ret (vs:=[.agg (Ma.c (⟨(3:Int),v1.2,v5.2,U⟩:Ma))]) (.cons (.cellF (.agg (Ma.c (⟨(3:Int),v1.2,v5.2,U⟩:Ma))) gV Z Z) .nil) ⟨Z,Z⟩⟩
  ·refine T.sr (oN (L6.ieq Z Z) (oN as' (TO.nil ?_)));refine T.ifH Z h (fun q6 h=>?_) (fun q6 h=>?_)
   ·refine T.sr (oN mv (oN mv (jB h fun v7 cv7 h=>oA (EvA.call Z Z Z ((aF (⟨v2.1.b,v2.1.p⟩:ae) (2:Int) ver0 cv7).one 0 Z (.cons (.hp Z) (.cons (.pF Z) .nil)) (av Z) (av Z) Z)) (oN mv (jB h fun v8 cv8 h=>oA (EvA.call Z Z Z ((aF (⟨v7.1.b,v7.1.p⟩:ae) (3:Int) ver0 cv8).one 0 Z (.cons (.hp Z) (.cons (.pF Z) .nil)) (av Z) (av Z) Z)) (jW h fun g9 h=>oN (L6.add Z Z g9) (oN (L6.build [I (5:Int),I v1.2,I v7.2,I (V+v8.2)] Tryz.underlying70 qD kg Z Z) (oV (sr [I (5:Int),I v1.2,I v7.2,I (V+v8.2)] gV Z Z Z Z) (TO.nil (T.ret ?_))))))))));obtain rfl:=L9 h
    repeat (first|refine fE ?_|refine fF ?_)
    exact ⟨ai [(2,.fp (Ma.c (⟨(5:Int),v1.2,v7.2,(V+v8.2)⟩:Ma)) 0)],[some ⟨ver0,2,103,[(ae.c (⟨v8.1.b,v8.1.p⟩:ae))]⟩],ik Z (.cons (.row (.cons (.fz (.of_isF 9 _ Z)) (.cons (.fz (.of_isF 9 _ Z)) .nil))) .nil) (aa (.fz (Fz.fpL (ver:=0) (s:=4) (ty:=70) (rows:=[[I (5:Int),I v1.2,I v7.2,I (V+v8.2)]]) Z Z Z (.cons (.of_isF 9 _ Z) (.cons (.of_isF 9 _ Z) (.cons (.of_isF 9 _ Z) (.cons (.of_isF 9 _ Z) .nil)))))) ax),Fin.ret (vs:=[.agg (Ma.c (⟨(5:Int),v1.2,v7.2,(V+v8.2)⟩:Ma))]) (.cons (.cellF (.agg (Ma.c (⟨(5:Int),v1.2,v7.2,(V+v8.2)⟩:Ma))) gV Z Z) .nil) ⟨Z,Z⟩⟩
   ·refine T.jU h (fun s10=>[(26,Bo s10),(3,I v1.2),(2,.hp 1 0 4 0 0),(0,.hp 0 ver0 2 0 0)]) (fun s10=>[some ⟨ver0,2,103,[(ae.c v2.1)]⟩,some ⟨0,4,70,[[I U,I U,I U,I U]]⟩]) (fun s10 h=>?_) (fun s10 h=>?_)
    ·refine T.ifH Z h (fun q12 h=>?_) (fun q12 h=>?_)
     ·refine T.sr (oN mv (oN mv (jB h fun v13 cv13 h=>oA (EvA.call Z Z Z ((aF (⟨v2.1.b,v2.1.p⟩:ae) (3:Int) ver0 cv13).one 0 Z (.cons (.hp Z) (.cons (.pF Z) .nil)) (av Z) (av Z) Z)) (jW h fun g14 h=>oN (L6.add Z Z g14) (oN (L6.build [I (2:Int),I v1.2,I U,I (V+v13.2)] Tryz.underlying70 qD kg Z Z) (oV (sr [I (2:Int),I v1.2,I U,I (V+v13.2)] gV Z Z Z Z) (TO.nil (T.ret ?_))))))));obtain rfl:=L9 h
      repeat (first|refine fE ?_|refine fF ?_)
      exact ⟨ai [(2,.fp (Ma.c (⟨(2:Int),v1.2,U,(V+v13.2)⟩:Ma)) 0)],[some ⟨ver0,2,103,[(ae.c (⟨v13.1.b,v13.1.p⟩:ae))]⟩],ik Z (.cons (.row (.cons (.fz (.of_isF 9 _ Z)) (.cons (.fz (.of_isF 9 _ Z)) .nil))) .nil) (aa (.fz (Fz.fpL (ver:=0) (s:=4) (ty:=70) (rows:=[[I (2:Int),I v1.2,I U,I (V+v13.2)]]) Z Z Z (.cons (.of_isF 9 _ Z) (.cons (.of_isF 9 _ Z) (.cons (.of_isF 9 _ Z) (.cons (.of_isF 9 _ Z) .nil)))))) ax),Fin.ret (vs:=[.agg (Ma.c (⟨(2:Int),v1.2,U,(V+v13.2)⟩:Ma))]) (.cons (.cellF (.agg (Ma.c (⟨(2:Int),v1.2,U,(V+v13.2)⟩:Ma))) gV Z Z) .nil) ⟨Z,Z⟩⟩
     ·refine T.skip (T.sr (oN mv (oN mv (jB h fun v15 cv15 h=>oA (EvA.call Z Z Z ((aF (⟨v2.1.b,v2.1.p⟩:ae) (2:Int) ver0 cv15).one 0 Z (.cons (.hp Z) (.cons (.pF Z) .nil)) (av Z) (av Z) Z)) (oN (L6.build [I V,I v1.2,I v15.2,I U] Tryz.underlying70 qD kg Z Z) (oV (sr [I V,I v1.2,I v15.2,I U] gV Z Z Z Z) (TO.nil (T.ret ?_))))))));obtain rfl:=L9 h
      repeat (first|refine fE ?_|refine fF ?_)
      exact ⟨ai [(2,.fp (Ma.c (⟨V,v1.2,v15.2,U⟩:Ma)) 0)],[some ⟨ver0,2,103,[(ae.c (⟨v15.1.b,v15.1.p⟩:ae))]⟩],ik Z (.cons (.row (.cons (.fz (.of_isF 9 _ Z)) (.cons (.fz (.of_isF 9 _ Z)) .nil))) .nil) (aa (.fz (Fz.fpL (ver:=0) (s:=4) (ty:=70) (rows:=[[I V,I v1.2,I v15.2,I U]]) Z Z Z (.cons (.of_isF 9 _ Z) (.cons (.of_isF 9 _ Z) (.cons (.of_isF 9 _ Z) (.cons (.of_isF 9 _ Z) .nil)))))) ax),Fin.ret (vs:=[.agg (Ma.c (⟨V,v1.2,v15.2,U⟩:Ma))]) (.cons (.cellF (.agg (Ma.c (⟨V,v1.2,v15.2,U⟩:Ma))) gV Z Z) .nil) ⟨Z,Z⟩⟩
    ·refine T.sr (oN (L6.ieq Z Z) (oN as' (TO.nil ?_)));refine T.ifH Z h (fun q11 h=>?_) (fun q11 h=>?_)
     ·refine T.skip ?_
      cases h
      exact ⟨(),trivial,kw Z Z⟩
     ·refine T.region (oN (L6.ieq Z Z) (oN as' (TO.nil ?_)))
      cases h
      exact ⟨(),trivial,kw Z Z⟩
set_option maxHeartbeats 4000000 in
theorem wD (r_:ae) (ver0:Nat) {q:ae×(List (List Ma))} (h:kP r_=some q):ez Tryz.prog 79 [.hp 0 ver0 2 0 0] [some ⟨ver0,2,103,[(ae.c r_)]⟩] (eL (cL Ma.c) q.2) [some ⟨ver0,2,103,[(ae.c q.1)]⟩]:=by
 refine aM Tryz.func79 Z (by kernel_rfl) Z (T.sr (oN as' (TO.nil (T.sr (oC h (fun _=>ul) Z Z Z Z fun v1 _ h=>oN as' (TO.nil ?_))))));obtain ⟨Ks2,es2,ws2,h,ks2⟩:=zu h;refine T.join (S:=(LI)×Int) (G:=Unit) (fun s2=>Ks2 s2=some q) (fun s2 gh=>True) (fun s2 gh=>[(0,.hp 0 ver0 2 0 0)]) (fun s2 gh=>[some ⟨ver0,2,103,[[eL cY s2.1,I s2.2]]⟩]) (fun s2 gh h hg=>?_) ?_
 ·clear ks2;subst es2;refine T.sr (oA (EvA.mkO (c:=(cL Ma.c)) ([]:List (List Ma)) [] gI Z Z Z (fun _=>Z) Z Z) (oN (L6.asg (hS false 1 0 1 (([]:List (List Ma)).length)) Z) (TO.nil ?_)));refine T.jF (G:=Nat) h (fun s9 gh=>True) (fun s9 gh=>[(6,hS false 1 gh 1 s9.2.2.length),(0,.hp 0 ver0 2 0 0)]) (fun s9 gh=>[some ⟨ver0,2,103,[[eL cY s9.1,I s9.2.1]]⟩,bE false gh 1 50 (s9.2.2.map (cL Ma.c))]) (fun s9 u35 h hg=>?_) (fun s9 h=>?_)
  ·refine T.seq (T.sr (oN mv (jB h fun v36 cv36 h=>oA (EvA.callT Z Z (fT s9.2.2 cv36) (.cons (Fz.own (g:=false) (ver:=u35) (l:=s9.2.2) Z Z Z nofun (fun _=>Z)) .nil) Z) (TO.nil ?_))));refine T.ifH Z h (fun q37 h=>?_) (fun q37 h=>?_)
   ·refine T.sr (oN mv (oN (L6.asg (hS false 1 u35 1 s9.2.2.length) Z) (TO.nil (T.ret ?_))));obtain rfl:=L9 h
    repeat (first|refine fE ?_|refine fF ?_)
    exact ⟨ai [(2,eL (cL Ma.c) s9.2.2)],[some ⟨ver0,2,103,[(ae.c (⟨s9.1,s9.2.1⟩:ae))]⟩],ik Z (.cons (.row (.cons (.fz (.of_isF 9 _ Z)) (.cons (.fz (.of_isF 9 _ Z)) .nil))) .nil) (aa (.fz (Fz.own (g:=false) (ver:=u35) (l:=s9.2.2) Z Z Z nofun (fun _=>Z))) ax),Fin.ret (vs:=[eL (cL Ma.c) s9.2.2]) (.cons (.tmp Z) .nil) ⟨Z,Z⟩⟩
   ·refine T.skip (T.sr (oN mv (jB h fun v38 cv38 h=>oA (EvA.call Z Z Z ((nO (⟨s9.1,s9.2.1⟩:ae) ver0 cv38).one 0 Z (.cons (.hp Z) .nil) (av Z) (av Z) Z)) (oN (L6.mkF (c:=Ma.c) ([v38.2]:List Ma) [(Ma.c v38.2)] lW Z Z Z (fun _=>Z) Ma.isF Z) (oN (L6.mkF (c:=(cL Ma.c)) ([([v38.2]:List Ma)]:List (List Ma)) [[eL Ma.c ([v38.2]:List Ma)]] gI Z Z Z (fun _=>Z) (fun _=>Z) Z) (oN as' (TO.nil (T.ret ?_))))))));obtain rfl:=L9 h
    repeat (first|refine fE ?_|refine fF ?_)
    exact ⟨ai [(2,eL (cL Ma.c) ([([v38.2]:List Ma)]:List (List Ma)))],[some ⟨ver0,2,103,[(ae.c (⟨v38.1.b,v38.1.p⟩:ae))]⟩],ik Z (.cons (.row (.cons (.fz (.of_isF 9 _ Z)) (.cons (.fz (.of_isF 9 _ Z)) .nil))) .nil) (aa (.fz (.of_isF 9 _ Z)) ax),Fin.ret (vs:=[eL (cL Ma.c) ([([v38.2]:List Ma)]:List (List Ma))]) (.cons (.tmp Z) .nil) ⟨Z,Z⟩⟩
  ·refine T.sr (oN mv (oN (L6.mkF (c:=cI) ([(2:Int),(3:Int),V]:LI) [[I (2:Int)],[I (3:Int)],[I V]] bC Z Z Z (fun _=>Z) (fun _=>Z) Z) (jB h fun v10 cv10 h=>oA (EvA.call Z Z Z ((dx (⟨s2.1,s2.2⟩:ae) ([(2:Int),(3:Int),V]:LI) ver0 cv10).one 0 Z (.cons (.hp Z) (.cons (.pF Z) .nil)) (av Z) (av Z) Z)) (oN as' (TO.nil (T.block ?_))))));refine T.loop (S:=(LI)×Int×(List (List Ma))×Int) (G:=Nat) gq (fun s14 gh=>True) (fun s14 gh=>[(7,I s14.2.2.2),(6,hS false 1 gh 1 s14.2.2.1.length),(0,.hp 0 ver0 2 0 0)]) (fun s14 gh=>[some ⟨ver0,2,103,[[eL cY s14.1,I s14.2.1]]⟩,bE false gh 1 50 (s14.2.2.1.map (cL Ma.c))]) (s0:=(v10.1.b,v10.1.p,([]:List (List Ma)),v10.2)) 0 h trivial (kw Z Z) (fun s14 u16 ws14 h hg=>?_);refine T.seq (T.sr (oN mv (oN (L6.igt Z Z) (TO.nil ?_))));refine T.ifH Z h (fun q17 h=>?_) (fun q17 h=>?_)
   ·refine T.skip ?_;refine T.jF (G:=Nat) h (fun s18 gh=>True) (fun s18 gh=>[(6,hS false 1 gh 1 s18.2.2.length),(7,I s14.2.2.2),(0,.hp 0 ver0 2 0 0)]) (fun s18 gh=>[some ⟨ver0,2,103,[[eL cY s18.1,I s18.2.1]]⟩,bE false gh 1 50 (s18.2.2.map (cL Ma.c))]) (fun s18 u33 h hg=>?_) (fun s18 h=>?_)
    ·refine T.region (oN mv (jW h fun g34 h=>oN (L6.sub Z Z g34) (oN as' (TO.nil ?_))));obtain rfl:=L9 h;exact ⟨(s18.1,s18.2.1,s18.2.2,(s14.2.2.2-V)),u33,Z,trivial,kw Z Z⟩
    ·refine T.block (T.sr (oA (EvA.mkO (c:=Ma.c) ([]:List Ma) [] lW Z Z Z (fun _=>Z) Z Z) (oN (L6.asg (hS false 2 0 4 (([]:List Ma).length)) Z) (TO.nil ?_))));refine T.jF (G:=Nat) h (fun s19 gh=>True) (fun s19 gh=>[(8,hS false 2 gh 4 s19.2.2.length),(7,I s14.2.2.2),(6,hS false 1 u16 1 s14.2.2.1.length),(0,.hp 0 ver0 2 0 0)]) (fun s19 gh=>[some ⟨ver0,2,103,[[eL cY s19.1,I s19.2.1]]⟩,bE false u16 1 50 (s14.2.2.1.map (cL Ma.c)),bE false gh 4 70 (s19.2.2.map Ma.c)]) (fun s19 u31 h hg=>?_) (fun s19 h=>?_)
     ·refine T.region (oN mv (oN mv (oA (EvA.mkR [[hS false 2 u31 4 s19.2.2.length]] gI Z Z Z Z) (jL h fun g32 h=>oA (EvA.appR (g:=false) (rows:=s14.2.2.1.map (cL Ma.c)) (rows':=s14.2.2.1.map (cL Ma.c)++[[hS false 2 u31 4 s19.2.2.length]]) (n':=s14.2.2.1.length+1) gI (by kernel_rfl) Z Z (by simp) nofun (aI.raw (rows:=[[hS false 2 u31 4 s19.2.2.length]]) Z Z Z) g32 Z Z) (oN (L6.asg (hS false 1 (u16+1) 1 (s14.2.2.1.length+1)) Z) (TO.nil ?_))))));obtain rfl:=L9 h;exact ⟨u16+1,trivial,ik Z (.cons (.row (.cons (.fz (.of_isF 9 _ Z)) (.cons (.fz (.of_isF 9 _ Z)) .nil))) (.cons (.snoc (fun _=>Z) (.cons (.cons (.fz (Fz.own (g:=false) (ver:=u31) (l:=s19.2.2) Z Z Z nofun Ma.isF)) .nil) .nil)) .nil)) (aa (.eqv (congrArg (hS false 1 (u16+1) 1) (by simp:(s14.2.2.1.length+1)=(s14.2.2.1++[s19.2.2]).length)) (.hS (g:=false) (b:=1) (ver:=u16+1) (s:=1) (n:=(s14.2.2.1++[s19.2.2]).length) Z)) (aa (.fz (.of_isF 9 _ Z)) (aa (.hp (nlb Z)) ax)))⟩
     ·refine T.sr (oN mv (oN (L6.mkF (c:=cI) ([(2:Int),V,(3:Int),(2:Int),U]:LI) [[I (2:Int)],[I V],[I (3:Int)],[I (2:Int)],[I U]] bC Z Z Z (fun _=>Z) (fun _=>Z) Z) (jB h fun v20 cv20 h=>oA (EvA.call Z Z Z ((dx (⟨s14.1,s14.2.1⟩:ae) ([(2:Int),V,(3:Int),(2:Int),U]:LI) ver0 cv20).one 0 Z (.cons (.hp Z) (.cons (.pF Z) .nil)) (av Z) (av Z) Z)) (oN as' (TO.nil (T.block ?_))))));refine T.loop (S:=(LI)×Int×(List Ma)×Int) (G:=Nat) gp (fun s24 gh=>True) (fun s24 gh=>[(9,I s24.2.2.2),(8,hS false 2 gh 4 s24.2.2.1.length),(7,I s14.2.2.2),(6,hS false 1 u16 1 s14.2.2.1.length),(0,.hp 0 ver0 2 0 0)]) (fun s24 gh=>[some ⟨ver0,2,103,[[eL cY s24.1,I s24.2.1]]⟩,bE false u16 1 50 (s14.2.2.1.map (cL Ma.c)),bE false gh 4 70 (s24.2.2.1.map Ma.c)]) (s0:=(v20.1.b,v20.1.p,([]:List Ma),v20.2)) 0 h trivial (kw Z Z) (fun s24 u26 ws24 h hg=>?_);refine T.seq (T.sr (oN mv (oN (L6.igt Z Z) (TO.nil ?_))));refine T.ifH Z h (fun q27 h=>?_) (fun q27 h=>?_)
      ·refine T.skip (T.seq (T.block (T.region (oN mv (oN mv (jB h fun v28 cv28 h=>oA (EvA.call Z Z Z ((nO (⟨s24.1,s24.2.1⟩:ae) ver0 cv28).one 0 Z (.cons (.hp Z) .nil) (av Z) (av Z) Z)) (oN (L6.mkF (c:=Ma.c) ([v28.2]:List Ma) [(Ma.c v28.2)] lW Z Z Z (fun _=>Z) Ma.isF Z) (jL h fun g29 h=>oA (EvA.app1 (g:=false) (l:=s24.2.2.1) v28.2 lW (by kernel_rfl) Z Z Z nofun (aI.fz (l:=([v28.2]:List Ma)) Z (fun _=>Z)) g29) (oN (L6.asg (hS false 2 (u26+1) 4 ((s24.2.2.1++[v28.2]).length)) Z) (TO.nil (T.region (oN mv (jW h fun g30 h=>?_)))))))))))));refine oN (L6.sub Z Z g30) (oN as' (TO.nil ?_));obtain rfl:=L9 h;exact ⟨(v28.1.b,v28.1.p,(s24.2.2.1++[v28.2]),(s24.2.2.2-V)),u26+1,Z,trivial,kw Z Z⟩
      ·refine T.exit (lX h fun h=>?_)
       cases h
       exact ⟨u26,trivial,kw Z Z⟩
   ·refine T.exit (lX h fun h=>?_)
    cases h
    exact ⟨u16,trivial,kw Z Z⟩
 ·refine T.sr (oN mv (jB h fun v3 cv3 h=>oA (EvA.call Z Z Z ((aF (⟨r_.b,r_.p⟩:ae) (3:Int) ver0 cv3).one 0 Z (.cons (.hp Z) (.cons (.pF Z) .nil)) (av Z) (av Z) Z)) (oN (L6.igt Z Z) (TO.nil ?_))));refine T.ifH Z h (fun q4 h=>?_) (fun q4 h=>?_)
  ·refine T.sr (oN mv (oN mv (oN mv (oN (L6.lenL vW Z) (jB h fun v5 cv5 h=>oA (EvA.call Z Z Z ((aF (⟨v3.1.b,v3.1.p⟩:ae) (v1.length:Int) ver0 cv5).one 0 Z (.cons (.hp Z) (.cons (.pF Z) .nil)) (av Z) (av Z) Z)) (jD h fun g6 h=>oN (L6.ixL vW Z Z g6 (fun _=>Z)) (oN (lf (St (J v1 v5.2)) ty9 Z) (oC h (fun _=>ko _) Z Z Z Z fun v7 _ h=>oN mv (oN (L6.ext (eL (cL Ma.c) v7.1) Z Z) (oN (L6.ext (Bo v7.2) Z Z) (oN as' (oN as' ?_))))))))))));refine TO.nil (T.seq (T.clean (H0:=[some ⟨ver0,2,103,[(ae.c v5.1)]⟩]) (e0:=ai [(5,Bo v7.2),(4,eL (cL Ma.c) v7.1),(0,.hp 0 ver0 2 0 0)]) Z (LZ Z (LZ Z (LZ Z LY))) (T.region (oN mv (TO.nil ?_)))));refine T.ifH Z h (fun q8 h=>?_) (fun q8 h=>?_)
   ·refine T.sr (oN mv (oN as' (TO.nil (T.ret ?_))));obtain rfl:=L9 h;replace h:=congrArg some (show _=_ from ks2);obtain rfl:=L9 h
    repeat (first|refine fE ?_|refine fF ?_)
    exact ⟨ai [(2,eL (cL Ma.c) v7.1)],[some ⟨ver0,2,103,[(ae.c (⟨v5.1.b,v5.1.p⟩:ae))]⟩],kw Z Z,Fin.ret (vs:=[eL (cL Ma.c) v7.1]) (.cons (.tmp Z) .nil) ⟨Z,Z⟩⟩
   ·refine T.skip ?_;obtain rfl:=L9 h;exact ⟨(v5.1.b,v5.1.p),(),ks2,trivial,kw Z Z⟩
  ·refine T.skip ?_;obtain rfl:=L9 h;exact ⟨(v3.1.b,v3.1.p),(),ks2,trivial,kw Z Z⟩
set_option maxHeartbeats 4000000 in
theorem nP (p:List (List Ma)) (loc:Int) (writes:Bool) {q:Int} (h:gP p loc writes=some q):aB Tryz.prog 107 [eL (cL Ma.c) p,I loc,Bo writes] (I q):=by
 refine pM Tryz.func107 Z (by kernel_rfl) Z (T.sr (oN as' (TO.nil (T.sr (oN as' (TO.nil ?_))))));refine T.jU h (fun s1=>[(7,I s1)]) (fun s1=>[]) (fun s1 h=>?_) (fun s1 h=>?_)
 ·refine T.sr (oN mv (oN as' (TO.nil (T.ret ?_))))
  cases h
  exact cu Z Z Z
 ·refine T.sr (oN as' (TO.nil (T.block ?_)));refine T.lU h (fun s4=>[(8,I s4.1),(7,I s4.2),(0,eL (cL Ma.c) p),(1,I loc),(2,Bo writes)]) (fun s4=>[]) (kw Z Z) (fun s4 ws4 h=>?_);refine T.seq (T.sr (oN mv (oN mv (oN (L6.lenL gI Z) (oN (L6.ilt Z Z) (TO.nil ?_))))));refine T.ifH Z h (fun q6 h=>?_) (fun q6 h=>?_)
  ·refine T.skip ?_;refine T.jU h (fun s7=>[(8,I s4.1),(7,I s7),(0,eL (cL Ma.c) p),(1,I loc),(2,Bo writes)]) (fun s7=>[]) (fun s7 h=>?_) (fun s7 h=>?_)
   ·refine T.region (oN mv (jW h fun g29 h=>oN (L6.add Z Z g29) (oN as' (TO.nil ?_))));exact lE h (kw Z Z)
   ·refine T.block (T.sr (oN as' (TO.nil (T.block ?_))));refine T.lU h (fun s10=>[(9,I s10.1),(8,I s4.1),(7,I s10.2),(0,eL (cL Ma.c) p),(1,I loc),(2,Bo writes)]) (fun s10=>[]) (kw Z Z) (fun s10 ws10 h=>?_);refine T.seq (T.sr (oN mv (oN mv (oN mv (jD h fun g12 h=>oN (L6.ixL gI Z Z g12 (fun _=>Z)) (oN (lf (eL Ma.c (J p s4.1)) qw Z) (oN (L6.lenL lW Z) (oN (L6.ilt Z Z) (TO.nil ?_)))))))));refine T.ifH Z h (fun q13 h=>?_) (fun q13 h=>?_)
    ·refine T.skip ?_;refine T.jU h (fun s14=>[(7,I s14),(9,I s10.1),(8,I s4.1),(0,eL (cL Ma.c) p),(1,I loc),(2,Bo writes)]) (fun s14=>[]) (fun s14 h=>?_) (fun s14 h=>?_)
     ·refine T.region (oN mv (jW h fun g28 h=>oN (L6.add Z Z g28) (oN as' (TO.nil ?_))));exact lE h (kw Z Z)
     ·refine T.block (T.sr (oN mv (oN mv (oN (L6.ixL gI Z Z g12 (fun _=>Z)) (oN (lf (eL Ma.c (J p s4.1)) qw Z) (oN mv (jD h fun g15 h=>oN (L6.ixL lW Z Z g15 (fun _=>Z)) (oN (lf (.agg (Ma.c (J (J p s4.1) s10.1))) gV Z) (oA (EvA.al qD Z Z) (oV (sr (Ma.c (J (J p s4.1) s10.1)) gV Z Z Z Z) (TO.nil (T.sr (oN (fa kg Z) (oA (lh (I ((J (J p s4.1) s10.1).Loc)) Mo Z Z Z) ?_))))))))))))));refine oN mv (oN (L6.ieq Z Z) (oN mv ?_));refine TO.jB h 14 (fun s16=>[(51,Bo s16),(9,I s10.1),(8,I s4.1),(7,I s10.2),(0,eL (cL Ma.c) p),(1,I loc),(2,Bo writes)]) (fun s16=>[some ⟨0,4,70,[(Ma.c (J (J p s4.1) s10.1))]⟩]) (fun s16 q17 h js16=>?_) (fun s16 q17 h js16=>?_) (fun s16 h=>?_)
      ·refine gN Z q17 mv (gN Z q17 mv ?_);refine TO.jB h 3 (fun s18=>[(42,Bo s18),(39,Bo writes),(38,Bo writes),(37,Bo (((J (J p s4.1) s10.1).Loc)==loc)),(10,.hp 0 0 4 0 0),(9,I s10.1),(8,I s4.1),(7,I s10.2),(0,eL (cL Ma.c) p),(1,I loc),(2,Bo writes)]) (fun s18=>[some ⟨0,4,70,[(Ma.c (J (J p s4.1) s10.1))]⟩]) (fun s18 q19 h js18=>?_) (fun s18 q19 h js18=>?_) (fun s18 h=>?_)
       ·refine gA Z q19 (lh (.agg (Ma.c (J (J p s4.1) s10.1))) gV Z Z Z) (jB h fun v20 cv20 h=>gN Z q19 (L6.call Z Z Z (mN (⟨(J (J p s4.1) s10.1).Op,(J (J p s4.1) s10.1).Loc,(J (J p s4.1) s10.1).Reg,(J (J p s4.1) s10.1).Val⟩:Ma) cv20) Z) (gN Z q17 (L6.pickT Z q19 (Bo v20) Z) ?_))
        cases h
        exact js18 _ _ (kw Z Z)
       ·refine gS Z q19 (gS Z q19 (gN Z q17 (L6.pickF Z q19 (Bo false) Z) ?_))
        cases h
        exact js18 _ _ (kw Z Z)
       ·refine gN Z q17 mv ?_;refine TO.jB h 7 (fun s21=>[(50,Bo s21),(43,Bo s18),(42,Bo s18),(39,Bo writes),(38,Bo writes),(37,Bo (((J (J p s4.1) s10.1).Loc)==loc)),(9,I s10.1),(8,I s4.1),(7,I s10.2),(0,eL (cL Ma.c) p),(1,I loc),(2,Bo writes)]) (fun s21=>[some ⟨0,4,70,[(Ma.c (J (J p s4.1) s10.1))]⟩]) (fun s21 q22 h js21=>?_) (fun s21 q22 h js21=>?_) (fun s21 h=>?_)
        ·refine gS Z q22 (gS Z q22 (gS Z q22 (gU Z (gU Z (gS Z q22 (gN Z q17 (L6.pickT Z q22 (Bo true) Z) ?_))))))
         cases h
         exact js21 _ _ (kw Z Z)
        ·refine gN Z q22 mv (gN Z q22 (L6.not Z) (gN Z q22 mv ?_));refine TO.jB h 3 (fun s23=>[(49,Bo s23),(46,Bo (!writes)),(45,Bo (!writes)),(44,Bo writes),(43,Bo s18),(42,Bo s18),(39,Bo writes),(38,Bo writes),(37,Bo (((J (J p s4.1) s10.1).Loc)==loc)),(9,I s10.1),(8,I s4.1),(7,I s10.2),(0,eL (cL Ma.c) p),(1,I loc),(2,Bo writes)]) (fun s23=>[some ⟨0,4,70,[(Ma.c (J (J p s4.1) s10.1))]⟩]) (fun s23 q24 h js23=>?_) (fun s23 q24 h js23=>?_) (fun s23 h=>?_)
         ·refine gA Z q24 (lh (.agg (Ma.c (J (J p s4.1) s10.1))) gV Z Z Z) (jB h fun v25 cv25 h=>gN Z q24 (L6.call Z Z Z (nM (⟨(J (J p s4.1) s10.1).Op,(J (J p s4.1) s10.1).Loc,(J (J p s4.1) s10.1).Reg,(J (J p s4.1) s10.1).Val⟩:Ma) cv25) Z) (gN Z q22 (L6.pickT Z q24 (Bo v25) Z) ?_))
          cases h
          exact js23 _ _ (kw Z Z)
         ·refine gS Z q24 (gS Z q24 (gN Z q22 (L6.pickF Z q24 (Bo false) Z) ?_))
          cases h
          exact js23 _ _ (kw Z Z)
         ·refine gN Z q17 (L6.pickF Z q22 (Bo s23) Z) ?_
          cases h
          exact js21 _ _ (kw Z Z)
        ·refine oN (L6.pickT Z q17 (Bo s21) Z) ?_
         cases h
         exact js16 _ _ (kw Z Z)
      ·refine gS Z q17 (gS Z q17 (gU Z (gU Z (gS Z q17 (gS Z q17 (gU Z (gU Z (gU Z (gU Z (gU Z (gU Z (gS Z q17 (oN (L6.pickF Z q17 (Bo false) Z) ?_)))))))))))))
       cases h
       exact js16 _ _ (kw Z Z)
      ·refine TO.nil ?_;refine T.ifH Z h (fun q26 h=>?_) (fun q26 h=>?_)
       ·refine T.region (oN mv (jW h fun g27 h=>oN (L6.add Z Z g27) (oN as' (TO.nil ?_))))
        cases h
        exact ⟨(),trivial,ik Z .nil (aa (.fz (.of_isF 9 _ Z)) (aa (.fz (.of_isF 9 _ Z)) (aa (.fz (.of_isF 9 _ Z)) (aa (.fz (.of_isF 9 _ Z)) (aa (.fz (.of_isF 9 _ Z)) (aa (.fz (.of_isF 9 _ Z)) ax))))))⟩
       ·refine T.skip ?_
        cases h
        exact ⟨(),trivial,ik Z .nil (aa (.fz (.of_isF 9 _ Z)) (aa (.fz (.of_isF 9 _ Z)) (aa (.fz (.of_isF 9 _ Z)) (aa (.fz (.of_isF 9 _ Z)) (aa (.fz (.of_isF 9 _ Z)) (aa (.fz (.of_isF 9 _ Z)) ax))))))⟩
    ·refine T.exit (lX h fun h=>?_)
     cases h
     exact ⟨(),trivial,kw Z Z⟩
  ·refine T.exit (lX h fun h=>?_)
   cases h
   exact ⟨(),trivial,kw Z Z⟩
theorem uq (p:List (List Ma)) (most:Int) {q:Int} (h:jO p most=some q):aB Tryz.prog 80 [eL (cL Ma.c) p,I most] (I q):=by
 refine pM Tryz.func80 Z (by kernel_rfl) Z (T.sr (oN as' (TO.nil (T.sr (oN as' (TO.nil ?_))))));refine T.jU h (fun s1=>[(5,I s1),(1,I most)]) (fun s1=>[]) (fun s1 h=>?_) (fun s1 h=>?_)
 ·refine T.seq (T.sr (oN mv (oN mv (oN (L6.igt Z Z) (TO.nil ?_)))));refine T.ifH Z h (fun q31 h=>?_) (fun q31 h=>?_)
  ·refine T.sr (oN mv (jW h fun g32 h=>oN (L6.add Z Z g32) (oN as' (TO.nil (T.ret ?_)))))
   cases h
   exact cu Z Z Z
  ·refine T.skip (T.sr (oN mv (oN as' (TO.nil (T.ret ?_)))))
   cases h
   exact cu Z Z Z
 ·refine T.sr (oN as' (TO.nil (T.block ?_)));refine T.lU h (fun s4=>[(6,I s4.1),(5,I s4.2),(0,eL (cL Ma.c) p),(1,I most)]) (fun s4=>[]) (kw Z Z) (fun s4 ws4 h=>?_);refine T.seq (T.sr (oN mv (oN (L6.ile Z Z) (TO.nil ?_))));refine T.ifH Z h (fun q6 h=>?_) (fun q6 h=>?_)
  ·refine T.skip ?_;refine T.jU h (fun s7=>[(6,I s4.1),(5,I s7),(0,eL (cL Ma.c) p),(1,I most)]) (fun s7=>[]) (fun s7 h=>?_) (fun s7 h=>?_)
   ·refine T.region (oN mv (jW h fun g30 h=>oN (L6.add Z Z g30) (oN as' (TO.nil ?_))));exact lE h (kw Z Z)
   ·refine T.block (T.sr (oN mv (oN mv (oC h (fun _=>nP _ _ _) Z Z Z Z fun v8 _ h=>oN as' (TO.nil ?_)))));refine T.jU h (fun s9=>[(7,I v8),(6,I s4.1),(5,I s9),(0,eL (cL Ma.c) p),(1,I most)]) (fun s9=>[]) (fun s9 h=>?_) (fun s9 h=>?_)
    ·refine T.sr (oN as' (TO.nil (T.block ?_)));refine T.lU h (fun s23=>[(9,I s23.1),(7,I v8),(6,I s4.1),(5,I s23.2),(0,eL (cL Ma.c) p),(1,I most)]) (fun s23=>[]) (kw Z Z) (fun s23 ws23 h=>?_);refine T.seq (T.sr (oN mv (oN mv (oN (L6.ile Z Z) (oN mv ?_)))));refine TO.jB h 4 (fun s25=>[(40,Bo s25),(9,I s23.1),(7,I v8),(6,I s4.1),(5,I s23.2),(0,eL (cL Ma.c) p),(1,I most)]) (fun s25=>[]) (fun s25 q26 h js25=>?_) (fun s25 q26 h js25=>?_) (fun s25 h=>?_)
     ·refine gN Z q26 mv (gN Z q26 mv (gN Z q26 (L6.ile Z Z) (oN (L6.pickT Z q26 (Bo (decide (s23.2<=most))) Z) ?_)))
      cases h
      exact js25 _ _ (kw Z Z)
     ·refine gS Z q26 (gS Z q26 (gS Z q26 (oN (L6.pickF Z q26 (Bo false) Z) ?_)))
      cases h
      exact js25 _ _ (kw Z Z)
     ·refine TO.nil ?_;refine T.ifH Z h (fun q27 h=>?_) (fun q27 h=>?_)
      ·refine T.skip (T.seq (T.block (T.region (oN mv (oN mv (jW h fun g28 h=>oN (L6.mul Z Z g28) (oN as' (TO.nil (T.region (oN mv (jW h fun g29 h=>oN (L6.add Z Z g29) (oN as' (TO.nil ?_)))))))))))));exact lE h (kw Z Z)
      ·refine T.exit (lX h fun h=>?_)
       cases h
       exact ⟨(),trivial,kw Z Z⟩
    ·refine T.sr (oN as' (TO.nil (T.block ?_)));refine T.lU h (fun s12=>[(8,I s12.1),(7,I v8),(6,I s4.1),(5,I s12.2),(0,eL (cL Ma.c) p),(1,I most)]) (fun s12=>[]) (kw Z Z) (fun s12 ws12 h=>?_);refine T.seq (T.sr (oN mv (oN mv (oN mv (oC h (fun _=>nP _ _ _) Z Z Z Z fun v14 _ h=>oN (L6.ilt Z Z) (oN mv ?_))))));refine TO.jB h 4 (fun s15=>[(26,Bo s15),(8,I s12.1),(7,I v8),(6,I s4.1),(5,I s12.2),(0,eL (cL Ma.c) p),(1,I most)]) (fun s15=>[]) (fun s15 q16 h js15=>?_) (fun s15 q16 h js15=>?_) (fun s15 h=>?_)
     ·refine gN Z q16 mv (gN Z q16 mv (gN Z q16 (L6.ile Z Z) (oN (L6.pickT Z q16 (Bo (decide (s12.2<=most))) Z) ?_)))
      cases h
      exact js15 _ _ (kw Z Z)
     ·refine gS Z q16 (gS Z q16 (gS Z q16 (oN (L6.pickF Z q16 (Bo false) Z) ?_)))
      cases h
      exact js15 _ _ (kw Z Z)
     ·refine TO.nil ?_;refine T.ifH Z h (fun q17 h=>?_) (fun q17 h=>?_)
      ·refine T.skip (T.seq (T.block (T.region (oN mv (oN mv (jW h fun g18 h=>oN (L6.add Z Z g18) (jW h fun g19 h=>oN (L6.mul Z Z g19) (oN as' (TO.nil (T.region (oN mv (jW h fun g20 h=>oN (L6.add Z Z g20) ?_))))))))))));refine oN as' (TO.nil ?_);exact lE h (kw Z Z)
      ·refine T.exit (lX h fun h=>?_)
       cases h
       exact ⟨(),trivial,kw Z Z⟩
  ·refine T.exit (lX h fun h=>?_)
   cases h
   exact ⟨(),trivial,kw Z Z⟩
theorem ut (r_:ae) (ver0:Nat) {q:ae×(List (List Ma))} (h:jP r_=some q):ez Tryz.prog 41 [.hp 0 ver0 2 0 0] [some ⟨ver0,2,103,[(ae.c r_)]⟩] (eL (cL Ma.c) q.2) [some ⟨ver0,2,103,[(ae.c q.1)]⟩]:=by
 refine aM Tryz.func41 Z (by kernel_rfl) Z (T.sr (oN as' (TO.nil (T.sr (oN mv (jB h fun v1 cv1 h=>oA (EvA.call Z Z Z ((wD (⟨r_.b,r_.p⟩:ae) ver0 cv1).one 0 Z (.cons (.hp Z) .nil) (av Z) (av Z) Z)) (oN as' (TO.nil (T.seq (T.sr (oN mv (oC h (fun _=>uq _ _) Z Z Z Z fun v2 _ h=>oN (L6.ile Z Z) (TO.nil ?_)))))))))))));refine T.ifH Z h (fun q3 h=>?_) (fun q3 h=>?_)
 ·refine T.sr (oN mv (oN as' (TO.nil (T.ret ?_))));obtain rfl:=L9 h
  repeat (first|refine fE ?_|refine fF ?_)
  exact ⟨ai [(2,eL (cL Ma.c) v1.2)],[some ⟨ver0,2,103,[(ae.c (⟨v1.1.b,v1.1.p⟩:ae))]⟩],kw Z Z,Fin.ret (vs:=[eL (cL Ma.c) v1.2]) (.cons (.tmp Z) .nil) ⟨Z,Z⟩⟩
 ·refine T.skip (T.sr (oC h (fun _=>ko _) Z Z Z Z fun v4 _ h=>oN mv (oN (L6.ext (eL (cL Ma.c) v4.1) Z Z) (oN (L6.ext (Bo v4.2) Z Z) (oN as' (oN as' (TO.nil (T.sr (oN mv (oN as' (TO.nil (T.ret ?_))))))))))));obtain rfl:=L9 h
  repeat (first|refine fE ?_|refine fF ?_)
  exact ⟨ai [(2,eL (cL Ma.c) v4.1)],[some ⟨ver0,2,103,[(ae.c (⟨v1.1.b,v1.1.p⟩:ae))]⟩],kw Z Z,Fin.ret (vs:=[eL (cL Ma.c) v4.1]) (.cons (.tmp Z) .nil) ⟨Z,Z⟩⟩
theorem nV (code:LI) {q:(List (List Ma))} (h:dI code=some q):aB Tryz.prog 15 [eL cY code] (eL (cL Ma.c) q):=by
 refine pM Tryz.func15 Z (by kernel_rfl) Z (T.sr (oN as' (TO.nil (T.sr (oN mv (jB h fun v1 cv1 h=>oA (EvA.call Z Z Z ((ub code cv1).fresh Z (av Z) 0 Z)) (oN as' (TO.nil (T.sr (oN mv (oN mv (jB h fun v2 cv2 h=>oA (EvA.call Z Z Z ((ut (⟨v1.b,v1.p⟩:ae) 0 cv2).one 0 Z (.cons (.hp Z) .nil) (av Z) (av Z) Z)) (jB h fun v3 cv3 h=>?_)))))))))))));refine oA (EvA.call Z Z Z ((sU (⟨v2.1.b,v2.1.p⟩:ae) v2.2 0 cv3).one 0 Z (.cons (.hp Z) (.cons (.pF Z) .nil)) (av Z) (av Z) Z)) (oN as' (TO.nil (T.ret ?_)))
 cases h
 exact cu Z Z Z
theorem wE (a:LI) (b:LI) {q:Bool} (h:kS a b=some q):aB Tryz.prog 42 [eL cI a,eL cI b] (Bo q):=by
 refine pM Tryz.func42 Z (by kernel_rfl) Z (T.sr (oN as' (TO.nil (T.seq (T.sr (oN mv (oN (L6.lenL bC Z) (oN mv (oN (L6.lenL bC Z) (oN (L6.ine Z Z) (TO.nil ?_)))))))))));refine T.ifH Z h (fun q1 h=>?_) (fun q1 h=>?_)
 ·refine T.sr (oN as' (TO.nil (T.ret ?_)))
  cases h
  exact cu Z Z Z
 ·refine T.skip ?_;obtain ⟨Ks2,es2,ws2,h,ks2⟩:=zu h;refine T.join (S:=Unit) (G:=Unit) (fun s2=>Ks2 s2=some q) (fun s2 gh=>True) (fun s2 gh=>[]) (fun s2 gh=>[]) (fun s2 gh h hg=>?_) ?_
  ·clear ks2;subst es2;refine T.sr (oN as' (TO.nil (T.ret ?_)))
   cases h
   exact cu Z Z Z
  ·refine T.sr (oN as' (TO.nil (T.block ?_)));refine T.lU h (fun s5=>[(5,I s5),(0,eL cI a),(1,eL cI b)]) (fun s5=>[]) (kw Z Z) (fun s5 ws5 h=>?_);refine T.seq (T.sr (oN mv (oN mv (oN (L6.lenL bC Z) (oN (L6.ilt Z Z) (TO.nil ?_))))));refine T.ifH Z h (fun q7 h=>?_) (fun q7 h=>?_)
   ·refine T.skip (T.seq (T.block (T.seq (T.drawF (fun _=>([],false)) (by kernel_rfl) (by kernel_rfl) (fN Z mv (fN Z mv (jD h fun g8 h=>fN Z (L6.ixL bC Z Z g8 (fun _=>Z)) (fN Z (lf (I (J a s5)) Mo Z) (fN Z mv (fN Z mv (jD h fun g9 h=>fN Z (L6.ixL bC Z Z g9 (fun _=>Z)) (fN Z (lf (I (J b s5)) Mo Z) (fN Z (L6.ine Z Z) ?_)))))))))))));refine TF.nil ?_;refine T.ifH Z h (fun q10 h=>?_) (fun q10 h=>?_)
    ·refine T.seq (T.clean (H0:=[]) (e0:=ai []) Z LY (T.region (oN as' (TO.nil (T.ret (lX h fun h=>?_))))));obtain rfl:=L9 h;replace h:=congrArg some (show _=_ from ks2)
     cases h
     exact cu Z Z Z
    ·refine T.skip (T.region (oN mv (jW h fun g11 h=>oN (L6.add Z Z g11) (oN as' (TO.nil ?_)))));exact lE h (kw Z Z)
   ·refine T.exit (lX h fun h=>?_)
    cases h
    exact ⟨(),(),ks2,trivial,kw Z Z⟩
theorem nQ (a:LL) (b:LL) {q:Bool} (h:gQ a b=some q):aB Tryz.prog 16 [eL (cL cI) a,eL (cL cI) b] (Bo q):=by
 refine pM Tryz.func16 Z (by kernel_rfl) Z (T.sr (oN as' (TO.nil (T.seq (T.sr (oN mv (oN (L6.lenL bU Z) (oN mv (oN (L6.lenL bU Z) (oN (L6.ine Z Z) (TO.nil ?_)))))))))));refine T.ifH Z h (fun q1 h=>?_) (fun q1 h=>?_)
 ·refine T.sr (oN as' (TO.nil (T.ret ?_)))
  cases h
  exact cu Z Z Z
 ·refine T.skip ?_;obtain ⟨Ks2,es2,ws2,h,ks2⟩:=zu h;refine T.join (S:=Unit) (G:=Unit) (fun s2=>Ks2 s2=some q) (fun s2 gh=>True) (fun s2 gh=>[]) (fun s2 gh=>[]) (fun s2 gh h hg=>?_) ?_
  ·clear ks2;subst es2;refine T.sr (oN as' (TO.nil (T.ret ?_)))
   cases h
   exact cu Z Z Z
  ·refine T.sr (oN as' (TO.nil (T.block ?_)));refine T.lU h (fun s5=>[(5,I s5),(0,eL (cL cI) a),(1,eL (cL cI) b)]) (fun s5=>[]) (kw Z Z) (fun s5 ws5 h=>?_);refine T.seq (T.sr (oN mv (oN mv (oN (L6.lenL bU Z) (oN (L6.ilt Z Z) (TO.nil ?_))))));refine T.ifH Z h (fun q7 h=>?_) (fun q7 h=>?_)
   ·refine T.skip (T.seq (T.block (T.seq (T.drawF (fun _=>([],false)) (by kernel_rfl) (by kernel_rfl) (fN Z mv (fN Z mv (jD h fun g8 h=>fN Z (L6.ixL bU Z Z g8 (fun _=>Z)) (fN Z (lf (eL cI (J a s5)) lu Z) (fN Z mv (fN Z mv (jD h fun g9 h=>fN Z (L6.ixL bU Z Z g9 (fun _=>Z)) (fN Z (lf (eL cI (J b s5)) lu Z) (fC h (fun _=>wE _ _) Z Z Z Z Z fun v10 _ h=>?_)))))))))))));refine fN Z (L6.not Z) (TF.nil ?_);refine T.ifH Z h (fun q11 h=>?_) (fun q11 h=>?_)
    ·refine T.seq (T.clean (H0:=[]) (e0:=ai []) Z LY (T.region (oN as' (TO.nil (T.ret (lX h fun h=>?_))))));obtain rfl:=L9 h;replace h:=congrArg some (show _=_ from ks2)
     cases h
     exact cu Z Z Z
    ·refine T.skip (T.region (oN mv (jW h fun g12 h=>oN (L6.add Z Z g12) (oN as' (TO.nil ?_)))));exact lE h (kw Z Z)
   ·refine T.exit (lX h fun h=>?_)
    cases h
    exact ⟨(),(),ks2,trivial,kw Z Z⟩
theorem nE (p:List (List Ma)) {q:Int} (h:dw p=some q):aB Tryz.prog 22 [eL (cL Ma.c) p] (I q):=by
 refine pM Tryz.func22 Z (by kernel_rfl) Z (T.sr (oN as' (TO.nil (T.seq (T.sr (oN mv (oC h (fun _=>aZ _) Z Z Z Z fun v1 _ h=>oN (L6.not Z) (TO.nil ?_))))))));refine T.ifH Z h (fun q2 h=>?_) (fun q2 h=>?_)
 ·refine T.sr (oN as' (TO.nil (T.ret ?_)))
  cases h
  exact cu Z Z Z
 ·refine T.skip (T.sr (oN as' (oN as' (TO.nil ?_))));refine T.jU h (fun s3=>[(3,I s3)]) (fun s3=>[]) (fun s3 h=>?_) (fun s3 h=>?_)
  ·refine T.sr (oN mv (oN as' (TO.nil (T.ret ?_))))
   cases h
   exact cu Z Z Z
  ·refine T.sr (oN mv (oN (L6.lenL gI Z) (oN mv (TO.nil (T.block ?_)))));refine T.lU h (fun s6=>[(13,I s6.1),(12,I (p.length:Int)),(11,eL (cL Ma.c) p),(4,I s6.2.1),(3,I s6.2.2)]) (fun s6=>[]) (kw Z Z) (fun s6 ws6 h=>?_);refine T.sr (oN (L6.ilt Z Z) (TO.nil (T.seq ?_)));refine T.ifH Z h (fun q8 h=>?_) (fun q8 h=>?_)
   ·refine T.skip ?_;refine T.jU h (fun s9=>[(13,I s6.1),(12,I (p.length:Int)),(11,eL (cL Ma.c) p),(4,I s9.1),(3,I s9.2)]) (fun s9=>[]) (fun s9 h=>?_) (fun s9 h=>?_)
    ·refine T.region (jW h fun g21 h=>oN (L6.add Z Z g21) (oN mv (TO.nil ?_)));exact lE h (kw Z Z)
    ·refine T.block (T.sr (jD h fun g10 h=>oN (L6.ixL gI Z Z g10 (fun _=>Z)) (oN (lf (eL Ma.c (J p s6.1)) qw Z) (oN as' (TO.nil (T.sr (oN mv (oN (L6.lenL lW Z) (oN mv (TO.nil (T.block ?_)))))))))));refine T.lU h (fun s13=>[(19,I s13.1),(18,I ((J p s6.1).length:Int)),(13,I s6.1),(12,I (p.length:Int)),(11,eL (cL Ma.c) p),(4,I s13.2.1),(3,I s13.2.2)]) (fun s13=>[]) (kw Z Z) (fun s13 ws13 h=>?_);refine T.sr (oN (L6.ilt Z Z) (TO.nil (T.seq ?_)));refine T.ifH Z h (fun q15 h=>?_) (fun q15 h=>?_)
     ·refine T.skip (T.seq (T.block (T.sr (oN mv (oN as' (TO.nil (T.sr (oN mv (jW h fun g16 h=>oN (L6.add Z Z g16) (oN as' (TO.nil (T.region (oN mv (oN mv ?_))))))))))))));refine jW h fun g17 h=>oN (L6.mul Z Z g17) (oN mv (jW h fun g18 h=>oN (L6.add Z Z g18) (jD h fun g19 h=>jW h fun g20 h=>oN (L6.quo Z Z g19 g20) (oN as' (TO.nil (T.region (oN (L6.add Z Z g18) (oN mv (TO.nil ?_)))))))));exact lE h (kw Z Z)
     ·refine T.exit (lX h fun h=>?_)
      cases h
      exact ⟨(),trivial,kw Z Z⟩
   ·refine T.exit (lX h fun h=>?_)
    cases h
    exact ⟨(),trivial,kw Z Z⟩
theorem o5 (p:List (List Ma)) {q:(List ah)} (h:jk p=some q):aB Tryz.prog 86 [eL (cL Ma.c) p] (eL ah.c q):=by
 refine pM Tryz.func86 Z (by kernel_rfl) Z (T.sr (oN as' (TO.nil (T.seq (T.reserve (T.region (oN (L6.asg (hS true 0 0 2 (([]:List ah).length)) Z) (TO.nil ?_))))))));refine T.jF (G:=(Bool×Nat)) h (fun s1 gh=>(gh.1=true->s1=[])) (fun s1 gh=>[(3,hS gh.1 0 gh.2 2 s1.length)]) (fun s1 gh=>[bE gh.1 gh.2 2 127 (s1.map ah.c)]) (fun s1 gh h n34=>?_) (fun s1 h=>?_)
 ·obtain ⟨b33,u32⟩:=gh;refine T.sr (oN mv (oN (L6.asg (hS b33 0 u32 2 s1.length) Z) (TO.nil (T.ret ?_))));obtain rfl:=L9 h
  repeat (first|refine fE ?_|refine fF ?_)
  exact Fin.ret (vs:=[hS b33 0 u32 2 s1.length]) (.cons (.tmp Z) .nil) (Fz.own (g:=b33) (ver:=u32) (l:=s1) Z Z Z n34 ah.isF)
 ·refine T.sr (oN mv (oN (L6.lenL gI Z) (oN mv (TO.nil (T.block ?_)))));refine T.loop (S:=(List ah)×Int) (G:=(Bool×Nat)) (kG p) (fun s7 gh=>(gh.1=true->s7.1=[])) (fun s7 gh=>[(9,I s7.2),(8,I (p.length:Int)),(7,eL (cL Ma.c) p),(3,hS gh.1 0 gh.2 2 s7.1.length)]) (fun s7 gh=>[bE gh.1 gh.2 2 127 (s7.1.map ah.c)]) (s0:=(([]:List ah),U)) (true,0) h (fun _=>Z) (kw Z Z) (fun s7 gh ws7 h n11=>?_);obtain ⟨b10,u9⟩:=gh;refine T.sr (oN (L6.ilt Z Z) (TO.nil (T.seq ?_)));refine T.ifH Z h (fun q12 h=>?_) (fun q12 h=>?_)
  ·refine T.skip ?_;refine T.jF (G:=(Bool×Nat)) h (fun s13 gh=>(gh.1=true->s13=[])) (fun s13 gh=>[(9,I s7.2),(8,I (p.length:Int)),(7,eL (cL Ma.c) p),(3,hS gh.1 0 gh.2 2 s13.length)]) (fun s13 gh=>[bE gh.1 gh.2 2 127 (s13.map ah.c)]) (fun s13 gh h n30=>?_) (fun s13 h=>?_)
   ·obtain ⟨b29,u28⟩:=gh;refine T.region (jW h fun g31 h=>oN (L6.add Z Z g31) (oN mv (TO.nil ?_)));obtain rfl:=L9 h;exact ⟨(s13,(s7.2+V)),(b29,u28),Z,n30,kw Z Z⟩
   ·refine T.block (T.sr (oN mv (jD h fun g14 h=>oN (L6.ixL gI Z Z g14 (fun _=>Z)) (oN (lf (eL Ma.c (J p s7.2)) qw Z) (oN as' (oN as' (TO.nil (T.sr (oN mv (oN (L6.lenL lW Z) (oN mv (TO.nil (T.block ?_)))))))))))));refine T.loop (S:=(List ah)×Int) (G:=(Bool×Nat)) (jI p s7) (fun s20 gh=>(gh.1=true->s20.1=[])) (fun s20 gh=>[(16,I s20.2),(15,I ((J p s7.2).length:Int)),(4,I s7.2),(9,I s7.2),(8,I (p.length:Int)),(7,eL (cL Ma.c) p),(3,hS gh.1 0 gh.2 2 s20.1.length)]) (fun s20 gh=>[bE gh.1 gh.2 2 127 (s20.1.map ah.c)]) (s0:=(s7.1,U)) (b10,u9) h n11 (kw Z Z) (fun s20 gh ws20 h n24=>?_);obtain ⟨b23,u22⟩:=gh;refine T.sr (oN (L6.ilt Z Z) (TO.nil (T.seq ?_)));refine T.ifH Z h (fun q25 h=>?_) (fun q25 h=>?_)
    ·refine T.skip (T.seq (T.block (T.sr (oN mv (oN as' (TO.nil (T.region (oN mv (oN mv (oN mv (oN (L6.build [I s7.2,I s20.2] Tryz.underlying127 H8 BC Z Z) (oN (L6.mkF (c:=ah.c) ([(⟨s7.2,s20.2⟩:ah)]:List ah) [[I s7.2,I s20.2]] DI Z Z Z (fun _=>Z) ah.isF Z) (jL h fun g26 h=>oA (EvA.app1 (g:=b23) (l:=s20.1) (⟨s7.2,s20.2⟩:ah) DI (by kernel_rfl) Z Z Z n24 (aI.fz (l:=([(⟨s7.2,s20.2⟩:ah)]:List ah)) Z (fun _=>Z)) g26) (oN (L6.asg (hS false 0 (u22+1) 2 ((s20.1++[(⟨s7.2,s20.2⟩:ah)]).length)) Z) ?_))))))))))))));refine TO.nil (T.region (jW h fun g27 h=>oN (L6.add Z Z g27) (oN mv (TO.nil ?_))));obtain rfl:=L9 h;exact ⟨((s20.1++[(⟨s7.2,s20.2⟩:ah)]),(s20.2+V)),(false,u22+1),Z,nofun,kw Z Z⟩
    ·refine T.exit (lX h fun h=>?_)
     cases h
     exact ⟨(b23,u22),n24,kw Z Z⟩
  ·refine T.exit (lX h fun h=>?_)
   cases h
   exact ⟨(b10,u9),n11,kw Z Z⟩
theorem tG (x:Ma) (y:Ma) {q:Bool} (h:jl x y=some q):aB Tryz.prog 87 [.agg (Ma.c x),.agg (Ma.c y)] (Bo q):=by
 refine pM Tryz.func87 Z (by kernel_rfl) Z (T.sr (oN (L6.bxF (Ma.c x) Z Z Z) (oN (L6.bxF (Ma.c y) Z Z Z) (oN as' (TO.nil (T.sr (oN (fa kg Z) (oN (lf (I x.Op) Mo Z) (oN (L6.ine Z Z) (oN mv ?_))))))))));refine TO.jB h 4 (fun s1=>[(12,Bo s1),(3,.fp (Ma.c y) 0),(2,.fp (Ma.c x) 0)]) (fun s1=>[]) (fun s1 q2 h js1=>?_) (fun s1 q2 h js1=>?_) (fun s1 h=>?_)
 ·refine gN Z q2 (fa kg Z) (gN Z q2 (lf (I y.Op) Mo Z) (gN Z q2 (L6.ine Z Z) (oN (L6.pickT Z q2 (Bo (y.Op != (4:Int))) Z) ?_)))
  cases h
  exact js1 _ _ (kw Z Z)
 ·refine gS Z q2 (gS Z q2 (gS Z q2 (oN (L6.pickF Z q2 (Bo false) Z) ?_)))
  cases h
  exact js1 _ _ (kw Z Z)
 ·refine oN mv ?_;refine TO.jB h 6 (fun s3=>[(19,Bo s3),(3,.fp (Ma.c y) 0),(2,.fp (Ma.c x) 0)]) (fun s3=>[]) (fun s3 q4 h js3=>?_) (fun s3 q4 h js3=>?_) (fun s3 h=>?_)
  ·refine gN Z q4 (fa kg Z) (gN Z q4 (lf (I x.Loc) Mo Z) (gN Z q4 (fa kg Z) (gN Z q4 (lf (I y.Loc) Mo Z) (gN Z q4 (L6.ieq Z Z) (oN (L6.pickT Z q4 (Bo (x.Loc==y.Loc)) Z) ?_)))))
   cases h
   exact js3 _ _ (kw Z Z)
  ·refine gS Z q4 (gS Z q4 (gS Z q4 (gS Z q4 (gS Z q4 (oN (L6.pickF Z q4 (Bo false) Z) ?_)))))
   cases h
   exact js3 _ _ (kw Z Z)
  ·refine oN mv ?_;refine TO.jB h 7 (fun s5=>[(27,Bo s5)]) (fun s5=>[]) (fun s5 q6 h js5=>?_) (fun s5 q6 h js5=>?_) (fun s5 h=>?_)
   ·refine gN Z q6 (lf (.agg (Ma.c x)) gV Z) (jB h fun v7 cv7 h=>gN Z q6 (L6.call Z Z Z (bf x cv7) Z) (gN Z q6 mv ?_));refine TO.jB h 3 (fun s8=>[(26,Bo s8),(20,Bo s3)]) (fun s8=>[]) (fun s8 q9 h js8=>?_) (fun s8 q9 h js8=>?_) (fun s8 h=>?_)
    ·refine gS Z q9 (gS Z q9 (gN Z q6 (L6.pickT Z q9 (Bo true) Z) ?_))
     cases h
     exact js8 _ _ (kw Z Z)
    ·refine gN Z q9 (lf (.agg (Ma.c y)) gV Z) (jB h fun v10 cv10 h=>gN Z q9 (L6.call Z Z Z (bf y cv10) Z) (gN Z q6 (L6.pickF Z q9 (Bo v10) Z) ?_))
     cases h
     exact js8 _ _ (kw Z Z)
    ·refine oN (L6.pickT Z q6 (Bo s8) Z) ?_
     cases h
     exact js5 _ _ (kw Z Z)
   ·refine gS Z q6 (gS Z q6 (gS Z q6 (gU Z (gU Z (gS Z q6 (oN (L6.pickF Z q6 (Bo false) Z) ?_))))))
    cases h
    exact js5 _ _ (kw Z Z)
   ·refine oN as' (TO.nil (T.ret ?_))
    cases h
    exact cu Z Z Z
set_option maxHeartbeats 4000000 in
theorem uu (p:List (List Ma)) {q:(List ak)} (h:jQ p=some q):aB Tryz.prog 49 [eL (cL Ma.c) p] (eL ak.c q):=by
 refine pM Tryz.func49 Z (by kernel_rfl) Z (T.sr (oN as' (TO.nil (T.seq (T.sr (oN mv (oC h (fun _=>aZ _) Z Z Z Z fun v1 _ h=>oN (L6.not Z) (TO.nil ?_))))))));refine T.ifH Z h (fun q2 h=>?_) (fun q2 h=>?_)
 ·refine T.sr (oN as' (TO.nil (T.ret ?_)));obtain rfl:=L9 h
  repeat (first|refine fE ?_|refine fF ?_)
  exact Fin.ret (vs:=[.nil]) (.cons (.tmp Z) .nil) .nil0
 ·refine T.skip (T.seq (T.reserve (T.region (oN (L6.asg (hS true 0 0 4 (([]:List ak).length)) Z) (TO.nil ?_)))));refine T.jF (G:=(Bool×Nat)) h (fun s3 gh=>(gh.1=true->s3=[])) (fun s3 gh=>[(3,hS gh.1 0 gh.2 4 s3.length)]) (fun s3 gh=>[bE gh.1 gh.2 4 129 (s3.map ak.c)]) (fun s3 gh h n55=>?_) (fun s3 h=>?_)
  ·obtain ⟨b54,u53⟩:=gh;refine T.sr (oN mv (oN (L6.asg (hS b54 0 u53 4 s3.length) Z) (TO.nil (T.ret ?_))));obtain rfl:=L9 h
   repeat (first|refine fE ?_|refine fF ?_)
   exact Fin.ret (vs:=[hS b54 0 u53 4 s3.length]) (.cons (.tmp Z) .nil) (Fz.own (g:=b54) (ver:=u53) (l:=s3) Z Z Z n55 ak.isF)
  ·refine T.sr (oN mv (oC h (fun _=>o5 _) Z Z Z Z fun v4 _ h=>oN (L6.lenL DI Z) (oN mv (TO.nil (T.block ?_)))));refine T.loop (S:=(List ak)×Int) (G:=(Bool×Nat)) (jo p v4) (fun s10 gh=>(gh.1=true->s10.1=[])) (fun s10 gh=>[(16,I s10.2),(15,I (v4.length:Int)),(14,eL ah.c v4),(3,hS gh.1 0 gh.2 4 s10.1.length),(0,eL (cL Ma.c) p)]) (fun s10 gh=>[bE gh.1 gh.2 4 129 (s10.1.map ak.c)]) (s0:=(([]:List ak),U)) (true,0) h (fun _=>Z) (kw Z Z) (fun s10 gh ws10 h n14=>?_);obtain ⟨b13,u12⟩:=gh;refine T.sr (oN (L6.ilt Z Z) (TO.nil (T.seq ?_)));refine T.ifH Z h (fun q15 h=>?_) (fun q15 h=>?_)
   ·refine T.skip ?_;refine T.jF (G:=(Bool×Nat)) h (fun s16 gh=>(gh.1=true->s16=[])) (fun s16 gh=>[(16,I s10.2),(15,I (v4.length:Int)),(14,eL ah.c v4),(3,hS gh.1 0 gh.2 4 s16.length),(0,eL (cL Ma.c) p)]) (fun s16 gh=>[bE gh.1 gh.2 4 129 (s16.map ak.c)]) (fun s16 gh h n51=>?_) (fun s16 h=>?_)
    ·obtain ⟨b50,u49⟩:=gh;refine T.region (jW h fun g52 h=>oN (L6.add Z Z g52) (oN mv (TO.nil ?_)));obtain rfl:=L9 h;exact ⟨(s16,(s10.2+V)),(b50,u49),Z,n51,kw Z Z⟩
    ·refine T.block (T.sr (jD h fun g17 h=>oN (L6.ixL DI Z Z g17 (fun _=>Z)) (oN (lf (.agg (ah.c (J v4 s10.2))) BB Z) (oA (EvA.al H8 Z Z) (oV (sr (ah.c (J v4 s10.2)) BB Z Z Z Z) (TO.nil (T.sr (oN mv (oC h (fun _=>o5 _) Z Z Z Z fun v18 _ h=>oN (L6.lenL DI Z) (oN mv (TO.nil (T.block ?_))))))))))));refine T.loop (S:=(List ak)×Int) (G:=(Bool×Nat)) (jm p v4 s10 v18) (fun s24 gh=>(gh.1=true->s24.1=[])) (fun s24 gh=>[(23,I s24.2),(22,I (v18.length:Int)),(21,eL ah.c v18),(5,.hp 1 0 2 0 0),(16,I s10.2),(15,I (v4.length:Int)),(14,eL ah.c v4),(3,hS gh.1 0 gh.2 4 s24.1.length),(0,eL (cL Ma.c) p)]) (fun s24 gh=>[bE gh.1 gh.2 4 129 (s24.1.map ak.c),some ⟨0,2,127,[(ah.c (J v4 s10.2))]⟩]) (s0:=(s10.1,U)) (b13,u12) h n14 (kw Z Z) (fun s24 gh ws24 h n28=>?_);obtain ⟨b27,u26⟩:=gh;refine T.sr (oN (L6.ilt Z Z) (TO.nil (T.seq ?_)));refine T.ifH Z h (fun q29 h=>?_) (fun q29 h=>?_)
     ·refine T.skip ?_;refine T.jF (G:=(Bool×Nat)) h (fun s30 gh=>(gh.1=true->s30=[])) (fun s30 gh=>[(3,hS gh.1 0 gh.2 4 s30.length),(23,I s24.2),(22,I (v18.length:Int)),(21,eL ah.c v18),(5,.hp 1 0 2 0 0),(16,I s10.2),(15,I (v4.length:Int)),(14,eL ah.c v4),(0,eL (cL Ma.c) p)]) (fun s30 gh=>[bE gh.1 gh.2 4 129 (s30.map ak.c),some ⟨0,2,127,[(ah.c (J v4 s10.2))]⟩]) (fun s30 gh h n47=>?_) (fun s30 h=>?_)
      ·obtain ⟨b46,u45⟩:=gh;refine T.region (jW h fun g48 h=>oN (L6.add Z Z g48) (oN mv (TO.nil ?_)));obtain rfl:=L9 h;exact ⟨(s30,(s24.2+V)),(b46,u45),Z,n47,kw Z Z⟩
      ·refine T.block (T.sr (jD h fun g31 h=>oN (L6.ixL DI Z Z g31 (fun _=>Z)) (oN (lf (.agg (ah.c (J v18 s24.2))) BB Z) (oA (EvA.al H8 Z Z) (oV (sr (ah.c (J v18 s24.2)) BB Z Z Z Z) (TO.nil (T.seq (T.reserve (T.reserve (T.drawF (fun i=>[([],false),([],false),([1],false),([],false),([],false),([],false),([1],false),([],false),([],false),([],false),([],false),([2],false),([],false),([],false),([],false),([2],false),([],false),([],false),([3],true),([4],true),([3],true),([4],true)].getD i ([],false)) (by kernel_rfl) (by kernel_rfl) (fN Z mv (fN Z (fa BC Z) (fR [1] Z (fun G hG=>EvA.loadhp (I ((J v4 s10.2).Thread)) Mo Z (hG.a0 Z) Z Z Z Z) (jD h fun g32 h=>?_))))))))))))));refine fN Z (L6.ixL gI Z Z g32 (fun _=>Z)) (fN Z (lf (eL Ma.c (J p ((J v4 s10.2).Thread))) qw Z) (fN Z (fa BC Z) (fR [1] Z (fun G hG=>EvA.loadhp (I ((J v4 s10.2).Index)) Mo Z (hG.a0 Z) Z Z Z Z) (jD h fun g33 h=>fN Z (L6.ixL lW Z Z g33 (fun _=>Z)) (fN Z (lf (.agg (Ma.c (J (J p ((J v4 s10.2).Thread)) ((J v4 s10.2).Index)))) gV Z) (fN Z mv (fN Z (fa BC Z) (fR [2] Z (fun G hG=>EvA.loadhp (I ((J v18 s24.2).Thread)) Mo Z (hG.a0 Z) Z Z Z Z) (jD h fun g34 h=>fN Z (L6.ixL gI Z Z g34 (fun _=>Z)) (fN Z (lf (eL Ma.c (J p ((J v18 s24.2).Thread))) qw Z) (fN Z (fa BC Z) (fR [2] Z (fun G hG=>EvA.loadhp (I ((J v18 s24.2).Index)) Mo Z (hG.a0 Z) Z Z Z Z) (jD h fun g35 h=>?_)))))))))))));refine fN Z (L6.ixL lW Z Z g35 (fun _=>Z)) (fN Z (lf (.agg (Ma.c (J (J p ((J v18 s24.2).Thread)) ((J v18 s24.2).Index)))) gV Z) (fW 3 [] Z Z (fun G hG=>EvA.alR 3 qD Z Z (hG.a0 Z)) (fW 4 [] Z Z (fun G hG=>EvA.alR 4 qD Z Z (hG.a0 Z)) (fV 3 [] Z Z (fun G hG=>EvA.st (cs:=(Ma.c (J (J p ((J v4 s10.2).Thread)) ((J v4 s10.2).Index)))) ⟨0,4,70,[(Ma.c (J (J p ((J v4 s10.2).Thread)) ((J v4 s10.2).Index)))]⟩ gV Z Z (hG.a0 Z) Z Z Z Z Z Z) (fV 4 [] Z Z (fun G hG=>EvA.st (cs:=(Ma.c (J (J p ((J v18 s24.2).Thread)) ((J v18 s24.2).Index)))) ⟨0,4,70,[(Ma.c (J (J p ((J v18 s24.2).Thread)) ((J v18 s24.2).Index)))]⟩ gV Z Z (hG.a0 Z) Z Z Z Z Z Z) (TF.nil (T.seq (T.clean (H0:=[bE b27 u26 4 129 (s24.1.map ak.c),some ⟨0,2,127,[(ah.c (J v4 s10.2))]⟩,some ⟨0,2,127,[(ah.c (J v18 s24.2))]⟩,some ⟨0,4,70,[(Ma.c (J (J p ((J v4 s10.2).Thread)) ((J v4 s10.2).Index)))]⟩,some ⟨0,4,70,[(Ma.c (J (J p ((J v18 s24.2).Thread)) ((J v18 s24.2).Index)))]⟩]) (e0:=ai [(9,.hp 4 0 4 0 0),(8,.hp 3 0 4 0 0),(7,.hp 2 0 2 0 0),(23,I s24.2),(22,I (v18.length:Int)),(21,eL ah.c v18),(5,.hp 1 0 2 0 0),(16,I s10.2),(15,I (v4.length:Int)),(14,eL ah.c v4),(3,hS b27 0 u26 4 s24.1.length),(0,eL (cL Ma.c) p)]) Z (LZ Z (LZ Z (LZ Z (LZ Z (LZ Z (LZ Z (LZ Z (LZ Z (LZ Z (LZ Z (LZ Z (LZ Z LY)))))))))))) (T.region (oN (fa BC Z) (oA (lh (I ((J v4 s10.2).Thread)) Mo Z Z Z) (oN (fa BC Z) (oA (lh (I ((J v18 s24.2).Thread)) Mo Z Z Z) (oN (L6.ilt Z Z) (oN mv ?_)))))))))))))));refine TO.jB h 4 (fun s36=>[(54,Bo s36),(9,.hp 4 0 4 0 0),(8,.hp 3 0 4 0 0),(7,.hp 2 0 2 0 0),(23,I s24.2),(22,I (v18.length:Int)),(21,eL ah.c v18),(5,.hp 1 0 2 0 0),(16,I s10.2),(15,I (v4.length:Int)),(14,eL ah.c v4),(3,hS b27 0 u26 4 s24.1.length),(0,eL (cL Ma.c) p)]) (fun s36=>[bE b27 u26 4 129 (s24.1.map ak.c),some ⟨0,2,127,[(ah.c (J v4 s10.2))]⟩,some ⟨0,2,127,[(ah.c (J v18 s24.2))]⟩,some ⟨0,4,70,[(Ma.c (J (J p ((J v4 s10.2).Thread)) ((J v4 s10.2).Index)))]⟩,some ⟨0,4,70,[(Ma.c (J (J p ((J v18 s24.2).Thread)) ((J v18 s24.2).Index)))]⟩]) (fun s36 q37 h js36=>?_) (fun s36 q37 h js36=>?_) (fun s36 h=>?_)
       ·refine gA Z q37 (lh (.agg (Ma.c (J (J p ((J v4 s10.2).Thread)) ((J v4 s10.2).Index)))) gV Z Z Z) (gA Z q37 (lh (.agg (Ma.c (J (J p ((J v18 s24.2).Thread)) ((J v18 s24.2).Index)))) gV Z Z Z) (jB h fun v38 cv38 h=>gN Z q37 (L6.call Z Z Z (tG (⟨(J (J p ((J v4 s10.2).Thread)) ((J v4 s10.2).Index)).Op,(J (J p ((J v4 s10.2).Thread)) ((J v4 s10.2).Index)).Loc,(J (J p ((J v4 s10.2).Thread)) ((J v4 s10.2).Index)).Reg,(J (J p ((J v4 s10.2).Thread)) ((J v4 s10.2).Index)).Val⟩:Ma) (⟨(J (J p ((J v18 s24.2).Thread)) ((J v18 s24.2).Index)).Op,(J (J p ((J v18 s24.2).Thread)) ((J v18 s24.2).Index)).Loc,(J (J p ((J v18 s24.2).Thread)) ((J v18 s24.2).Index)).Reg,(J (J p ((J v18 s24.2).Thread)) ((J v18 s24.2).Index)).Val⟩:Ma) cv38) Z) (oN (L6.pickT Z q37 (Bo v38) Z) ?_)))
        cases h
        exact js36 _ _ (kw Z Z)
       ·refine gS Z q37 (gS Z q37 (gS Z q37 (oN (L6.pickF Z q37 (Bo false) Z) ?_)))
        cases h
        exact js36 _ _ (kw Z Z)
       ·refine oN mv ?_;refine TO.jB h 9 (fun s39=>[(64,Bo s39),(7,.hp 2 0 2 0 0),(23,I s24.2),(22,I (v18.length:Int)),(21,eL ah.c v18),(5,.hp 1 0 2 0 0),(16,I s10.2),(15,I (v4.length:Int)),(14,eL ah.c v4),(3,hS b27 0 u26 4 s24.1.length),(0,eL (cL Ma.c) p)]) (fun s39=>[bE b27 u26 4 129 (s24.1.map ak.c),some ⟨0,2,127,[(ah.c (J v4 s10.2))]⟩,some ⟨0,2,127,[(ah.c (J v18 s24.2))]⟩,some ⟨0,4,70,[(Ma.c (J (J p ((J v4 s10.2).Thread)) ((J v4 s10.2).Index)))]⟩,some ⟨0,4,70,[(Ma.c (J (J p ((J v18 s24.2).Thread)) ((J v18 s24.2).Index)))]⟩]) (fun s39 q40 h js39=>?_) (fun s39 q40 h js39=>?_) (fun s39 h=>?_)
        ·refine gN Z q40 (fa kg Z) (gA Z q40 (lh (I ((J (J p ((J v4 s10.2).Thread)) ((J v4 s10.2).Index)).Op)) Mo Z Z Z) (gN Z q40 (L6.ine Z Z) (gN Z q40 mv ?_)));refine TO.jB h 4 (fun s41=>[(63,Bo s41),(59,Bo (((J (J p ((J v4 s10.2).Thread)) ((J v4 s10.2).Index)).Op) != (5:Int))),(58,Bo (((J (J p ((J v4 s10.2).Thread)) ((J v4 s10.2).Index)).Op) != (5:Int))),(57,I ((J (J p ((J v4 s10.2).Thread)) ((J v4 s10.2).Index)).Op)),(56,.hp 3 0 4 0 0),(55,Bo s36),(7,.hp 2 0 2 0 0),(23,I s24.2),(22,I (v18.length:Int)),(21,eL ah.c v18),(5,.hp 1 0 2 0 0),(16,I s10.2),(15,I (v4.length:Int)),(14,eL ah.c v4),(3,hS b27 0 u26 4 s24.1.length),(0,eL (cL Ma.c) p)]) (fun s41=>[bE b27 u26 4 129 (s24.1.map ak.c),some ⟨0,2,127,[(ah.c (J v4 s10.2))]⟩,some ⟨0,2,127,[(ah.c (J v18 s24.2))]⟩,some ⟨0,4,70,[(Ma.c (J (J p ((J v4 s10.2).Thread)) ((J v4 s10.2).Index)))]⟩,some ⟨0,4,70,[(Ma.c (J (J p ((J v18 s24.2).Thread)) ((J v18 s24.2).Index)))]⟩]) (fun s41 q42 h js41=>?_) (fun s41 q42 h js41=>?_) (fun s41 h=>?_)
         ·refine gS Z q42 (gS Z q42 (gS Z q42 (gN Z q40 (L6.pickT Z q42 (Bo true) Z) ?_)))
          cases h
          exact js41 _ _ (kw Z Z)
         ·refine gN Z q42 (fa kg Z) (gA Z q42 (lh (I ((J (J p ((J v18 s24.2).Thread)) ((J v18 s24.2).Index)).Op)) Mo Z Z Z) (gN Z q42 (L6.ine Z Z) (gN Z q40 (L6.pickF Z q42 (Bo (((J (J p ((J v18 s24.2).Thread)) ((J v18 s24.2).Index)).Op) != (5:Int))) Z) ?_)))
          cases h
          exact js41 _ _ (kw Z Z)
         ·refine oN (L6.pickT Z q40 (Bo s41) Z) ?_
          cases h
          exact js39 _ _ (kw Z Z)
        ·refine gS Z q40 (gS Z q40 (gS Z q40 (gS Z q40 (gU Z (gU Z (gU Z (gS Z q40 (oN (L6.pickF Z q40 (Bo false) Z) ?_))))))))
         cases h
         exact js39 _ _ (kw Z Z)
        ·refine TO.nil ?_;refine T.ifH Z h (fun q43 h=>?_) (fun q43 h=>?_)
         ·refine T.region (oN mv (oA (lh (.agg (ah.c (J v4 s10.2))) BB Z Z Z) (oA (lh (.agg (ah.c (J v18 s24.2))) BB Z Z Z) (oN (L6.build (ak.c (⟨(J v4 s10.2),(J v18 s24.2)⟩:ak)) Tryz.underlying129 KI Lv Z Z) (oN (L6.mkF (c:=ak.c) ([(⟨(⟨(J v4 s10.2).Thread,(J v4 s10.2).Index⟩:ah),(⟨(J v18 s24.2).Thread,(J v18 s24.2).Index⟩:ah)⟩:ak)]:List ak) [(ak.c (⟨(J v4 s10.2),(J v18 s24.2)⟩:ak))] Lx Z Z Z (fun _=>Z) ak.isF Z) (jL h fun g44 h=>oA (EvA.app1 (g:=b27) (l:=s24.1) (⟨(⟨(J v4 s10.2).Thread,(J v4 s10.2).Index⟩:ah),(⟨(J v18 s24.2).Thread,(J v18 s24.2).Index⟩:ah)⟩:ak) Lx (by kernel_rfl) Z Z Z n28 (aI.fz (l:=([(⟨(⟨(J v4 s10.2).Thread,(J v4 s10.2).Index⟩:ah),(⟨(J v18 s24.2).Thread,(J v18 s24.2).Index⟩:ah)⟩:ak)]:List ak)) Z (fun _=>Z)) g44) (oN (L6.asg (hS false 0 (u26+1) 4 ((s24.1++[(⟨(⟨(J v4 s10.2).Thread,(J v4 s10.2).Index⟩:ah),(⟨(J v18 s24.2).Thread,(J v18 s24.2).Index⟩:ah)⟩:ak)]).length)) Z) (TO.nil ?_))))))));obtain rfl:=L9 h;exact ⟨(false,u26+1),nofun,ik Z (.cons (.list (g:=false) (ver:=u26+1) (l:=(s24.1++[(⟨(⟨(J v4 s10.2).Thread,(J v4 s10.2).Index⟩:ah),(⟨(J v18 s24.2).Thread,(J v18 s24.2).Index⟩:ah)⟩:ak)])) ak.isF) (.cons (.row (.cons (.fz (.of_isF 9 _ Z)) (.cons (.fz (.of_isF 9 _ Z)) .nil))) .nil)) (aa (.hS (g:=false) (b:=0) (ver:=u26+1) (s:=4) (n:=(s24.1++[(⟨(⟨(J v4 s10.2).Thread,(J v4 s10.2).Index⟩:ah),(⟨(J v18 s24.2).Thread,(J v18 s24.2).Index⟩:ah)⟩:ak)]).length) Z) (aa (.fz (.of_isF 9 _ Z)) (aa (.fz (.of_isF 9 _ Z)) (aa (.fz (.of_isF 9 _ Z)) (aa (.hp (nlb Z)) (aa (.fz (.of_isF 9 _ Z)) (aa (.fz (.of_isF 9 _ Z)) (aa (.fz (.of_isF 9 _ Z)) (aa (.fz (.of_isF 9 _ Z)) ax)))))))))⟩
         ·refine T.skip ?_;obtain rfl:=L9 h;exact ⟨(b27,u26),n28,ik Z (.cons (.list (g:=b27) (ver:=u26) (l:=s24.1) ak.isF) (.cons (.row (.cons (.fz (.of_isF 9 _ Z)) (.cons (.fz (.of_isF 9 _ Z)) .nil))) .nil)) (aa (.hS (g:=b27) (b:=0) (ver:=u26) (s:=4) (n:=s24.1.length) Z) (aa (.fz (.of_isF 9 _ Z)) (aa (.fz (.of_isF 9 _ Z)) (aa (.fz (.of_isF 9 _ Z)) (aa (.hp (nlb Z)) (aa (.fz (.of_isF 9 _ Z)) (aa (.fz (.of_isF 9 _ Z)) (aa (.fz (.of_isF 9 _ Z)) (aa (.fz (.of_isF 9 _ Z)) ax)))))))))⟩
     ·refine T.exit (lX h fun h=>?_);obtain rfl:=L9 h;exact ⟨(b27,u26),n28,ik Z (.cons (.list (g:=b27) (ver:=u26) (l:=s24.1) ak.isF) .nil) (aa (.fz (.of_isF 9 _ Z)) (aa (.fz (.of_isF 9 _ Z)) (aa (.fz (.of_isF 9 _ Z)) (aa (.hS (g:=b27) (b:=0) (ver:=u26) (s:=4) (n:=s24.1.length) Z) (aa (.fz (.of_isF 9 _ Z)) ax)))))⟩
   ·refine T.exit (lX h fun h=>?_)
    cases h
    exact ⟨(b13,u12),n14,kw Z Z⟩
theorem tH (p:List (List Ma)) {q:Bool} (h:jp p=some q):aB Tryz.prog 23 [eL (cL Ma.c) p] (Bo q):=by
 refine pM Tryz.func23 Z (by kernel_rfl) Z (T.sr (oN as' (TO.nil (T.sr (oN mv (oC h (fun _=>aZ _) Z Z Z Z fun v1 _ h=>oN mv ?_))))));refine TO.jB h 5 (fun s2=>[(10,Bo s2)]) (fun s2=>[]) (fun s2 q3 h js2=>?_) (fun s2 q3 h js2=>?_) (fun s2 h=>?_)
 ·refine gN Z q3 mv (jB h fun v4 cv4 h=>gN Z q3 (L6.call Z Z Z (uu p cv4) Z) (gN Z q3 (L6.lenL Lx Z) (gN Z q3 (L6.ieq Z Z) (oN (L6.pickT Z q3 (Bo ((v4.length:Int)==U)) Z) ?_))))
  cases h
  exact js2 _ _ (kw Z Z)
 ·refine gS Z q3 (gS Z q3 (gS Z q3 (gS Z q3 (oN (L6.pickF Z q3 (Bo false) Z) ?_))))
  cases h
  exact js2 _ _ (kw Z Z)
 ·refine oN as' (TO.nil (T.ret ?_))
  cases h
  exact cu Z Z Z
theorem tJ (p:List (List Ma)) (op:Int) {q:Int} (h:jq p op=some q):aB Tryz.prog 24 [eL (cL Ma.c) p,I op] (I q):=by
 refine pM Tryz.func24 Z (by kernel_rfl) Z (T.sr (oN as' (TO.nil (T.seq (T.sr (oN mv (oC h (fun _=>aZ _) Z Z Z Z fun v1 _ h=>oN (L6.not Z) (TO.nil ?_))))))));refine T.ifH Z h (fun q2 h=>?_) (fun q2 h=>?_)
 ·refine T.sr (oN as' (TO.nil (T.ret ?_)))
  cases h
  exact cu Z Z Z
 ·refine T.skip (T.sr (oN as' (TO.nil ?_)));refine T.jU h (fun s3=>[(5,I s3)]) (fun s3=>[]) (fun s3 h=>?_) (fun s3 h=>?_)
  ·refine T.sr (oN mv (oN as' (TO.nil (T.ret ?_))))
   cases h
   exact cu Z Z Z
  ·refine T.sr (oN mv (oN (L6.lenL gI Z) (oN mv (TO.nil (T.block ?_)))));refine T.lU h (fun s6=>[(15,I s6.1),(14,I (p.length:Int)),(13,eL (cL Ma.c) p),(5,I s6.2),(1,I op)]) (fun s6=>[]) (kw Z Z) (fun s6 ws6 h=>?_);refine T.sr (oN (L6.ilt Z Z) (TO.nil (T.seq ?_)));refine T.ifH Z h (fun q8 h=>?_) (fun q8 h=>?_)
   ·refine T.skip ?_;refine T.jU h (fun s9=>[(15,I s6.1),(14,I (p.length:Int)),(13,eL (cL Ma.c) p),(5,I s9),(1,I op)]) (fun s9=>[]) (fun s9 h=>?_) (fun s9 h=>?_)
    ·refine T.region (jW h fun g21 h=>oN (L6.add Z Z g21) (oN mv (TO.nil ?_)));exact lE h (kw Z Z)
    ·refine T.block (T.sr (jD h fun g10 h=>oN (L6.ixL gI Z Z g10 (fun _=>Z)) (oN (lf (eL Ma.c (J p s6.1)) qw Z) (oN as' (TO.nil (T.sr (oN mv (oN (L6.lenL lW Z) (oN mv (TO.nil (T.block ?_)))))))))));refine T.lU h (fun s13=>[(21,I s13.1),(20,I ((J p s6.1).length:Int)),(19,eL Ma.c (J p s6.1)),(15,I s6.1),(14,I (p.length:Int)),(13,eL (cL Ma.c) p),(5,I s13.2),(1,I op)]) (fun s13=>[]) (kw Z Z) (fun s13 ws13 h=>?_);refine T.sr (oN (L6.ilt Z Z) (TO.nil (T.seq ?_)));refine T.ifH Z h (fun q15 h=>?_) (fun q15 h=>?_)
     ·refine T.skip ?_;refine T.jU h (fun s16=>[(5,I s16),(21,I s13.1),(20,I ((J p s6.1).length:Int)),(19,eL Ma.c (J p s6.1)),(15,I s6.1),(14,I (p.length:Int)),(13,eL (cL Ma.c) p),(1,I op)]) (fun s16=>[]) (fun s16 h=>?_) (fun s16 h=>?_)
      ·refine T.region (jW h fun g20 h=>oN (L6.add Z Z g20) (oN mv (TO.nil ?_)));exact lE h (kw Z Z)
      ·refine T.block (T.sr (jD h fun g17 h=>oN (L6.ixL lW Z Z g17 (fun _=>Z)) (oN (lf (.agg (Ma.c (J (J p s6.1) s13.1))) gV Z) (oA (EvA.al qD Z Z) (oV (sr (Ma.c (J (J p s6.1) s13.1)) gV Z Z Z Z) (TO.nil (T.sr (oN (fa kg Z) (oA (lh (I ((J (J p s6.1) s13.1).Op)) Mo Z Z Z) (oN mv (oN (L6.ieq Z Z) (TO.nil ?_))))))))))));refine T.ifH Z h (fun q18 h=>?_) (fun q18 h=>?_)
       ·refine T.region (oN mv (jW h fun g19 h=>oN (L6.add Z Z g19) (oN as' (TO.nil ?_))))
        cases h
        exact ⟨(),trivial,ik Z .nil (aa (.fz (.of_isF 9 _ Z)) (aa (.fz (.of_isF 9 _ Z)) (aa (.fz (.of_isF 9 _ Z)) (aa (.fz (.of_isF 9 _ Z)) (aa (.fz (.of_isF 9 _ Z)) (aa (.fz (.of_isF 9 _ Z)) (aa (.fz (.of_isF 9 _ Z)) (aa (.fz (.of_isF 9 _ Z)) ax))))))))⟩
       ·refine T.skip ?_
        cases h
        exact ⟨(),trivial,ik Z .nil (aa (.fz (.of_isF 9 _ Z)) (aa (.fz (.of_isF 9 _ Z)) (aa (.fz (.of_isF 9 _ Z)) (aa (.fz (.of_isF 9 _ Z)) (aa (.fz (.of_isF 9 _ Z)) (aa (.fz (.of_isF 9 _ Z)) (aa (.fz (.of_isF 9 _ Z)) (aa (.fz (.of_isF 9 _ Z)) ax))))))))⟩
     ·refine T.exit (lX h fun h=>?_)
      cases h
      exact ⟨(),trivial,kw Z Z⟩
   ·refine T.exit (lX h fun h=>?_)
    cases h
    exact ⟨(),trivial,kw Z Z⟩
theorem o6 (code:LI) {q:Bool} (h:cm code=some q):aB Tryz.prog 5 [eL cY code] (Bo q):=by
 refine pM Tryz.func5 Z (by kernel_rfl) Z (T.sr (oN as' (TO.nil (T.seq (T.sr (oN mv (oN (L6.lenL yT Z) (oN (L6.igt Z Z) (TO.nil ?_)))))))));refine T.ifH Z h (fun q1 h=>?_) (fun q1 h=>?_)
 ·refine T.sr (oN as' (TO.nil (T.ret ?_)))
  cases h
  exact cu Z Z Z
 ·refine T.skip (T.sr (oN mv (oC h (fun _=>nV _) Z Z Z Z fun v2 _ h=>oN as' (TO.nil (T.sr (oN mv (oC h (fun _=>rK _) Z Z Z Z fun v3 _ h=>oN as' (TO.nil (T.seq (T.sr (oN mv (oN mv (oC h (fun _=>lZ _) Z Z Z Z fun v4 _ h=>?_)))))))))))));refine oC h (fun _=>nQ _ _) Z Z Z Z fun v5 _ h=>oN (L6.not Z) (oN mv ?_);refine TO.jB h 4 (fun s6=>[(21,Bo s6),(4,eL (cL cI) v3),(3,eL (cL Ma.c) v2)]) (fun s6=>[]) (fun s6 q7 h js6=>?_) (fun s6 q7 h js6=>?_) (fun s6 h=>?_)
  ·refine gS Z q7 (gS Z q7 (gS Z q7 (oN (L6.pickT Z q7 (Bo true) Z) ?_)))
   cases h
   exact js6 _ _ (kw Z Z)
  ·refine gN Z q7 mv (jB h fun v8 cv8 h=>gN Z q7 (L6.call Z Z Z (aZ v2 cv8) Z) (gN Z q7 (L6.not Z) (oN (L6.pickF Z q7 (Bo (!v8)) Z) ?_)))
   cases h
   exact js6 _ _ (kw Z Z)
  ·refine TO.nil ?_;refine T.ifH Z h (fun q9 h=>?_) (fun q9 h=>?_)
   ·refine T.sr (oN mv (oN mv (oC h (fun _=>lZ _) Z Z Z Z fun v10 _ h=>oC h (fun _=>nQ _ _) Z Z Z Z fun v11 _ h=>oN mv ?_)));refine TO.jB h 4 (fun s12=>[(30,Bo s12)]) (fun s12=>[]) (fun s12 q13 h js12=>?_) (fun s12 q13 h js12=>?_) (fun s12 h=>?_)
    ·refine gN Z q13 mv (gN Z q13 (L6.lenL bU Z) (gN Z q13 (L6.ieq Z Z) (oN (L6.pickT Z q13 (Bo ((v3.length:Int)==U)) Z) ?_)))
     cases h
     exact js12 _ _ (kw Z Z)
    ·refine gS Z q13 (gS Z q13 (gS Z q13 (oN (L6.pickF Z q13 (Bo false) Z) ?_)))
     cases h
     exact js12 _ _ (kw Z Z)
    ·refine oN as' (TO.nil (T.ret ?_))
     cases h
     exact cu Z Z Z
   ·refine T.skip (T.sr (oN mv (oN (L6.lenL bU Z) (oN mv (oC h (fun _=>nE _) Z Z Z Z fun v14 _ h=>oN (L6.ile Z Z) (oN mv ?_))))));refine TO.jB h 7 (fun s15=>[(43,Bo s15),(4,eL (cL cI) v3),(3,eL (cL Ma.c) v2)]) (fun s15=>[]) (fun s15 q16 h js15=>?_) (fun s15 q16 h js15=>?_) (fun s15 h=>?_)
    ·refine gN Z q16 mv (gN Z q16 (L6.lenL bU Z) (gN Z q16 mv (jB h fun v17 cv17 h=>gN Z q16 (L6.call Z Z Z (wm v2 cv17) Z) (gN Z q16 (L6.lenL bU Z) (gN Z q16 (L6.ige Z Z) (oN (L6.pickT Z q16 (Bo (decide ((v17.length:Int)<=(v3.length:Int)))) Z) ?_))))))
     cases h
     exact js15 _ _ (kw Z Z)
    ·refine gS Z q16 (gS Z q16 (gS Z q16 (gS Z q16 (gS Z q16 (gS Z q16 (oN (L6.pickF Z q16 (Bo false) Z) ?_))))))
     cases h
     exact js15 _ _ (kw Z Z)
    ·refine oN mv ?_;refine TO.jB h 14 (fun s18=>[(58,Bo s18)]) (fun s18=>[]) (fun s18 q19 h js18=>?_) (fun s18 q19 h js18=>?_) (fun s18 h=>?_)
     ·refine gN Z q19 mv (jB h fun v20 cv20 h=>gN Z q19 (L6.call Z Z Z (tH v2 cv20) Z) (gN Z q19 (L6.not Z) (gN Z q19 mv ?_)));refine TO.jB h 4 (fun s21=>[(52,Bo s21),(44,Bo s15),(4,eL (cL cI) v3)]) (fun s21=>[]) (fun s21 q22 h js21=>?_) (fun s21 q22 h js21=>?_) (fun s21 h=>?_)
      ·refine gS Z q22 (gS Z q22 (gS Z q22 (gN Z q19 (L6.pickT Z q22 (Bo true) Z) ?_)))
       cases h
       exact js21 _ _ (kw Z Z)
      ·refine gN Z q22 mv (jB h fun v23 cv23 h=>gN Z q22 (L6.call Z Z Z (tJ v2 (5:Int) cv23) Z) (gN Z q22 (L6.igt Z Z) (gN Z q19 (L6.pickF Z q22 (Bo (decide (U<v23))) Z) ?_)))
       cases h
       exact js21 _ _ (kw Z Z)
      ·refine gN Z q19 mv ?_;refine TO.jB h 4 (fun s24=>[(57,Bo s24),(44,Bo s15)]) (fun s24=>[]) (fun s24 q25 h js24=>?_) (fun s24 q25 h js24=>?_) (fun s24 h=>?_)
       ·refine gS Z q25 (gS Z q25 (gS Z q25 (gN Z q19 (L6.pickT Z q25 (Bo true) Z) ?_)))
        cases h
        exact js24 _ _ (kw Z Z)
       ·refine gN Z q25 mv (gN Z q25 (L6.lenL bU Z) (gN Z q25 (L6.ieq Z Z) (gN Z q19 (L6.pickF Z q25 (Bo ((v3.length:Int)==V)) Z) ?_)))
        cases h
        exact js24 _ _ (kw Z Z)
       ·refine oN (L6.pickT Z q19 (Bo s24) Z) ?_
        cases h
        exact js18 _ _ (kw Z Z)
     ·refine gS Z q19 (gS Z q19 (gS Z q19 (gS Z q19 (gU Z (gU Z (gU Z (gS Z q19 (gS Z q19 (gU Z (gU Z (gU Z (gS Z q19 (oN (L6.pickF Z q19 (Bo false) Z) ?_)))))))))))))
      cases h
      exact js18 _ _ (kw Z Z)
     ·refine oN as' (TO.nil (T.ret ?_))
      cases h
      exact cu Z Z Z
open Go.ChangeShapes Go.WideShapes Go.ChangeAt Go.RowKit
theorem JL {y:Int} (h:(Lit.int .u8 y).wf=true):0<=y/\y<=255:=by
 simp only [Lit.wf,bae,dte] at h;exact ⟨h.1,h.2⟩
theorem JM {b:LI} (hb:∀ y∈b,(Lit.int .u8 y).wf=true):cm b=some true:=by
 by_cases h:(1048576:Int)<(b.length:Int)
 ·unfold cm;exact FZ (decide_eq_true h) rfl
 ·exact Ll ⟨by omega,fun y hy=>JL (hb y hy)⟩
theorem lawr_FnTraceCount {w:World} (v:Value) (xs:LI) (h:Sl Di 1 w 0 w.heap.size v xs) (hw:∀ y∈xs,(Lit.int .u8 y).wf=true) :
  Calls Tryz.prog 5 #[v] w fun e w'=>e = .returned (.bool true)/\Below w.heap.size w w':=
 BF (o6 xs (JM hw)) rfl (Ly (DK h))
namespace fnTraceCount
theorem own:ownKnob Tryz.prog.godebug=none:=by kernel_rfl
theorem laidOut:laidOutB Tryz.prog=true:=by kernel_rfl
theorem Gm:([33].all fun t=>Tryz.prog.readableRec t&&decide (t<Tryz.prog.types.size))=true:=by kernel_rfl
theorem readable:∀ t∈([33]:List TypeId),Tryz.prog.readableRec t=true/\t<Tryz.prog.types.size:=fun t ht=>by
 have := List.all_eq_true.1 Gm t ht;simpa using this
theorem lifted (os:Os) (started:os.Started) (H:Type) (enc:TypeId×Value->H) :
  ReturnsInHanded {} Tryz.checked os 5 .any (Rows.fnTraceCountSpec.pre6 enc Tryz.prog Tryz.f5 Rows.fnTraceCountRow.domain false) (Rows.fnTraceCountSpec.post enc Tryz.prog Tryz.f5 false true false false):=by
 refine returnsInHanded_of_change (C:=Tryz.checked) own started (by kernel_rfl) Tryz.func5
  (ChangeSpec.witness6 (enc:=enc) (C:=Tryz.checked) false ⟨#[],#[.slice none 0 0],[]⟩ 8 (by kernel_rfl) (by kernel_rfl) (by kernel_rfl) (by kernel_rfl)) ?_
 intro W base args ds gs before hval0 hW hcnd _;have hval:∀ (j:Nat) t v,Tryz.f5.params[j]? = some t->args[j]? = some v->Value.okWide Tryz.prog W .any base t v:=hval0;have hW':=hW;obtain ⟨p,q,hA0,hV,rfl,hfz,hnd⟩:=hW;have hA:DataW.TrodAll enc Tryz.prog W 0 (fun _=>true) true Tryz.f5.params.toList args.toList ds p:=hA0;rw [Tryz.params5] at hA hval;have hA1:=hA;obtain ⟨v0,vs0,d0,ds0,p0,q0,hargs0,rfl,rfl,h0,r0⟩:=trodAll_cons hA;obtain ⟨rfl,rfl,rfl⟩:=trodAll_nil r0;obtain rfl:args = #[v0]:=by cases args;simp_all
 obtain ⟨rfl,rfl⟩:=trodVars_none hV;obtain ⟨a0,w0,g0⟩:∃ xs:LI,Sl Di 1 W 0 W.heap.size v0 xs/\∀ y∈xs,(Lit.int .u8 y).wf=true:=by
  obtain ⟨fuel,hf⟩:=h0;obtain ⟨v,hv,p,hp,hg⟩:=Ib (f:=Di) (s:=1) (by kernel_rfl) (by omega) Tryz.underlying33 (fun fuel cs x h=>KM Tryz.underlying5 fuel cs x h) hf;rw [one_cell hv (okWide_slice Tryz.underlying33 (hval 0 33 v0 rfl rfl))];exact ⟨p,hp,hg⟩
 clear hA0 hval0;simp only [List.append_nil] at hW';have hlt:=fun x hx=>hW'.lt x hx;refine (lawr_FnTraceCount v0 a0 w0 g0).mono fun e W' ⟨he,hg⟩ => ?_;subst he;exact ⟨_,rfl,yP (pv:=[]) hW' (fun _ _ _=>trodAll_cons_mk (shut_bool Tryz.underlying4 _) trodAll_mk0) (fun sp hsp=>rD laidOut hg _ _ _ _ readable hA1 (by simpa using hlt) (by simpa using hsp)) (fun _ _=>rfl) (by simp)
  hg (ok_one (by kernel_rfl) rfl (okWide_bool_mk Tryz.underlying4 _))⟩
theorem over:Rows.fnTraceCountRow.holds Tryz.pinned (OpenSpec.ofChange Rows.fnTraceCountSpec):=
 OpenClaim.holds_of_wide 5 Tryz.f5 rfl rfl rfl rfl rfl rfl rfl ⟨rfl,rfl,rfl,rfl,rfl⟩ rfl rfl rfl rfl rfl (by kernel_rfl) Tryz.func5 (by kernel_rfl)
  (of_decide_eq_true (by kernel_rfl)) (by unfold Func.isWrapper;first | (rw [if_pos (by decide +kernel)];kernel_rfl) | (rw [if_neg (by decide +kernel)];exact ⟨rfl,rfl⟩))
  (fun os started H enc _=>lifted os started H enc)
theorem proved:Rows.FnTraceCountSaid:=over
end fnTraceCount
end
end Go.Proofs.YtlmjnhnpahicmaaGreat
