/- Texts joined. No conditions. -/
import Derived.OpenShut
import Derived.Carry
import Derived.ChangeOld
import Derived.RowKit
import Derived.LaidMore
import Derived.LaidSub
import Derived.MakeChecks
import Derived.Test.YtcmimhffgmckjaaGreatDoorV13
namespace Go.Proofs.YtcmimhffgmckjaaGreatDoor
noncomputable section
open Go.RowKit
set_option maxRecDepth 100000
set_option maxRecDepth 100000
theorem yH {q:(List ByteArray)} (h:iE=some q):aA Tryz.prog 144 [] (eL cS q):=by
 refine aA.mkT Tryz.func144 Z (by kernel_rfl) Z (by kernel_rfl) (e0:=au []) Ma (jI (oN as' (jA (jI (oN (Mc.mkF (c:=cS) ([(⟨#[120,61,49,59,97,61,121,124,121,61,49,59,97,61,120]⟩:ByteArray),(⟨#[120,61,49,59,102,101,110,99,101,59,97,61,121,124,121,61,49,59,102,101,110,99,101,59,97,61,120]⟩:ByteArray),(⟨#[120,61,49,59,121,61,49,124,97,61,121,59,98,61,120]⟩:ByteArray),(⟨#[120,61,49,59,121,61,49,124,97,61,121,59,102,101,110,99,101,59,98,61,120]⟩:ByteArray),(⟨#[120,61,49,59,102,101,110,99,101,59,121,61,49,124,97,61,121,59,98,61,120]⟩:ByteArray),(⟨#[97,61,120,59,121,61,49,124,97,61,121,59,120,61,49]⟩:ByteArray),(⟨#[97,61,120,59,121,61,97,124,97,61,121,59,120,61,97]⟩:ByteArray),(⟨#[120,61,49,124,120,61,50,124,97,61,120,59,98,61,120]⟩:ByteArray),(⟨#[120,61,49,124,121,61,49,124,97,61,120,59,98,61,121,124,97,61,121,59,98,61,120]⟩:ByteArray),(⟨#[120,61,49,124,97,61,120,59,121,61,49,124,97,61,121,59,98,61,120]⟩:ByteArray),(⟨#[120,61,49,124,121,61,49,124,97,61,120,59,98,61,121]⟩:ByteArray),(⟨#[97,61,120,58,49,124,97,61,120,58,50,124,120,61,51]⟩:ByteArray),(⟨#[120,61,49,59,97,61,120,59,98,61,121,124,121,61,49,59,97,61,121,59,98,61,120]⟩:ByteArray),(⟨#[120,61,50,59,121,61,49,124,121,61,50,59,120,61,49]⟩:ByteArray),(⟨#[97,61,120,58,49,59,98,61,121,124,97,61,121,58,49,59,98,61,120]⟩:ByteArray),(⟨#[120,61,49,59,120,61,50,124,97,61,120,59,98,61,120]⟩:ByteArray),(⟨#[120,61,49,59,121,61,49,59,97,61,122,124,122,61,49,59,97,61,121,59,98,61,120]⟩:ByteArray),(⟨#[97,61,120,58,49,124,98,61,120,58,49]⟩:ByteArray),(⟨#[102,101,110,99,101]⟩:ByteArray),(⟨#[]⟩:ByteArray),(⟨#[120,61,49,59,97,61,121,124,121,61,49,59,102,101,110,99,101,59,97,61,120]⟩:ByteArray)]:List ByteArray) [[St (⟨#[120,61,49,59,97,61,121,124,121,61,49,59,97,61,120]⟩:ByteArray)],[St (⟨#[120,61,49,59,102,101,110,99,101,59,97,61,121,124,121,61,49,59,102,101,110,99,101,59,97,61,120]⟩:ByteArray)],[St (⟨#[120,61,49,59,121,61,49,124,97,61,121,59,98,61,120]⟩:ByteArray)],[St (⟨#[120,61,49,59,121,61,49,124,97,61,121,59,102,101,110,99,101,59,98,61,120]⟩:ByteArray)],[St (⟨#[120,61,49,59,102,101,110,99,101,59,121,61,49,124,97,61,121,59,98,61,120]⟩:ByteArray)],[St (⟨#[97,61,120,59,121,61,49,124,97,61,121,59,120,61,49]⟩:ByteArray)],[St (⟨#[97,61,120,59,121,61,97,124,97,61,121,59,120,61,97]⟩:ByteArray)],[St (⟨#[120,61,49,124,120,61,50,124,97,61,120,59,98,61,120]⟩:ByteArray)],[St (⟨#[120,61,49,124,121,61,49,124,97,61,120,59,98,61,121,124,97,61,121,59,98,61,120]⟩:ByteArray)],[St (⟨#[120,61,49,124,97,61,120,59,121,61,49,124,97,61,121,59,98,61,120]⟩:ByteArray)],[St (⟨#[120,61,49,124,121,61,49,124,97,61,120,59,98,61,121]⟩:ByteArray)],[St (⟨#[97,61,120,58,49,124,97,61,120,58,50,124,120,61,51]⟩:ByteArray)],[St (⟨#[120,61,49,59,97,61,120,59,98,61,121,124,121,61,49,59,97,61,121,59,98,61,120]⟩:ByteArray)],[St (⟨#[120,61,50,59,121,61,49,124,121,61,50,59,120,61,49]⟩:ByteArray)],[St (⟨#[97,61,120,58,49,59,98,61,121,124,97,61,121,58,49,59,98,61,120]⟩:ByteArray)],[St (⟨#[120,61,49,59,120,61,50,124,97,61,120,59,98,61,120]⟩:ByteArray)],[St (⟨#[120,61,49,59,121,61,49,59,97,61,122,124,122,61,49,59,97,61,121,59,98,61,120]⟩:ByteArray)],[St (⟨#[97,61,120,58,49,124,98,61,120,58,49]⟩:ByteArray)],[St (⟨#[102,101,110,99,101]⟩:ByteArray)],[St (⟨#[]⟩:ByteArray)],[St (⟨#[120,61,49,59,97,61,121,124,121,61,49,59,102,101,110,99,101,59,97,61,120]⟩:ByteArray)]] zH Z Z Z qD qD Z) ?_)))));refine oN as' (jA (jK ?_))
 cases h
 exact bP Z Z Z
theorem uw (s:ByteArray) (c:Int) {q:(List ByteArray)} (h:mK s c=some q):aA Tryz.prog 186 [St s,Y c] (eL cS q):=by
 refine pM Tryz.func186 Z (by kernel_rfl) Z (jI (oN as' (jA (jI (oA (EvA.mkO (c:=cS) ([]:List ByteArray) [] zH Z Z Z qD Z Z) (oN (Mc.asg (hS false 0 0 1 (([]:List ByteArray).length)) Z) (jA (jI (oN as' (jA ?_))))))))));refine T.jF (G:=Nat) h (fun s1 gh=>True) (fun s1 gh=>[(5,hS false 0 gh 1 s1.length)]) (fun s1 gh=>[bE false gh 1 9 (s1.map cS)]) (fun s1 u19 h hg=>?_) (fun s1 h=>?_)
 ·refine jI (oN mv (oN (Mc.asg (hS false 0 u19 1 s1.length) Z) (jA (jK ?_))));obtain rfl:=Mg h
  repeat (first|refine cn ?_|refine cu ?_)
  exact jQ (vs:=[hS false 0 u19 1 s1.length]) (.cons (.tmp Z) .nil) (Fz.own (g:=false) (ver:=u19) (l:=s1) Z Z Z nofun qD)
 ·refine jI (oN as' (jA (jE ?_)));refine jO (S:=(List ByteArray)×Int×Int) (G:=Nat) (kO s c) (fun s5 gh=>True) (fun s5 gh=>[(7,I s5.2.1),(6,I s5.2.2),(5,hS false 0 gh 1 s5.1.length),(0,St s),(1,Y c)]) (fun s5 gh=>[bE false gh 1 9 (s5.1.map cS)]) (s0:=(([]:List ByteArray),U,U)) 0 h trivial (kw Z Z) (fun s5 u7 ws5 h hg=>?_);refine jH (jI (oN mv (oN mv (oN (Mc.lenst Tryz.underlying9 Z) (oN (Mc.ile Z Z) (jA ?_))))));refine jN Z h (fun q8 h=>?_) (fun q8 h=>?_)
  ·refine jG ?_;refine T.jF (G:=Nat) h (fun s9 gh=>True) (fun s9 gh=>[(6,I s9.2),(5,hS false 0 gh 1 s9.1.length),(7,I s5.2.1),(0,St s),(1,Y c)]) (fun s9 gh=>[bE false gh 1 9 (s9.1.map cS)]) (fun s9 u17 h hg=>?_) (fun s9 h=>?_)
   ·refine jC (oN mv (jW h fun g18 h=>oN (Mc.add Z Z g18) (oN as' (jA ?_))));obtain rfl:=Mg h;exact ⟨(s9.1,(s5.2.1+V),s9.2),u17,Z,trivial,kw Z Z⟩
   ·refine jE (jI (oN mv (oN mv (oN (Mc.lenst Tryz.underlying9 Z) (oN (Mc.ieq Z Z) (oN mv ?_))))));refine TO.jB h 6 (fun s10=>[(25,Bo s10),(7,I s5.2.1),(6,I s5.2.2),(5,hS false 0 u7 1 s5.1.length),(0,St s),(1,Y c)]) (fun s10=>[bE false u7 1 9 (s5.1.map cS)]) (fun s10 q11 h js10=>?_) (fun s10 q11 h js10=>?_) (fun s10 h=>?_)
    ·refine gS Z q11 (gS Z q11 (gS Z q11 (gS Z q11 (gS Z q11 (oN (Mc.pickT Z q11 (Bo true) Z) ?_)))))
     cases h
     exact js10 _ _ (kw Z Z)
    ·refine gN Z q11 mv (gN Z q11 mv (jD h fun g12 h=>gN Z q11 (Mc.ixst Tryz.underlying9 Z Z g12) (gN Z q11 mv (gN Z q11 (Mc.ieq Z Z) (oN (Mc.pickF Z q11 (Bo (((s.data.getD s5.2.1.toNat 0).toNat:Int)==c)) Z) ?_)))))
     cases h
     exact js10 _ _ (kw Z Z)
    ·refine jA ?_;refine jN Z h (fun q13 h=>?_) (fun q13 h=>?_)
     ·refine jI (oN mv (oN mv (oN mv (oN mv (jD h fun g14 h=>oN (Mc.slst Tryz.underlying9 Z (.yes Z) (.yes Z) g14) (oN (Mc.mkF (c:=cS) ([(s.extract s5.2.2.toNat s5.2.1.toNat)]:List ByteArray) [[St (s.extract s5.2.2.toNat s5.2.1.toNat)]] zH Z Z Z qD qD Z) (jL h fun g15 h=>oA (EvA.app1 (g:=false) (l:=s5.1) (s.extract s5.2.2.toNat s5.2.1.toNat) zH (by kernel_rfl) Z Z Z nofun (bG.fz (l:=([(s.extract s5.2.2.toNat s5.2.1.toNat)]:List ByteArray)) Z qD) g15) (oN (Mc.asg (hS false 0 (u7+1) 1 ((s5.1++[(s.extract s5.2.2.toNat s5.2.1.toNat)]).length)) Z) (jA (jC (oN mv (jW h fun g16 h=>oN (Mc.add Z Z g16) ?_))))))))))));refine oN as' (jA ?_)
      cases h
      exact ⟨u7+1,trivial,kw Z Z⟩
     ·refine jG ?_
      cases h
      exact ⟨u7,trivial,kw Z Z⟩
  ·refine jM (lX h fun h=>?_)
   cases h
   exact ⟨u7,trivial,kw Z Z⟩
theorem cO (s:ByteArray) (at_:Int) (from_:Int) (most:Int) {q:Int} (h:bT s at_ from_ most=some q):aA Tryz.prog 237 [St s,I at_,Y from_,I most] (I q):=by
 refine pM Tryz.func237 Z (by kernel_rfl) Z (jI (oN as' (jA (jH (jI (oN mv (oN mv (oN (Mc.lenst Tryz.underlying9 Z) (oN (Mc.ige Z Z) (oN mv ?_))))))))));refine TO.jB h 6 (fun s1=>[(19,Bo s1),(0,St s),(1,I at_),(2,Y from_),(3,I most)]) (fun s1=>[]) (fun s1 q2 h js1=>?_) (fun s1 q2 h js1=>?_) (fun s1 h=>?_)
 ·refine gS Z q2 (gS Z q2 (gS Z q2 (gS Z q2 (gS Z q2 (oN (Mc.pickT Z q2 (Bo true) Z) ?_)))))
  cases h
  exact js1 _ _ (kw Z Z)
 ·refine gN Z q2 mv (gN Z q2 mv (jD h fun g3 h=>gN Z q2 (Mc.ixst Tryz.underlying9 Z Z g3) (gN Z q2 mv (gN Z q2 (Mc.ilt Z Z) (oN (Mc.pickF Z q2 (Bo (decide (((s.data.getD at_.toNat 0).toNat:Int)<from_))) Z) ?_)))))
  cases h
  exact js1 _ _ (kw Z Z)
 ·refine oN mv ?_;refine TO.jB h 9 (fun s4=>[(29,Bo s4),(0,St s),(1,I at_),(2,Y from_)]) (fun s4=>[]) (fun s4 q5 h js4=>?_) (fun s4 q5 h js4=>?_) (fun s4 h=>?_)
  ·refine gS Z q5 (gS Z q5 (gS Z q5 (gS Z q5 (gS Z q5 (gS Z q5 (gS Z q5 (gS Z q5 (oN (Mc.pickT Z q5 (Bo true) Z) ?_))))))))
   cases h
   exact js4 _ _ (kw Z Z)
  ·refine gN Z q5 mv (gN Z q5 mv (jD h fun g6 h=>gN Z q5 (Mc.ixst Tryz.underlying9 Z Z g6) (gN Z q5 mv (jW h fun g7 h=>gN Z q5 (Mc.sub Z Z g7) (jW h fun g8 h=>gN Z q5 (Mc.iconv ty5.und Tryz.underlying3 Z g8) (gN Z q5 mv (gN Z q5 (Mc.igt Z Z) (oN (Mc.pickF Z q5 (Bo (decide (most<(((s.data.getD at_.toNat 0).toNat:Int)-from_)))) Z) ?_))))))))
   cases h
   exact js4 _ _ (kw Z Z)
  ·refine jA ?_;refine jN Z h (fun q9 h=>?_) (fun q9 h=>?_)
   ·refine jI (oN as' (jA (jK ?_)))
    cases h
    exact bP Z Z Z
   ·refine jG (jI (oN mv (oN mv (jD h fun g10 h=>oN (Mc.ixst Tryz.underlying9 Z Z g10) (oN mv (jW h fun g11 h=>oN (Mc.sub Z Z g11) (jW h fun g12 h=>oN (Mc.iconv ty5.und Tryz.underlying3 Z g12) (oN as' (jA (jK ?_))))))))))
    cases h
    exact bP Z Z Z
set_option maxHeartbeats 4000000 in
theorem yI (s:ByteArray) {q:Mh} (h:nK s=some q):aA Tryz.prog 187 [St s] (.agg (Mh.c q)):=by
 refine pM Tryz.func187 Z (by kernel_rfl) Z (jI (oA (EvA.al xD Z Z) (jA (jH (jI (oN mv (oN (Mc.seq Z Z) (jA ?_))))))));refine jN Z h (fun q1 h=>?_) (fun q1 h=>?_)
 ·refine jI (oN (Mc.build [I (4:Int),I U,I U,I U] Tryz.underlying97 xD nE Z Z) (oV (sr [I (4:Int),I U,I U,I U] nD Z Z Z Z) (jA (jK ?_))));obtain rfl:=Mg h
  repeat (first|refine cn ?_|refine cu ?_)
  exact jQ (vs:=[.agg [I (4:Int),I U,I U,I U]]) (.cons (.cell (.agg [I (4:Int),I U,I U,I U]) nD Z Z Z Z Z Z) .nil) (qC Z)
 ·refine jG (jI (oN mv (oC h (fun _=>cO _ _ _ _) Z Z Z Z fun v2 _ h=>oN as' (jA (jI (oN mv (oC h (fun _=>cO _ _ _ _) Z Z Z Z fun v3 _ h=>oN as' (jA (jH (jI (oN mv (oN (Mc.ige Z Z) (oN mv ?_)))))))))))));refine TO.jB h 4 (fun s4=>[(18,Bo s4),(4,I v3),(3,I v2),(2,.hp 0 0 4 0 0),(0,St s)]) (fun s4=>[some ⟨0,4,97,[[I U,I U,I U,I U]]⟩]) (fun s4 q5 h js4=>?_) (fun s4 q5 h js4=>?_) (fun s4 h=>?_)
  ·refine gN Z q5 mv (gN Z q5 (Mc.lenst Tryz.underlying9 Z) (gN Z q5 (Mc.ieq Z Z) (oN (Mc.pickT Z q5 (Bo ((s.size:Int)==(3:Int))) Z) ?_)))
   cases h
   exact js4 _ _ (kw Z Z)
  ·refine gS Z q5 (gS Z q5 (gS Z q5 (oN (Mc.pickF Z q5 (Bo false) Z) ?_)))
   cases h
   exact js4 _ _ (kw Z Z)
  ·refine jA ?_;refine jN Z h (fun q6 h=>?_) (fun q6 h=>?_)
   ·refine jI (oN mv (oN mv (oC h (fun _=>cO _ _ _ _) Z Z Z Z fun v7 _ h=>oN (Mc.build [I V,I v7,I v2,I U] Tryz.underlying97 xD nE Z Z) (oV (sr [I V,I v7,I v2,I U] nD Z Z Z Z) (jA (jK ?_))))));obtain rfl:=Mg h
    repeat (first|refine cn ?_|refine cu ?_)
    exact jQ (vs:=[.agg [I V,I v7,I v2,I U]]) (.cons (.cell (.agg [I V,I v7,I v2,I U]) nD Z Z Z Z Z Z) .nil) (qC Z)
   ·refine jG (jH (jI (oN mv (oN (Mc.ige Z Z) (oN mv ?_)))));refine TO.jB h 4 (fun s8=>[(29,Bo s8),(4,I v3),(3,I v2),(2,.hp 0 0 4 0 0),(0,St s)]) (fun s8=>[some ⟨0,4,97,[[I U,I U,I U,I U]]⟩]) (fun s8 q9 h js8=>?_) (fun s8 q9 h js8=>?_) (fun s8 h=>?_)
    ·refine gN Z q9 mv (gN Z q9 (Mc.lenst Tryz.underlying9 Z) (gN Z q9 (Mc.ieq Z Z) (oN (Mc.pickT Z q9 (Bo ((s.size:Int)==(5:Int))) Z) ?_)))
     cases h
     exact js8 _ _ (kw Z Z)
    ·refine gS Z q9 (gS Z q9 (gS Z q9 (oN (Mc.pickF Z q9 (Bo false) Z) ?_)))
     cases h
     exact js8 _ _ (kw Z Z)
    ·refine jA ?_;refine jN Z h (fun q10 h=>?_) (fun q10 h=>?_)
     ·refine jI (oN mv (oN mv (oC h (fun _=>cO _ _ _ _) Z Z Z Z fun v11 _ h=>oN mv (oC h (fun _=>cO _ _ _ _) Z Z Z Z fun v12 _ h=>oN (Mc.build [I (5:Int),I v11,I v2,I v12] Tryz.underlying97 xD nE Z Z) (oV (sr [I (5:Int),I v11,I v2,I v12] nD Z Z Z Z) (jA (jK ?_)))))));obtain rfl:=Mg h
      repeat (first|refine cn ?_|refine cu ?_)
      exact jQ (vs:=[.agg [I (5:Int),I v11,I v2,I v12]]) (.cons (.cell (.agg [I (5:Int),I v11,I v2,I v12]) nD Z Z Z Z Z Z) .nil) (qC Z)
     ·refine jG (jH (jI (oN mv (oN (Mc.ige Z Z) (oN mv ?_)))));refine TO.jB h 4 (fun s13=>[(42,Bo s13),(4,I v3),(2,.hp 0 0 4 0 0),(0,St s)]) (fun s13=>[some ⟨0,4,97,[[I U,I U,I U,I U]]⟩]) (fun s13 q14 h js13=>?_) (fun s13 q14 h js13=>?_) (fun s13 h=>?_)
      ·refine gN Z q14 mv (jB h fun v15 cv15 h=>gN Z q14 (Mc.call Z Z Z (cO s (2:Int) (97:Int) (2:Int) cv15) Z) (gN Z q14 (Mc.ige Z Z) (oN (Mc.pickT Z q14 (Bo (decide (U<=v15))) Z) ?_)))
       cases h
       exact js13 _ _ (kw Z Z)
      ·refine gS Z q14 (gS Z q14 (gS Z q14 (oN (Mc.pickF Z q14 (Bo false) Z) ?_)))
       cases h
       exact js13 _ _ (kw Z Z)
      ·refine jA ?_;refine jN Z h (fun q16 h=>?_) (fun q16 h=>?_)
       ·refine jI (oN mv (oN mv (oC h (fun _=>cO _ _ _ _) Z Z Z Z fun v17 _ h=>oN (Mc.build [I (3:Int),I v3,I v17,I U] Tryz.underlying97 xD nE Z Z) (oV (sr [I (3:Int),I v3,I v17,I U] nD Z Z Z Z) (jA (jK ?_))))));obtain rfl:=Mg h
        repeat (first|refine cn ?_|refine cu ?_)
        exact jQ (vs:=[.agg [I (3:Int),I v3,I v17,I U]]) (.cons (.cell (.agg [I (3:Int),I v3,I v17,I U]) nD Z Z Z Z Z Z) .nil) (qC Z)
       ·refine jG (jI (oN mv (oN mv (oC h (fun _=>cO _ _ _ _) Z Z Z Z fun v18 _ h=>oN (Mc.build [I (2:Int),I v3,I U,I v18] Tryz.underlying97 xD nE Z Z) (oV (sr [I (2:Int),I v3,I U,I v18] nD Z Z Z Z) (jA (jK ?_)))))));obtain rfl:=Mg h
        repeat (first|refine cn ?_|refine cu ?_)
        exact jQ (vs:=[.agg [I (2:Int),I v3,I U,I v18]]) (.cons (.cell (.agg [I (2:Int),I v3,I U,I v18]) nD Z Z Z Z Z Z) .nil) (qC Z)
theorem rM (from_:Int) (n:Int) {q:ByteArray} (h:jc from_ n=some q):aA Tryz.prog 269 [Y from_,I n] (St q):=by
 refine pM Tryz.func269 Z (by kernel_rfl) Z (jI (oN as' (jA (jI (oN mv (oN mv (jW h fun g1 h=>oN (Mc.iconv Mx.und Tryz.underlying5 Z g1) (jW h fun g2 h=>oN (Mc.add Z Z g2) (oN (Mc.mkF (c:=cY) ([(from_+n)]:LI) [[Y (from_+n)]] Ei Z Z Z qD qD Z) (oA (EvA.b2s (l:=([(from_+n)]:LI)) Tryz.underlying22 Tryz.underlying5 Tryz.underlying9 (FH Z) (bG.fz (l:=([(from_+n)]:LI)) Z qD)) (oN as' (jA (jK ?_)))))))))))))
 cases h
 exact bP Z Z Z
theorem yJ:∀ (nf:Nat) (n:Int) {q:ByteArray} (h:jd nf n=some q),aA Tryz.prog 270 [I n] (St q):=by
 intro nf
 induction nf with
 | zero=>intros;rename_i h;cases h
 | succ nf ih=>
  intro n q h;replace h:mL (jd nf) n=some q:=h;refine pM Tryz.func270 Z (by kernel_rfl) Z (jI (oN as' (jA (jH (jI (oN mv (oN (Mc.ilt Z Z) (jA ?_))))))));refine jN Z h (fun q1 h=>?_) (fun q1 h=>?_)
  ·refine jI (oN as' (jA (jK ?_)))
   cases h
   exact bP Z Z Z
  ·refine jG (jH (jI (oN mv (oN (Mc.ilt Z Z) (jA ?_)))));refine jN Z h (fun q2 h=>?_) (fun q2 h=>?_)
   ·refine jI (oN mv (jW h fun g3 h=>oN (Mc.neg Z g3) (oC h (fun _=>ih _) Z Z Z Z fun v4 _ h=>jD h fun g5 h=>oN (Mc.cat Z Z g5) (oN as' (jA (jK ?_))))))
    cases h
    exact bP Z Z Z
   ·refine jG (jI (oN as' (jA ?_)));refine T.jU h (fun s6=>[(3,St s6.1),(0,I s6.2)]) (fun s6=>[]) (fun s6 h=>?_) (fun s6 h=>?_)
    ·refine jI (oN mv (jW h fun g17 h=>oN (Mc.add Z Z g17) (jW h fun g18 h=>oN (Mc.iconv Mx.und Tryz.underlying5 Z g18) (oN (Mc.mkF (c:=cY) ([((48:Int)+s6.2)]:LI) [[Y ((48:Int)+s6.2)]] Ei Z Z Z qD qD Z) (oA (EvA.b2s (l:=([((48:Int)+s6.2)]:LI)) Tryz.underlying22 Tryz.underlying5 Tryz.underlying9 (FH Z) (bG.fz (l:=([((48:Int)+s6.2)]:LI)) Z qD)) (oN mv (jD h fun g19 h=>oN (Mc.cat Z Z g19) (oN as' (jA (jK ?_))))))))))
     cases h
     exact bP Z Z Z
    ·refine jE ?_;refine T.lU h (fun s9=>[(3,St s9.1),(0,I s9.2)]) (fun s9=>[]) (kw Z Z) (fun s9 ws9 h=>?_);refine jH (jI (oN mv (oN (Mc.igt Z Z) (jA ?_))));refine jN Z h (fun q11 h=>?_) (fun q11 h=>?_)
     ·refine jG (jE (jI (oN mv (jD h fun g12 h=>oN (Mc.rem Z Z g12) (jW h fun g13 h=>oN (Mc.add Z Z g13) (jW h fun g14 h=>oN (Mc.iconv Mx.und Tryz.underlying5 Z g14) (oN (Mc.mkF (c:=cY) ([((48:Int)+(s9.2.tmod (10:Int)))]:LI) [[Y ((48:Int)+(s9.2.tmod (10:Int)))]] Ei Z Z Z qD qD Z) (oA (EvA.b2s (l:=([((48:Int)+(s9.2.tmod (10:Int)))]:LI)) Tryz.underlying22 Tryz.underlying5 Tryz.underlying9 (FH Z) (bG.fz (l:=([((48:Int)+(s9.2.tmod (10:Int)))]:LI)) Z qD)) (oN mv (jD h fun g15 h=>oN (Mc.cat Z Z g15) (oN as' ?_)))))))))));refine jA (jC (oN mv (jW h fun g16 h=>oN (Mc.quo Z Z g12 g16) (oN as' (jA ?_)))));exact lE h (kw Z Z)
     ·refine jM (lX h fun h=>?_)
      cases h
      exact ⟨(),trivial,kw Z Z⟩
theorem uy (n:Int) {q:ByteArray} (h:pq n=some q):aA Tryz.prog 270 [I n] (St q):=by
 obtain ⟨nf,h⟩:=vo h;exact yJ nf n h
theorem zU (x:Mh) {q:ByteArray} (h:pu x=some q):aA Tryz.prog 238 [.agg (Mh.c x)] (St q):=by
 refine pM Tryz.func238 Z (by kernel_rfl) Z (jI (oN (Mc.bxF (Mh.c x) Z Z Z) (oN as' (jA (jI (oN (fa nE Z) (oN (lf (I x.Loc) Mx Z) (oC h (fun _=>rM _ _) Z Z Z Z fun v1 _ h=>oN as' (jA (jI (oN (fa nE Z) (oN (lf (I x.Reg) Mx Z) (oC h (fun _=>rM _ _) Z Z Z Z fun v2 _ h=>oN as' ?_)))))))))))));refine jA (jH (jI (oN (fa nE Z) (oN (lf (I x.Op) Mx Z) (jA (jE (jI (oN (Mc.ieq Z Z) (oN as' (jA ?_))))))))));refine jN Z h (fun q3 h=>?_) (fun q3 h=>?_)
 ·refine jI (oN mv (jD h fun g4 h=>oN (Mc.cat Z Z g4) (oN mv (jD h fun g5 h=>oN (Mc.cat Z Z g5) (oN as' (jA (jK ?_)))))))
  cases h
  exact bP Z Z Z
 ·refine jI (oN (Mc.ieq Z Z) (oN as' (jA ?_)));refine jN Z h (fun q6 h=>?_) (fun q6 h=>?_)
  ·refine jI (oN mv (jD h fun g7 h=>oN (Mc.cat Z Z g7) (oN (fa nE Z) (oN (lf (I x.Val) Mx Z) (oC h (fun _=>uy _) Z Z Z Z fun v8 _ h=>jD h fun g9 h=>oN (Mc.cat Z Z g9) (oN as' (jA (jK ?_))))))))
   cases h
   exact bP Z Z Z
  ·refine jI (oN (Mc.ieq Z Z) (oN as' (jA ?_)));refine jN Z h (fun q10 h=>?_) (fun q10 h=>?_)
   ·refine jH (T.clean (H0:=[]) (e0:=au [(4,St v2),(3,St v1)]) Z (Mb Z (Mb Z Ma)) (jC (oN mv (jD h fun g11 h=>oN (Mc.cat Z Z g11) (oN mv (jD h fun g12 h=>oN (Mc.cat Z Z g12) (oN as' (jA (jK ?_)))))))))
    cases h
    exact bP Z Z Z
   ·refine jI (oN (Mc.ieq Z Z) (oN as' (jA ?_)));refine jN Z h (fun q13 h=>?_) (fun q13 h=>?_)
    ·refine jH (T.clean (H0:=[]) (e0:=au [(4,St v2),(3,St v1),(1,.fp (Mh.c x) 0)]) Z (Mb Z (Mb Z (Mb Z Ma))) (jC (oN mv (jD h fun g14 h=>oN (Mc.cat Z Z g14) (oN mv (jD h fun g15 h=>oN (Mc.cat Z Z g15) (jD h fun g16 h=>oN (Mc.cat Z Z g16) (oN (fa nE Z) (oN (lf (I x.Val) Mx Z) (oC h (fun _=>uy _) Z Z Z Z fun v17 _ h=>jD h fun g18 h=>oN (Mc.cat Z Z g18) ?_))))))))));refine oN as' (jA (jK ?_))
     cases h
     exact bP Z Z Z
    ·refine jG (jH (T.clean (H0:=[]) (e0:=au []) Z Ma (jC (oN as' (jA (jK ?_))))))
     cases h
     exact bP Z Z Z
theorem wT (p:List (List Mh)) {q:ByteArray} (h:kP p=some q):aA Tryz.prog 188 [eL (cL Mh.c) p] (St q):=by
 refine pM Tryz.func188 Z (by kernel_rfl) Z (jI (oN as' (jA (jI (oN as' (jA ?_))))));refine T.jU h (fun s1=>[(3,St s1)]) (fun s1=>[]) (fun s1 h=>?_) (fun s1 h=>?_)
 ·refine jI (oN mv (oN as' (jA (jK ?_))))
  cases h
  exact bP Z Z Z
 ·refine jI (oN as' (jA (jE ?_)));refine T.lU h (fun s4=>[(4,I s4.1),(3,St s4.2),(0,eL (cL Mh.c) p)]) (fun s4=>[]) (kw Z Z) (fun s4 ws4 h=>?_);refine jH (jI (oN mv (oN mv (oN (Mc.lenL lF Z) (oN (Mc.ilt Z Z) (jA ?_))))));refine jN Z h (fun q6 h=>?_) (fun q6 h=>?_)
  ·refine jG ?_;refine T.jU h (fun s7=>[(3,St s7),(4,I s4.1),(0,eL (cL Mh.c) p)]) (fun s7=>[]) (fun s7 h=>?_) (fun s7 h=>?_)
   ·refine jC (oN mv (jW h fun g24 h=>oN (Mc.add Z Z g24) (oN as' (jA ?_))));exact lE h (kw Z Z)
   ·refine jE ?_;refine T.jU h (fun s8=>[(3,St s8),(4,I s4.1),(0,eL (cL Mh.c) p)]) (fun s8=>[]) (fun s8 h=>?_) (fun s8 h=>?_)
    ·refine jI (oN as' (jA (jE ?_)));refine T.lU h (fun s13=>[(5,I s13.1),(3,St s13.2),(4,I s4.1),(0,eL (cL Mh.c) p)]) (fun s13=>[]) (kw Z Z) (fun s13 ws13 h=>?_);refine jH (jI (oN mv (oN mv (oN mv (jD h fun g15 h=>oN (Mc.ixL lF Z Z g15 qD) (oN (lf (eL Mh.c (J p s4.1)) xC Z) (oN (Mc.lenL sG Z) (oN (Mc.ilt Z Z) (jA ?_)))))))));refine jN Z h (fun q16 h=>?_) (fun q16 h=>?_)
     ·refine jG (jH (jE ?_));refine T.jU h (fun s17=>[(3,St s17),(5,I s13.1),(4,I s4.1),(0,eL (cL Mh.c) p)]) (fun s17=>[]) (fun s17 h=>?_) (fun s17 h=>?_)
      ·refine jC (oN mv (oN mv (oN mv (oN (Mc.ixL lF Z Z g15 qD) (oN (lf (eL Mh.c (J p s4.1)) xC Z) (oN mv (jD h fun g20 h=>oN (Mc.ixL sG Z Z g20 qD) (oN (lf (.agg (Mh.c (J (J p s4.1) s13.1))) nD Z) (oC h (fun _=>zU _) Z Z Z Z fun v21 _ h=>jD h fun g22 h=>oN (Mc.cat Z Z g22) (oN as' (jA (jC ?_))))))))))));refine oN mv (jW h fun g23 h=>oN (Mc.add Z Z g23) (oN as' (jA ?_)));exact lE h (kw Z Z)
      ·refine jI (oN mv (oN (Mc.igt Z Z) (jA ?_)));refine jN Z h (fun q18 h=>?_) (fun q18 h=>?_)
       ·refine jC (oN mv (jD h fun g19 h=>oN (Mc.cat Z Z g19) (oN as' (jA ?_))))
        cases h
        exact ⟨(),trivial,kw Z Z⟩
       ·refine jG ?_
        cases h
        exact ⟨(),trivial,kw Z Z⟩
     ·refine jM (lX h fun h=>?_)
      cases h
      exact ⟨(),trivial,kw Z Z⟩
    ·refine jI (oN mv (oN (Mc.igt Z Z) (jA ?_)));refine jN Z h (fun q9 h=>?_) (fun q9 h=>?_)
     ·refine jC (oN mv (jD h fun g10 h=>oN (Mc.cat Z Z g10) (oN as' (jA ?_))))
      cases h
      exact ⟨(),trivial,kw Z Z⟩
     ·refine jG ?_
      cases h
      exact ⟨(),trivial,kw Z Z⟩
  ·refine jM (lX h fun h=>?_)
   cases h
   exact ⟨(),trivial,kw Z Z⟩
set_option maxHeartbeats 4000000 in
theorem uz (text:ByteArray) {q:(List (List Mh))×Bool} (h:bW text=some q):aA Tryz.prog 124 [St text] (.tup [eL (cL Mh.c) q.1,Bo q.2]):=by
 refine pM Tryz.func124 Z (by kernel_rfl) Z (jI (oN as' (oN as' (jA (jI (oA (EvA.mkO (c:=(cL Mh.c)) ([]:List (List Mh)) [] lF Z Z Z qD Z Z) (oN (Mc.asg (hS false 0 0 1 (([]:List (List Mh)).length)) Z) (jA (jI (oN mv (oC h (fun _=>uw _ _) Z Z Z Z fun v1 _ h=>oN as' (jA ?_))))))))))));refine T.jF (G:=Nat) h (fun s2 gh=>True) (fun s2 gh=>[(4,hS false 0 gh 1 s2.length),(0,St text)]) (fun s2 gh=>[bE false gh 1 91 (s2.map (cL Mh.c))]) (fun s2 u35 h hg=>?_) (fun s2 h=>?_)
 ·refine jH (jI (oN mv (jB h fun v36 cv36 h=>oA (EvA.callT Z Z (jh s2 cv36) (.cons (Fz.own (g:=false) (ver:=u35) (l:=s2) Z Z Z nofun qD) .nil) Z) (oN (Mc.not Z) (oN mv ?_)))));refine TO.jB h 5 (fun s37=>[(66,Bo s37),(4,hS false 0 u35 1 s2.length)]) (fun s37=>[bE false u35 1 91 (s2.map (cL Mh.c))]) (fun s37 q38 h js37=>?_) (fun s37 q38 h js37=>?_) (fun s37 h=>?_)
  ·refine gS Z q38 (gS Z q38 (gS Z q38 (gS Z q38 (oN (Mc.pickT Z q38 (Bo true) Z) ?_))))
   cases h
   exact js37 _ _ (kw Z Z)
  ·refine gN Z q38 mv (jB h fun v39 cv39 h=>gA Z q38 (EvA.callT Z Z (wT s2 cv39) (.cons (Fz.own (g:=false) (ver:=u35) (l:=s2) Z Z Z nofun qD) .nil) Z) (gN Z q38 mv (gN Z q38 (Mc.sne Z Z) (oN (Mc.pickF Z q38 (Bo (!decide (v39=text))) Z) ?_))))
   cases h
   exact js37 _ _ (kw Z Z)
  ·refine jA ?_;refine jN Z h (fun q40 h=>?_) (fun q40 h=>?_)
   ·refine jI (oN (Mc.mkF (c:=(cL Mh.c)) ([]:List (List Mh)) [] lF Z Z Z qD qD Z) (oN as' (oN as' (jA (jK ?_)))));obtain rfl:=Mg h
    repeat (first|refine cn ?_|refine cu ?_)
    exact jQ (vs:=[eL (cL Mh.c) ([]:List (List Mh)),Bo false]) (.cons (.tmp Z) (.cons (.tmp Z) .nil)) (.tupL (.cons (qC Z) (.cons (qC Z) .nil)))
   ·refine jG (jI (oN mv (oN (Mc.asg (hS false 0 u35 1 s2.length) Z) (oN as' (jA (jK ?_))))));obtain rfl:=Mg h
    repeat (first|refine cn ?_|refine cu ?_)
    exact jQ (vs:=[hS false 0 u35 1 s2.length,Bo true]) (.cons (.tmp Z) (.cons (.tmp Z) .nil)) (.tupL (.cons (Fz.own (g:=false) (ver:=u35) (l:=s2) Z Z Z nofun qD) (.cons (qC Z) .nil)))
 ·refine jI (oN as' (jA (jE ?_)));refine jO (S:=(List (List Mh))×Int) (G:=Nat) (fe v1) (fun s6 gh=>True) (fun s6 gh=>[(6,I s6.2),(5,eL cS v1),(4,hS false 0 gh 1 s6.1.length),(0,St text)]) (fun s6 gh=>[bE false gh 1 91 (s6.1.map (cL Mh.c))]) (s0:=(([]:List (List Mh)),U)) 0 h trivial (kw Z Z) (fun s6 u8 ws6 h hg=>?_);refine jH (jI (oN mv (oN mv (oN (Mc.lenL zH Z) (oN (Mc.ilt Z Z) (oN mv ?_))))));refine TO.jB h 3 (fun s9=>[(20,Bo s9),(6,I s6.2),(5,eL cS v1),(4,hS false 0 u8 1 s6.1.length),(0,St text)]) (fun s9=>[bE false u8 1 91 (s6.1.map (cL Mh.c))]) (fun s9 q10 h js9=>?_) (fun s9 q10 h js9=>?_) (fun s9 h=>?_)
  ·refine gN Z q10 mv (gN Z q10 (Mc.ile Z Z) (oN (Mc.pickT Z q10 (Bo (decide (s6.2<=(3:Int)))) Z) ?_))
   cases h
   exact js9 _ _ (kw Z Z)
  ·refine gS Z q10 (gS Z q10 (oN (Mc.pickF Z q10 (Bo false) Z) ?_))
   cases h
   exact js9 _ _ (kw Z Z)
  ·refine jA ?_;refine jN Z h (fun q11 h=>?_) (fun q11 h=>?_)
   ·refine jG ?_;refine T.jF (G:=Nat) h (fun s12 gh=>True) (fun s12 gh=>[(4,hS false 0 gh 1 s12.length),(6,I s6.2),(5,eL cS v1),(0,St text)]) (fun s12 gh=>[bE false gh 1 91 (s12.map (cL Mh.c))]) (fun s12 u33 h hg=>?_) (fun s12 h=>?_)
    ·refine jC (oN mv (jW h fun g34 h=>oN (Mc.add Z Z g34) (oN as' (jA ?_))));obtain rfl:=Mg h;exact ⟨(s12,(s6.2+V)),u33,Z,trivial,kw Z Z⟩
    ·refine jE (jI (oA (EvA.mkO (c:=Mh.c) ([]:List Mh) [] sG Z Z Z qD Z Z) (oN (Mc.asg (hS false 1 0 4 (([]:List Mh).length)) Z) (jA (jI (oN mv (oN mv (jD h fun g13 h=>oN (Mc.ixL zH Z Z g13 qD) (oN (lf (St (J v1 s6.2)) ty9 Z) (oC h (fun _=>uw _ _) Z Z Z Z fun v14 _ h=>oN as' (jA ?_)))))))))));refine T.jF (G:=Nat) h (fun s15 gh=>True) (fun s15 gh=>[(7,hS false 1 gh 4 s15.length),(6,I s6.2),(5,eL cS v1),(4,hS false 0 u8 1 s6.1.length),(0,St text)]) (fun s15 gh=>[bE false u8 1 91 (s6.1.map (cL Mh.c)),bE false gh 4 97 (s15.map Mh.c)]) (fun s15 u31 h hg=>?_) (fun s15 h=>?_)
     ·refine jC (oN mv (oN mv (oA (EvA.mkR [[hS false 1 u31 4 s15.length]] lF Z Z Z Z) (jL h fun g32 h=>oA (EvA.appR (g:=false) (rows:=s6.1.map (cL Mh.c)) (rows':=s6.1.map (cL Mh.c)++[[hS false 1 u31 4 s15.length]]) (n':=s6.1.length+1) lF (by kernel_rfl) Z Z (by simp) nofun (bG.raw (rows:=[[hS false 1 u31 4 s15.length]]) Z Z Z) g32 Z Z) (oN (Mc.asg (hS false 0 (u8+1) 1 (s6.1.length+1)) Z) (jA ?_))))));obtain rfl:=Mg h;exact ⟨u8+1,trivial,mR Z (.cons (.snoc qD (.cons (.cons (.fz (Fz.own (g:=false) (ver:=u31) (l:=s15) Z Z Z nofun Mh.isF)) .nil) .nil)) .nil) (aj (.eqv (congrArg (hS false 0 (u8+1) 1) (by simp:(s6.1.length+1)=(s6.1++[s15]).length)) (.hS (g:=false) (b:=0) (ver:=u8+1) (s:=1) (n:=(s6.1++[s15]).length) Z)) (aj (.fz (qC Z)) (aj (.fz (qC Z)) (aj (.fz (qC Z)) aN))))⟩
     ·refine jI (oN as' (jA (jE ?_)));refine jO (S:=(List Mh)×Int) (G:=Nat) (ez v1 s6 v14) (fun s19 gh=>True) (fun s19 gh=>[(9,I s19.2),(8,eL cS v14),(7,hS false 1 gh 4 s19.1.length),(6,I s6.2),(5,eL cS v1),(4,hS false 0 u8 1 s6.1.length),(0,St text)]) (fun s19 gh=>[bE false u8 1 91 (s6.1.map (cL Mh.c)),bE false gh 4 97 (s19.1.map Mh.c)]) (s0:=(([]:List Mh),U)) 0 h trivial (kw Z Z) (fun s19 u21 ws19 h hg=>?_);refine jH (jI (oN mv (oN mv (oN (Mc.lenL zH Z) (oN (Mc.ilt Z Z) (oN mv ?_))))));refine TO.jB h 3 (fun s22=>[(36,Bo s22),(9,I s19.2),(8,eL cS v14),(7,hS false 1 u21 4 s19.1.length),(6,I s6.2),(5,eL cS v1),(4,hS false 0 u8 1 s6.1.length),(0,St text)]) (fun s22=>[bE false u8 1 91 (s6.1.map (cL Mh.c)),bE false u21 4 97 (s19.1.map Mh.c)]) (fun s22 q23 h js22=>?_) (fun s22 q23 h js22=>?_) (fun s22 h=>?_)
      ·refine gN Z q23 mv (gN Z q23 (Mc.ile Z Z) (oN (Mc.pickT Z q23 (Bo (decide (s19.2<=(7:Int)))) Z) ?_))
       cases h
       exact js22 _ _ (kw Z Z)
      ·refine gS Z q23 (gS Z q23 (oN (Mc.pickF Z q23 (Bo false) Z) ?_))
       cases h
       exact js22 _ _ (kw Z Z)
      ·refine oN mv ?_;refine TO.jB h 6 (fun s24=>[(43,Bo s24),(9,I s19.2),(8,eL cS v14),(7,hS false 1 u21 4 s19.1.length),(6,I s6.2),(5,eL cS v1),(4,hS false 0 u8 1 s6.1.length),(0,St text)]) (fun s24=>[bE false u8 1 91 (s6.1.map (cL Mh.c)),bE false u21 4 97 (s19.1.map Mh.c)]) (fun s24 q25 h js24=>?_) (fun s24 q25 h js24=>?_) (fun s24 h=>?_)
       ·refine gN Z q25 mv (gN Z q25 mv (gN Z q25 (Mc.ixL zH Z Z g13 qD) (gN Z q25 (lf (St (J v1 s6.2)) ty9 Z) (gN Z q25 (Mc.sne Z Z) (oN (Mc.pickT Z q25 (Bo (!decide ((J v1 s6.2)=(⟨#[]⟩:ByteArray)))) Z) ?_)))))
        cases h
        exact js24 _ _ (kw Z Z)
       ·refine gS Z q25 (gS Z q25 (gS Z q25 (gS Z q25 (gS Z q25 (oN (Mc.pickF Z q25 (Bo false) Z) ?_)))))
        cases h
        exact js24 _ _ (kw Z Z)
       ·refine jA ?_;refine jN Z h (fun q26 h=>?_) (fun q26 h=>?_)
        ·refine jG (jH (jE (jC (oN mv (oN mv (oN mv (jD h fun g27 h=>oN (Mc.ixL zH Z Z g27 qD) (oN (lf (St (J v14 s19.2)) ty9 Z) (oC h (fun _=>yI _) Z Z Z Z fun v28 _ h=>oN (Mc.mkF (c:=Mh.c) ([v28]:List Mh) [(Mh.c v28)] sG Z Z Z qD Mh.isF Z) (jL h fun g29 h=>oA (EvA.app1 (g:=false) (l:=s19.1) v28 sG (by kernel_rfl) Z Z Z nofun (bG.fz (l:=([v28]:List Mh)) Z qD) g29) (oN (Mc.asg (hS false 1 (u21+1) 4 ((s19.1++[v28]).length)) Z) (jA ?_))))))))))));refine jC (oN mv (jW h fun g30 h=>oN (Mc.add Z Z g30) (oN as' (jA ?_))));obtain rfl:=Mg h;exact ⟨((s19.1++[v28]),(s19.2+V)),u21+1,Z,trivial,kw Z Z⟩
        ·refine jM (lX h fun h=>?_)
         cases h
         exact ⟨u21,trivial,kw Z Z⟩
   ·refine jM (lX h fun h=>?_)
    cases h
    exact ⟨u8,trivial,kw Z Z⟩
set_option maxHeartbeats 4000000 in
theorem tq (r_:ah) (aH:Nat) {q:ah×Mh} (h:kE r_=some q):dz Tryz.prog 145 [.hp 0 aH 2 0 0] [some ⟨aH,2,157,[(ah.c r_)]⟩] (.agg (Mh.c q.2)) [some ⟨aH,2,157,[(ah.c q.1)]⟩]:=by
 refine aM Tryz.func145 Z (by kernel_rfl) Z (jI (oA (EvA.al xD Z Z) (jA (jI (oN mv (jB h fun v1 cv1 h=>oA (EvA.call Z Z Z ((aL (⟨r_.b,r_.p⟩:ah) (2:Int) aH cv1).one 0 Z (.cons (.hp Z) (.cons (.pF Z) .nil)) (ak Z) (ak Z) Z)) (oN as' (jA (jH (jI (oN mv (jB h fun v2 cv2 h=>oA (EvA.call Z Z Z ((aL (⟨v1.1.b,v1.1.p⟩:ah) (7:Int) aH cv2).one 0 Z (.cons (.hp Z) (.cons (.pF Z) .nil)) (ak Z) (ak Z) Z)) (jA ?_)))))))))))));refine jE (jI (oN (Mc.ieq Z Z) (oN as' (jA ?_))));refine jN Z h (fun q3 h=>?_) (fun q3 h=>?_)
 ·refine jI (oN (Mc.build [I (4:Int),I U,I U,I U] Tryz.underlying97 xD nE Z Z) (oV (sr [I (4:Int),I U,I U,I U] nD Z Z Z Z) (jA (jK ?_))));obtain rfl:=Mg h
  repeat (first|refine cn ?_|refine cu ?_)
  exact ⟨au [(2,.fp (Mh.c (⟨(4:Int),U,U,U⟩:Mh)) 0)],[some ⟨aH,2,157,[(ah.c (⟨v2.1.b,v2.1.p⟩:ah))]⟩],mR Z (.cons (.row (.cons (.fz (qC Z)) (.cons (.fz (qC Z)) .nil))) .nil) (aj (.fz (Fz.fpL (ver:=0) (s:=4) (ty:=97) (rows:=[[I (4:Int),I U,I U,I U]]) Z Z Z (.cons (qC Z) (.cons (qC Z) (.cons (qC Z) (.cons (qC Z) .nil)))))) aN),jQ (vs:=[.agg (Mh.c (⟨(4:Int),U,U,U⟩:Mh))]) (.cons (.cellF (.agg (Mh.c (⟨(4:Int),U,U,U⟩:Mh))) nD Z Z) .nil) ⟨Z,Z⟩⟩
 ·refine jI (oN (Mc.ieq Z Z) (oN as' (jA ?_)));refine jN Z h (fun q4 h=>?_) (fun q4 h=>?_)
  ·refine jI (oN mv (oN mv (jB h fun v5 cv5 h=>oA (EvA.call Z Z Z ((aL (⟨v2.1.b,v2.1.p⟩:ah) (2:Int) aH cv5).one 0 Z (.cons (.hp Z) (.cons (.pF Z) .nil)) (ak Z) (ak Z) Z)) (oN (Mc.build [I (3:Int),I v1.2,I v5.2,I U] Tryz.underlying97 xD nE Z Z) (oV (sr [I (3:Int),I v1.2,I v5.2,I U] nD Z Z Z Z) (jA (jK ?_)))))));obtain rfl:=Mg h
   repeat (first|refine cn ?_|refine cu ?_)
   exact ⟨au [(2,.fp (Mh.c (⟨(3:Int),v1.2,v5.2,U⟩:Mh)) 0)],[some ⟨aH,2,157,[(ah.c (⟨v5.1.b,v5.1.p⟩:ah))]⟩],mR Z (.cons (.row (.cons (.fz (qC Z)) (.cons (.fz (qC Z)) .nil))) .nil) (aj (.fz (Fz.fpL (ver:=0) (s:=4) (ty:=97) (rows:=[[I (3:Int),I v1.2,I v5.2,I U]]) Z Z Z (.cons (qC Z) (.cons (qC Z) (.cons (qC Z) (.cons (qC Z) .nil)))))) aN),jQ (vs:=[.agg (Mh.c (⟨(3:Int),v1.2,v5.2,U⟩:Mh))]) (.cons (.cellF (.agg (Mh.c (⟨(3:Int),v1.2,v5.2,U⟩:Mh))) nD Z Z) .nil) ⟨Z,Z⟩⟩
  ·refine jI (oN (Mc.ieq Z Z) (oN as' (jA ?_)));refine jN Z h (fun q6 h=>?_) (fun q6 h=>?_)
   ·refine jI (oN mv (oN mv (jB h fun v7 cv7 h=>oA (EvA.call Z Z Z ((aL (⟨v2.1.b,v2.1.p⟩:ah) (2:Int) aH cv7).one 0 Z (.cons (.hp Z) (.cons (.pF Z) .nil)) (ak Z) (ak Z) Z)) (oN mv (jB h fun v8 cv8 h=>oA (EvA.call Z Z Z ((aL (⟨v7.1.b,v7.1.p⟩:ah) (3:Int) aH cv8).one 0 Z (.cons (.hp Z) (.cons (.pF Z) .nil)) (ak Z) (ak Z) Z)) (jW h fun g9 h=>oN (Mc.add Z Z g9) (oN (Mc.build [I (5:Int),I v1.2,I v7.2,I (V+v8.2)] Tryz.underlying97 xD nE Z Z) (oV (sr [I (5:Int),I v1.2,I v7.2,I (V+v8.2)] nD Z Z Z Z) (jA (jK ?_))))))))));obtain rfl:=Mg h
    repeat (first|refine cn ?_|refine cu ?_)
    exact ⟨au [(2,.fp (Mh.c (⟨(5:Int),v1.2,v7.2,(V+v8.2)⟩:Mh)) 0)],[some ⟨aH,2,157,[(ah.c (⟨v8.1.b,v8.1.p⟩:ah))]⟩],mR Z (.cons (.row (.cons (.fz (qC Z)) (.cons (.fz (qC Z)) .nil))) .nil) (aj (.fz (Fz.fpL (ver:=0) (s:=4) (ty:=97) (rows:=[[I (5:Int),I v1.2,I v7.2,I (V+v8.2)]]) Z Z Z (.cons (qC Z) (.cons (qC Z) (.cons (qC Z) (.cons (qC Z) .nil)))))) aN),jQ (vs:=[.agg (Mh.c (⟨(5:Int),v1.2,v7.2,(V+v8.2)⟩:Mh))]) (.cons (.cellF (.agg (Mh.c (⟨(5:Int),v1.2,v7.2,(V+v8.2)⟩:Mh))) nD Z Z) .nil) ⟨Z,Z⟩⟩
   ·refine T.jU h (fun s10=>[(26,Bo s10),(3,I v1.2),(2,.hp 1 0 4 0 0),(0,.hp 0 aH 2 0 0)]) (fun s10=>[some ⟨aH,2,157,[(ah.c v2.1)]⟩,some ⟨0,4,97,[[I U,I U,I U,I U]]⟩]) (fun s10 h=>?_) (fun s10 h=>?_)
    ·refine jN Z h (fun q12 h=>?_) (fun q12 h=>?_)
     ·refine jI (oN mv (oN mv (jB h fun v13 cv13 h=>oA (EvA.call Z Z Z ((aL (⟨v2.1.b,v2.1.p⟩:ah) (3:Int) aH cv13).one 0 Z (.cons (.hp Z) (.cons (.pF Z) .nil)) (ak Z) (ak Z) Z)) (jW h fun g14 h=>oN (Mc.add Z Z g14) (oN (Mc.build [I (2:Int),I v1.2,I U,I (V+v13.2)] Tryz.underlying97 xD nE Z Z) (oV (sr [I (2:Int),I v1.2,I U,I (V+v13.2)] nD Z Z Z Z) (jA (jK ?_))))))));obtain rfl:=Mg h
      repeat (first|refine cn ?_|refine cu ?_)
      exact ⟨au [(2,.fp (Mh.c (⟨(2:Int),v1.2,U,(V+v13.2)⟩:Mh)) 0)],[some ⟨aH,2,157,[(ah.c (⟨v13.1.b,v13.1.p⟩:ah))]⟩],mR Z (.cons (.row (.cons (.fz (qC Z)) (.cons (.fz (qC Z)) .nil))) .nil) (aj (.fz (Fz.fpL (ver:=0) (s:=4) (ty:=97) (rows:=[[I (2:Int),I v1.2,I U,I (V+v13.2)]]) Z Z Z (.cons (qC Z) (.cons (qC Z) (.cons (qC Z) (.cons (qC Z) .nil)))))) aN),jQ (vs:=[.agg (Mh.c (⟨(2:Int),v1.2,U,(V+v13.2)⟩:Mh))]) (.cons (.cellF (.agg (Mh.c (⟨(2:Int),v1.2,U,(V+v13.2)⟩:Mh))) nD Z Z) .nil) ⟨Z,Z⟩⟩
     ·refine jG (jI (oN mv (oN mv (jB h fun v15 cv15 h=>oA (EvA.call Z Z Z ((aL (⟨v2.1.b,v2.1.p⟩:ah) (2:Int) aH cv15).one 0 Z (.cons (.hp Z) (.cons (.pF Z) .nil)) (ak Z) (ak Z) Z)) (oN (Mc.build [I V,I v1.2,I v15.2,I U] Tryz.underlying97 xD nE Z Z) (oV (sr [I V,I v1.2,I v15.2,I U] nD Z Z Z Z) (jA (jK ?_))))))));obtain rfl:=Mg h
      repeat (first|refine cn ?_|refine cu ?_)
      exact ⟨au [(2,.fp (Mh.c (⟨V,v1.2,v15.2,U⟩:Mh)) 0)],[some ⟨aH,2,157,[(ah.c (⟨v15.1.b,v15.1.p⟩:ah))]⟩],mR Z (.cons (.row (.cons (.fz (qC Z)) (.cons (.fz (qC Z)) .nil))) .nil) (aj (.fz (Fz.fpL (ver:=0) (s:=4) (ty:=97) (rows:=[[I V,I v1.2,I v15.2,I U]]) Z Z Z (.cons (qC Z) (.cons (qC Z) (.cons (qC Z) (.cons (qC Z) .nil)))))) aN),jQ (vs:=[.agg (Mh.c (⟨V,v1.2,v15.2,U⟩:Mh))]) (.cons (.cellF (.agg (Mh.c (⟨V,v1.2,v15.2,U⟩:Mh))) nD Z Z) .nil) ⟨Z,Z⟩⟩
    ·refine jI (oN (Mc.ieq Z Z) (oN as' (jA ?_)));refine jN Z h (fun q11 h=>?_) (fun q11 h=>?_)
     ·refine jG ?_
      cases h
      exact ⟨(),trivial,kw Z Z⟩
     ·refine jC (oN (Mc.ieq Z Z) (oN as' (jA ?_)))
      cases h
      exact ⟨(),trivial,kw Z Z⟩
set_option maxHeartbeats 4000000 in
theorem zV (r_:ah) (aH:Nat) {q:ah×(List (List Mh))} (h:pz r_=some q):dz Tryz.prog 78 [.hp 0 aH 2 0 0] [some ⟨aH,2,157,[(ah.c r_)]⟩] (eL (cL Mh.c) q.2) [some ⟨aH,2,157,[(ah.c q.1)]⟩]:=by
 refine aM Tryz.func78 Z (by kernel_rfl) Z (jI (oN as' (jA (jI (oC h (fun _=>yH) Z Z Z Z fun v1 _ h=>oN as' (jA ?_))))));obtain ⟨Ks2,es2,ws2,h,ks2⟩:=sumL h;refine T.join (S:=(LI)×Int) (G:=Unit) (fun s2=>Ks2 s2=some q) (fun s2 gh=>True) (fun s2 gh=>[(0,.hp 0 aH 2 0 0)]) (fun s2 gh=>[some ⟨aH,2,157,[[eL cY s2.1,I s2.2]]⟩]) (fun s2 gh h hg=>?_) ?_
 ·clear ks2;subst es2;refine jI (oA (EvA.mkO (c:=(cL Mh.c)) ([]:List (List Mh)) [] lF Z Z Z qD Z Z) (oN (Mc.asg (hS false 1 0 1 (([]:List (List Mh)).length)) Z) (jA ?_)));refine T.jF (G:=Nat) h (fun s9 gh=>True) (fun s9 gh=>[(6,hS false 1 gh 1 s9.2.2.length),(0,.hp 0 aH 2 0 0)]) (fun s9 gh=>[some ⟨aH,2,157,[[eL cY s9.1,I s9.2.1]]⟩,bE false gh 1 91 (s9.2.2.map (cL Mh.c))]) (fun s9 u35 h hg=>?_) (fun s9 h=>?_)
  ·refine jH (jI (oN mv (jB h fun v36 cv36 h=>oA (EvA.callT Z Z (jh s9.2.2 cv36) (.cons (Fz.own (g:=false) (ver:=u35) (l:=s9.2.2) Z Z Z nofun qD) .nil) Z) (jA ?_))));refine jN Z h (fun q37 h=>?_) (fun q37 h=>?_)
   ·refine jI (oN mv (oN (Mc.asg (hS false 1 u35 1 s9.2.2.length) Z) (jA (jK ?_))));obtain rfl:=Mg h
    repeat (first|refine cn ?_|refine cu ?_)
    exact ⟨au [(2,eL (cL Mh.c) s9.2.2)],[some ⟨aH,2,157,[(ah.c (⟨s9.1,s9.2.1⟩:ah))]⟩],mR Z (.cons (.row (.cons (.fz (qC Z)) (.cons (.fz (qC Z)) .nil))) .nil) (aj (.fz (Fz.own (g:=false) (ver:=u35) (l:=s9.2.2) Z Z Z nofun qD)) aN),jQ (vs:=[eL (cL Mh.c) s9.2.2]) (.cons (.tmp Z) .nil) ⟨Z,Z⟩⟩
   ·refine jG (jI (oN mv (jB h fun v38 cv38 h=>oA (EvA.call Z Z Z ((tq (⟨s9.1,s9.2.1⟩:ah) aH cv38).one 0 Z (.cons (.hp Z) .nil) (ak Z) (ak Z) Z)) (oN (Mc.mkF (c:=Mh.c) ([v38.2]:List Mh) [(Mh.c v38.2)] sG Z Z Z qD Mh.isF Z) (oN (Mc.mkF (c:=(cL Mh.c)) ([([v38.2]:List Mh)]:List (List Mh)) [[eL Mh.c ([v38.2]:List Mh)]] lF Z Z Z qD qD Z) (oN as' (jA (jK ?_))))))));obtain rfl:=Mg h
    repeat (first|refine cn ?_|refine cu ?_)
    exact ⟨au [(2,eL (cL Mh.c) ([([v38.2]:List Mh)]:List (List Mh)))],[some ⟨aH,2,157,[(ah.c (⟨v38.1.b,v38.1.p⟩:ah))]⟩],mR Z (.cons (.row (.cons (.fz (qC Z)) (.cons (.fz (qC Z)) .nil))) .nil) (aj (.fz (qC Z)) aN),jQ (vs:=[eL (cL Mh.c) ([([v38.2]:List Mh)]:List (List Mh))]) (.cons (.tmp Z) .nil) ⟨Z,Z⟩⟩
  ·refine jI (oN mv (oN (Mc.mkF (c:=cI) ([(2:Int),(3:Int),V]:LI) [[I (2:Int)],[I (3:Int)],[I V]] bf Z Z Z qD qD Z) (jB h fun v10 cv10 h=>oA (EvA.call Z Z Z ((dM (⟨s2.1,s2.2⟩:ah) ([(2:Int),(3:Int),V]:LI) aH cv10).one 0 Z (.cons (.hp Z) (.cons (.pF Z) .nil)) (ak Z) (ak Z) Z)) (oN as' (jA (jE ?_))))));refine jO (S:=(LI)×Int×(List (List Mh))×Int) (G:=Nat) jJ (fun s14 gh=>True) (fun s14 gh=>[(7,I s14.2.2.2),(6,hS false 1 gh 1 s14.2.2.1.length),(0,.hp 0 aH 2 0 0)]) (fun s14 gh=>[some ⟨aH,2,157,[[eL cY s14.1,I s14.2.1]]⟩,bE false gh 1 91 (s14.2.2.1.map (cL Mh.c))]) (s0:=(v10.1.b,v10.1.p,([]:List (List Mh)),v10.2)) 0 h trivial (kw Z Z) (fun s14 u16 ws14 h hg=>?_);refine jH (jI (oN mv (oN (Mc.igt Z Z) (jA ?_))));refine jN Z h (fun q17 h=>?_) (fun q17 h=>?_)
   ·refine jG ?_;refine T.jF (G:=Nat) h (fun s18 gh=>True) (fun s18 gh=>[(6,hS false 1 gh 1 s18.2.2.length),(7,I s14.2.2.2),(0,.hp 0 aH 2 0 0)]) (fun s18 gh=>[some ⟨aH,2,157,[[eL cY s18.1,I s18.2.1]]⟩,bE false gh 1 91 (s18.2.2.map (cL Mh.c))]) (fun s18 u33 h hg=>?_) (fun s18 h=>?_)
    ·refine jC (oN mv (jW h fun g34 h=>oN (Mc.sub Z Z g34) (oN as' (jA ?_))));obtain rfl:=Mg h;exact ⟨(s18.1,s18.2.1,s18.2.2,(s14.2.2.2-V)),u33,Z,trivial,kw Z Z⟩
    ·refine jE (jI (oA (EvA.mkO (c:=Mh.c) ([]:List Mh) [] sG Z Z Z qD Z Z) (oN (Mc.asg (hS false 2 0 4 (([]:List Mh).length)) Z) (jA ?_))));refine T.jF (G:=Nat) h (fun s19 gh=>True) (fun s19 gh=>[(8,hS false 2 gh 4 s19.2.2.length),(7,I s14.2.2.2),(6,hS false 1 u16 1 s14.2.2.1.length),(0,.hp 0 aH 2 0 0)]) (fun s19 gh=>[some ⟨aH,2,157,[[eL cY s19.1,I s19.2.1]]⟩,bE false u16 1 91 (s14.2.2.1.map (cL Mh.c)),bE false gh 4 97 (s19.2.2.map Mh.c)]) (fun s19 u31 h hg=>?_) (fun s19 h=>?_)
     ·refine jC (oN mv (oN mv (oA (EvA.mkR [[hS false 2 u31 4 s19.2.2.length]] lF Z Z Z Z) (jL h fun g32 h=>oA (EvA.appR (g:=false) (rows:=s14.2.2.1.map (cL Mh.c)) (rows':=s14.2.2.1.map (cL Mh.c)++[[hS false 2 u31 4 s19.2.2.length]]) (n':=s14.2.2.1.length+1) lF (by kernel_rfl) Z Z (by simp) nofun (bG.raw (rows:=[[hS false 2 u31 4 s19.2.2.length]]) Z Z Z) g32 Z Z) (oN (Mc.asg (hS false 1 (u16+1) 1 (s14.2.2.1.length+1)) Z) (jA ?_))))));obtain rfl:=Mg h;exact ⟨u16+1,trivial,mR Z (.cons (.row (.cons (.fz (qC Z)) (.cons (.fz (qC Z)) .nil))) (.cons (.snoc qD (.cons (.cons (.fz (Fz.own (g:=false) (ver:=u31) (l:=s19.2.2) Z Z Z nofun Mh.isF)) .nil) .nil)) .nil)) (aj (.eqv (congrArg (hS false 1 (u16+1) 1) (by simp:(s14.2.2.1.length+1)=(s14.2.2.1++[s19.2.2]).length)) (.hS (g:=false) (b:=1) (ver:=u16+1) (s:=1) (n:=(s14.2.2.1++[s19.2.2]).length) Z)) (aj (.fz (qC Z)) (aj (.hp (nlb Z)) aN)))⟩
     ·refine jI (oN mv (oN (Mc.mkF (c:=cI) ([(2:Int),V,(3:Int),(2:Int),U]:LI) [[I (2:Int)],[I V],[I (3:Int)],[I (2:Int)],[I U]] bf Z Z Z qD qD Z) (jB h fun v20 cv20 h=>oA (EvA.call Z Z Z ((dM (⟨s14.1,s14.2.1⟩:ah) ([(2:Int),V,(3:Int),(2:Int),U]:LI) aH cv20).one 0 Z (.cons (.hp Z) (.cons (.pF Z) .nil)) (ak Z) (ak Z) Z)) (oN as' (jA (jE ?_))))));refine jO (S:=(LI)×Int×(List Mh)×Int) (G:=Nat) jy (fun s24 gh=>True) (fun s24 gh=>[(9,I s24.2.2.2),(8,hS false 2 gh 4 s24.2.2.1.length),(7,I s14.2.2.2),(6,hS false 1 u16 1 s14.2.2.1.length),(0,.hp 0 aH 2 0 0)]) (fun s24 gh=>[some ⟨aH,2,157,[[eL cY s24.1,I s24.2.1]]⟩,bE false u16 1 91 (s14.2.2.1.map (cL Mh.c)),bE false gh 4 97 (s24.2.2.1.map Mh.c)]) (s0:=(v20.1.b,v20.1.p,([]:List Mh),v20.2)) 0 h trivial (kw Z Z) (fun s24 u26 ws24 h hg=>?_);refine jH (jI (oN mv (oN (Mc.igt Z Z) (jA ?_))));refine jN Z h (fun q27 h=>?_) (fun q27 h=>?_)
      ·refine jG (jH (jE (jC (oN mv (oN mv (jB h fun v28 cv28 h=>oA (EvA.call Z Z Z ((tq (⟨s24.1,s24.2.1⟩:ah) aH cv28).one 0 Z (.cons (.hp Z) .nil) (ak Z) (ak Z) Z)) (oN (Mc.mkF (c:=Mh.c) ([v28.2]:List Mh) [(Mh.c v28.2)] sG Z Z Z qD Mh.isF Z) (jL h fun g29 h=>oA (EvA.app1 (g:=false) (l:=s24.2.2.1) v28.2 sG (by kernel_rfl) Z Z Z nofun (bG.fz (l:=([v28.2]:List Mh)) Z qD) g29) (oN (Mc.asg (hS false 2 (u26+1) 4 ((s24.2.2.1++[v28.2]).length)) Z) (jA (jC (oN mv (jW h fun g30 h=>?_)))))))))))));refine oN (Mc.sub Z Z g30) (oN as' (jA ?_));obtain rfl:=Mg h;exact ⟨(v28.1.b,v28.1.p,(s24.2.2.1++[v28.2]),(s24.2.2.2-V)),u26+1,Z,trivial,kw Z Z⟩
      ·refine jM (lX h fun h=>?_)
       cases h
       exact ⟨u26,trivial,kw Z Z⟩
   ·refine jM (lX h fun h=>?_)
    cases h
    exact ⟨u16,trivial,kw Z Z⟩
 ·refine jI (oN mv (jB h fun v3 cv3 h=>oA (EvA.call Z Z Z ((aL (⟨r_.b,r_.p⟩:ah) (3:Int) aH cv3).one 0 Z (.cons (.hp Z) (.cons (.pF Z) .nil)) (ak Z) (ak Z) Z)) (oN (Mc.igt Z Z) (jA ?_))));refine jN Z h (fun q4 h=>?_) (fun q4 h=>?_)
  ·refine jI (oN mv (oN mv (oN mv (oN (Mc.lenL zH Z) (jB h fun v5 cv5 h=>oA (EvA.call Z Z Z ((aL (⟨v3.1.b,v3.1.p⟩:ah) (v1.length:Int) aH cv5).one 0 Z (.cons (.hp Z) (.cons (.pF Z) .nil)) (ak Z) (ak Z) Z)) (jD h fun g6 h=>oN (Mc.ixL zH Z Z g6 qD) (oN (lf (St (J v1 v5.2)) ty9 Z) (oC h (fun _=>uz _) Z Z Z Z fun v7 _ h=>oN mv (oN (Mc.ext (eL (cL Mh.c) v7.1) Z Z) (oN (Mc.ext (Bo v7.2) Z Z) (oN as' (oN as' ?_))))))))))));refine jA (jH (T.clean (H0:=[some ⟨aH,2,157,[(ah.c v5.1)]⟩]) (e0:=au [(5,Bo v7.2),(4,eL (cL Mh.c) v7.1),(0,.hp 0 aH 2 0 0)]) Z (Mb Z (Mb Z (Mb Z Ma))) (jC (oN mv (jA ?_)))));refine jN Z h (fun q8 h=>?_) (fun q8 h=>?_)
   ·refine jI (oN mv (oN as' (jA (jK ?_))));obtain rfl:=Mg h;replace h:=congrArg some (show _=_ from ks2);obtain rfl:=Mg h
    repeat (first|refine cn ?_|refine cu ?_)
    exact ⟨au [(2,eL (cL Mh.c) v7.1)],[some ⟨aH,2,157,[(ah.c (⟨v5.1.b,v5.1.p⟩:ah))]⟩],kw Z Z,jQ (vs:=[eL (cL Mh.c) v7.1]) (.cons (.tmp Z) .nil) ⟨Z,Z⟩⟩
   ·refine jG ?_;obtain rfl:=Mg h;exact ⟨(v5.1.b,v5.1.p),(),ks2,trivial,kw Z Z⟩
  ·refine jG ?_;obtain rfl:=Mg h;exact ⟨(v3.1.b,v3.1.p),(),ks2,trivial,kw Z Z⟩
set_option maxHeartbeats 4000000 in
theorem vR (r_:ah) (p:List (List Mh)) (aH:Nat) {q:ah×(LI)} (h:jS r_ p=some q):dz Tryz.prog 79 [.hp 0 aH 2 0 0,eL (cL Mh.c) p] [some ⟨aH,2,157,[(ah.c r_)]⟩] (eL cI q.2) [some ⟨aH,2,157,[(ah.c q.1)]⟩]:=by
 refine aM Tryz.func79 Z (by kernel_rfl) Z (jI (oN as' (jA (jI (oA (EvA.mkO (c:=cI) ([]:LI) [] bf Z Z Z qD Z Z) (oN (Mc.asg (hS false 1 0 1 (([]:LI).length)) Z) (jA (jI (oN as' (jA ?_))))))))));refine T.jF (G:=Nat) h (fun s1 gh=>True) (fun s1 gh=>[(6,I s1.2),(5,hS false 1 gh 1 s1.1.length),(0,.hp 0 aH 2 0 0),(1,eL (cL Mh.c) p)]) (fun s1 gh=>[some ⟨aH,2,157,[(ah.c r_)]⟩,bE false gh 1 3 (s1.1.map cI)]) (fun s1 u13 h hg=>?_) (fun s1 h=>?_)
 ·refine jI (oA (EvA.mkO (c:=cI) ([]:LI) [] bf Z Z Z qD Z Z) (oN (Mc.asg (hS false 2 0 1 (([]:LI).length)) Z) (jA ?_)));refine T.jF (G:=Nat×Nat) h (fun s14 gh=>True) (fun s14 gh=>[(8,hS false 2 gh.2 1 s14.2.2.2.length),(0,.hp 0 aH 2 0 0)]) (fun s14 gh=>[some ⟨aH,2,157,[[eL cY s14.1,I s14.2.1]]⟩,bE false gh.1 1 3 (s14.2.2.1.map cI),bE false gh.2 1 3 (s14.2.2.2.map cI)]) (fun s14 gh h hg=>?_) (fun s14 h=>?_)
  ·obtain ⟨u37,u38⟩:=gh;refine T.jU h (fun s39=>[(8,eL cI s39.2.2)]) (fun s39=>[some ⟨aH,2,157,[[eL cY s39.1,I s39.2.1]]⟩,bE false u37 1 3 (s14.2.2.1.map cI)]) (fun s39 h=>?_) (fun s39 h=>?_)
   ·refine jI (oN mv (oN as' (jA (jK ?_))));obtain rfl:=Mg h
    repeat (first|refine cn ?_|refine cu ?_)
    exact ⟨au [(4,eL cI s39.2.2)],[some ⟨aH,2,157,[(ah.c (⟨s39.1,s39.2.1⟩:ah))]⟩],mR Z (.cons (.row (.cons (.fz (qC Z)) (.cons (.fz (qC Z)) .nil))) .nil) (aj (.fz (qC Z)) aN),jQ (vs:=[eL cI s39.2.2]) (.cons (.tmp Z) .nil) ⟨Z,Z⟩⟩
   ·refine jI (oN mv (jB h fun v40 cv40 h=>oA (EvA.call Z Z Z ((aL (⟨s14.1,s14.2.1⟩:ah) (16:Int) aH cv40).one 0 Z (.cons (.hp Z) (.cons (.pF Z) .nil)) (ak Z) (ak Z) Z)) (jA (jE (jI (oN (Mc.ieq Z Z) (oN as' (jA ?_))))))));refine jN Z h (fun q41 h=>?_) (fun q41 h=>?_)
    ·refine jC (oN mv (oN mv (oN (Mc.mkF (c:=cI) ([(0:Int),(3:Int),(-1:Int)]:LI) [[I U],[I (3:Int)],[I (-1:Int)]] bf Z Z Z qD qD Z) (jB h fun v42 cv42 h=>oA (EvA.call Z Z Z ((dM (⟨v40.1.b,v40.1.p⟩:ah) ([(0:Int),(3:Int),(-1:Int)]:LI) aH cv42).one 0 Z (.cons (.hp Z) (.cons (.pF Z) .nil)) (ak Z) (ak Z) Z)) (oN (Mc.mkF (c:=cI) ([v42.2]:LI) [[I v42.2]] bf Z Z Z qD qD Z) (jL h fun g43 h=>oA (EvA.app1 (g:=false) (l:=s14.2.2.2) v42.2 bf (by kernel_rfl) Z Z Z nofun (bG.fz (l:=([v42.2]:LI)) Z qD) g43) (oN (Mc.asg (hS false 2 (u38+1) 1 ((s14.2.2.2++[v42.2]).length)) Z) (jA ?_))))))));obtain rfl:=Mg h;exact ⟨(),trivial,mR Z (.cons (.row (.cons (.fz (qC Z)) (.cons (.fz (qC Z)) .nil))) (.cons (.list (g:=false) (ver:=u37) (l:=s14.2.2.1) qD) .nil)) (aj (.fz (Fz.own (g:=false) (ver:=u38+1) (l:=(s14.2.2.2++[v42.2])) Z Z Z nofun qD)) aN)⟩
    ·refine jI (oN (Mc.ieq Z Z) (oN as' (jA ?_)));refine jN Z h (fun q44 h=>?_) (fun q44 h=>?_)
     ·refine jI (oN mv (oN (Mc.lenO (g:=false) bf Z nofun) (oN (Mc.igt Z Z) (jA ?_))));refine jN Z h (fun q45 h=>?_) (fun q45 h=>?_)
      ·refine jC (oN mv (TO.cut (e0:=au [(78,eL cI s14.2.2.2)]) (H0:=[some ⟨aH,2,157,[(ah.c v40.1)]⟩,bE false u37 1 3 (s14.2.2.1.map cI)]) (mR Z (.cons (.row (.cons (.fz (qC Z)) (.cons (.fz (qC Z)) .nil))) (.cons (.list (g:=false) (ver:=u37) (l:=s14.2.2.1) qD) .nil)) (aj (.fz (Fz.own (g:=false) (ver:=u38) (l:=s14.2.2.2) Z Z Z nofun qD)) aN)) (jD h fun g46 h=>oN (Mc.slL bf Z (.yes Z) .no g46 qD) (oN as' (jA ?_)))))
       cases h
       exact ⟨(),trivial,kw Z Z⟩
      ·refine jG ?_;obtain rfl:=Mg h;exact ⟨(),trivial,mR Z (.cons (.row (.cons (.fz (qC Z)) (.cons (.fz (qC Z)) .nil))) (.cons (.list (g:=false) (ver:=u37) (l:=s14.2.2.1) qD) .nil)) (aj (.fz (Fz.own (g:=false) (ver:=u38) (l:=s14.2.2.2) Z Z Z nofun qD)) aN)⟩
     ·refine jG ?_;obtain rfl:=Mg h;exact ⟨(),trivial,mR Z (.cons (.row (.cons (.fz (qC Z)) (.cons (.fz (qC Z)) .nil))) (.cons (.list (g:=false) (ver:=u37) (l:=s14.2.2.1) qD) .nil)) (aj (.fz (Fz.own (g:=false) (ver:=u38) (l:=s14.2.2.2) Z Z Z nofun qD)) aN)⟩
  ·refine jE ?_;refine jO (S:=(LI)×Int×(LI)×(LI)) (G:=Nat×Nat) (jf p s1) (fun s19 gh=>True) (fun s19 gh=>[(8,hS false 2 gh.2 1 s19.2.2.2.length),(6,I s1.2),(5,hS false 1 gh.1 1 s19.2.2.1.length),(0,.hp 0 aH 2 0 0),(1,eL (cL Mh.c) p)]) (fun s19 gh=>[some ⟨aH,2,157,[[eL cY s19.1,I s19.2.1]]⟩,bE false gh.1 1 3 (s19.2.2.1.map cI),bE false gh.2 1 3 (s19.2.2.2.map cI)]) (s0:=(r_.b,r_.p,s1.1,([]:LI))) (u13,0) h trivial (kw Z Z) (fun s19 gh ws19 h hg=>?_);obtain ⟨u21,u22⟩:=gh;refine jH (jI (oN mv (oN (Mc.lenO (g:=false) bf Z nofun) (oN mv (oN (Mc.ilt Z Z) (jA ?_))))));refine jN Z h (fun q23 h=>?_) (fun q23 h=>?_)
   ·refine jG (jE (jI (oN mv (oN mv (oN (Mc.lenL lF Z) (jB h fun v24 cv24 h=>oA (EvA.call Z Z Z ((aL (⟨s19.1,s19.2.1⟩:ah) (p.length:Int) aH cv24).one 0 Z (.cons (.hp Z) (.cons (.pF Z) .nil)) (ak Z) (ak Z) Z)) (oN as' (jA ?_))))))));refine T.jU h (fun s25=>[(9,I s25),(8,hS false 2 u22 1 s19.2.2.2.length),(6,I s1.2),(5,hS false 1 u21 1 s19.2.2.1.length),(0,.hp 0 aH 2 0 0),(1,eL (cL Mh.c) p)]) (fun s25=>[some ⟨aH,2,157,[(ah.c v24.1)]⟩,bE false u21 1 3 (s19.2.2.1.map cI),bE false u22 1 3 (s19.2.2.2.map cI)]) (fun s25 h=>?_) (fun s25 h=>?_)
    ·refine jI (oN mv (oN mv (oN mv (oN mv (jD h fun g34 h=>oN (Mc.ixO (g:=false) bf Z Z nofun g34) (oA (EvA.ldO (g:=false) (l:=s19.2.2.1) (I (J s19.2.2.1 s25)) Mx Z Z nofun (ay Z g34) Z) (jW h fun g35 h=>oN (Mc.sub Z Z g35) (oN (Mc.ixO (g:=false) bf Z Z nofun g34) (oV (EvA.stO (g:=false) (l:=s19.2.2.1) (cs:=[I ((J s19.2.2.1 s25)-V)]) ((J s19.2.2.1 s25)-V) Mx Z Z Z nofun (ay Z g34) Z Z Z) (jA (jC (oN mv (oN mv ?_)))))))))))));refine oN (Mc.mkF (c:=cI) ([s25]:LI) [[I s25]] bf Z Z Z qD qD Z) (jL h fun g36 h=>oA (EvA.app1 (g:=false) (l:=s19.2.2.2) s25 bf (by kernel_rfl) Z Z Z nofun (bG.fz (l:=([s25]:LI)) Z qD) g36) (oN (Mc.asg (hS false 2 (u22+1) 1 ((s19.2.2.2++[s25]).length)) Z) (jA ?_)));obtain rfl:=Mg h;exact ⟨(v24.1.b,v24.1.p,(s19.2.2.1.set s25.toNat ((J s19.2.2.1 s25)-(1:Int))),(s19.2.2.2++[s25])),(u21,u22+1),Z,trivial,yc Z (Mb Z (Mb Z (Mb (congrArg (hS false 1 u21 1) (by simp:s19.2.2.1.length=(s19.2.2.1.set s25.toNat ((J s19.2.2.1 s25)-(1:Int))).length)) (Mb Z (Mb Z Ma)))))⟩
    ·refine jE ?_;refine T.lU h (fun s28=>[(9,I s28),(8,hS false 2 u22 1 s19.2.2.2.length),(6,I s1.2),(5,hS false 1 u21 1 s19.2.2.1.length),(0,.hp 0 aH 2 0 0),(1,eL (cL Mh.c) p)]) (fun s28=>[some ⟨aH,2,157,[(ah.c v24.1)]⟩,bE false u21 1 3 (s19.2.2.1.map cI),bE false u22 1 3 (s19.2.2.2.map cI)]) (kw Z Z) (fun s28 ws28 h=>?_);refine jH (jI (oN mv (oN mv (jD h fun g30 h=>oN (Mc.ixO (g:=false) bf Z Z nofun g30) (oA (EvA.ldO (g:=false) (l:=s19.2.2.1) (I (J s19.2.2.1 s28)) Mx Z Z nofun (ay Z g30) Z) (oN (Mc.ieq Z Z) (jA ?_)))))));refine jN Z h (fun q31 h=>?_) (fun q31 h=>?_)
     ·refine jG (jE (jC (oN mv (jW h fun g32 h=>oN (Mc.add Z Z g32) (oN mv (oN (Mc.lenL lF Z) (jD h fun g33 h=>oN (Mc.rem Z Z g33) (oN as' (jA ?_)))))))));exact lE h (kw Z Z)
     ·refine jM (lX h fun h=>?_)
      cases h
      exact ⟨(),trivial,kw Z Z⟩
   ·refine jM (lX h fun h=>?_)
    cases h
    exact ⟨(u21,u22),trivial,kw Z Z⟩
 ·refine jI (oN as' (jA (jE ?_)));refine jO (S:=(LI)×Int×Int) (G:=Nat) (j4 p) (fun s5 gh=>True) (fun s5 gh=>[(7,I s5.2.1),(6,I s5.2.2),(5,hS false 1 gh 1 s5.1.length),(0,.hp 0 aH 2 0 0),(1,eL (cL Mh.c) p)]) (fun s5 gh=>[some ⟨aH,2,157,[(ah.c r_)]⟩,bE false gh 1 3 (s5.1.map cI)]) (s0:=(([]:LI),U,U)) 0 h trivial (kw Z Z) (fun s5 u7 ws5 h hg=>?_);refine jH (jI (oN mv (oN mv (oN (Mc.lenL lF Z) (oN (Mc.ilt Z Z) (jA ?_))))));refine jN Z h (fun q8 h=>?_) (fun q8 h=>?_)
  ·refine jG (jH (jE (jI (oN mv (oN mv (oN mv (jD h fun g9 h=>oN (Mc.ixL lF Z Z g9 qD) (oN (lf (eL Mh.c (J p s5.2.1)) xC Z) (oN (Mc.lenL sG Z) (oN (Mc.mkF (c:=cI) ([((J p s5.2.1).length:Int)]:LI) [[I ((J p s5.2.1).length:Int)]] bf Z Z Z qD qD Z) (jL h fun g10 h=>oA (EvA.app1 (g:=false) (l:=s5.1) ((J p s5.2.1).length:Int) bf (by kernel_rfl) Z Z Z nofun (bG.fz (l:=([((J p s5.2.1).length:Int)]:LI)) Z qD) g10) (oN (Mc.asg (hS false 1 (u7+1) 1 ((s5.1++[((J p s5.2.1).length:Int)]).length)) Z) (jA ?_)))))))))))));refine jC (oN mv (oN mv (oN mv (oN (Mc.ixL lF Z Z g9 qD) (oN (lf (eL Mh.c (J p s5.2.1)) xC Z) (oN (Mc.lenL sG Z) (jW h fun g11 h=>oN (Mc.add Z Z g11) (oN as' (jA (T.clean (H0:=[some ⟨aH,2,157,[(ah.c r_)]⟩,bE false (u7+1) 1 3 ((s5.1++[((J p s5.2.1).length:Int)]).map cI)]) (e0:=au [(6,I (s5.2.2+((J p s5.2.1).length:Int))),(5,hS false 1 (u7+1) 1 ((s5.1++[((J p s5.2.1).length:Int)]).length)),(7,I s5.2.1),(0,.hp 0 aH 2 0 0),(1,eL (cL Mh.c) p)]) Z (Mb Z (Mb Z (Mb Z (Mb Z (Mb Z Ma))))) (jC (oN mv (jW h fun g12 h=>oN (Mc.add Z Z g12) ?_)))))))))))));refine oN as' (jA ?_);obtain rfl:=Mg h;exact ⟨((s5.1++[((J p s5.2.1).length:Int)]),(s5.2.1+V),(s5.2.2+((J p s5.2.1).length:Int))),u7+1,Z,trivial,kw Z Z⟩
  ·refine jM (lX h fun h=>?_)
   cases h
   exact ⟨u7,trivial,kw Z Z⟩
theorem rN (code:LI) {q:(List (List Mh))×(LI)} (h:iJ code=some q):aA Tryz.prog 33 [eL cY code] (.tup [eL (cL Mh.c) q.1,eL cI q.2]):=by
 refine pM Tryz.func33 Z (by kernel_rfl) Z (jI (oN as' (oN as' (jA (jI (oN mv (jB h fun v1 cv1 h=>oA (EvA.call Z Z Z ((yp code cv1).fresh Z (ak Z) 0 Z)) (oN as' (jA (jI (oN mv (jB h fun v2 cv2 h=>oA (EvA.call Z Z Z ((zV (⟨v1.b,v1.p⟩:ah) 0 cv2).one 0 Z (.cons (.hp Z) .nil) (ak Z) (ak Z) Z)) (oN as' ?_)))))))))))));refine jA (jI (oN mv (oN mv (jB h fun v3 cv3 h=>oA (EvA.call Z Z Z ((xH (⟨v2.1.b,v2.1.p⟩:ah) v2.2 0 cv3).one 0 Z (.cons (.hp Z) (.cons (.pF Z) .nil)) (ak Z) (ak Z) Z)) (oN mv (oN mv (jB h fun v4 cv4 h=>oA (EvA.call Z Z Z ((vR (⟨v3.1.b,v3.1.p⟩:ah) v2.2 0 cv4).one 0 Z (.cons (.hp Z) (.cons (.pF Z) .nil)) (ak Z) (ak Z) Z)) (oN as' (oN as' (jA (jK ?_)))))))))));obtain rfl:=Mg h
 repeat (first|refine cn ?_|refine cu ?_)
 exact jQ (vs:=[eL (cL Mh.c) v3.2,eL cI v4.2]) (.cons (.tmp Z) (.cons (.tmp Z) .nil)) (.tupL (.cons (qC Z) (.cons (qC Z) .nil)))
theorem vS (code:LI) {q:(List (List Mh))×(LI)} (h:jT code=some q):aA Tryz.prog 8 [eL cY code] (.tup [eL (cL Mh.c) q.1,eL cI q.2]):=by
 refine pM Tryz.func8 Z (by kernel_rfl) Z (jI (oN as' (oN as' (jA (jI (oN mv (oC h (fun _=>rN _) Z Z Z Z fun v1 _ h=>oN (Mc.ext (eL (cL Mh.c) v1.1) Z Z) (oN (Mc.ext (eL cI v1.2) Z Z) (oN as' (oN as' (jA (jK ?_))))))))))));obtain rfl:=Mg h
 repeat (first|refine cn ?_|refine cu ?_)
 exact jQ (vs:=[eL (cL Mh.c) v1.1,eL cI v1.2]) (.cons (.tmp Z) (.cons (.tmp Z) .nil)) (.tupL (.cons (qC Z) (.cons (qC Z) .nil)))
theorem zW (a:LI) (b:LI) {q:Bool} (h:pI a b=some q):aA Tryz.prog 16 [eL cI a,eL cI b] (Bo q):=by
 refine pM Tryz.func16 Z (by kernel_rfl) Z (jI (oN as' (jA (jH (jI (oN mv (oN (Mc.lenL bf Z) (oN mv (oN (Mc.lenL bf Z) (oN (Mc.ine Z Z) (jA ?_)))))))))));refine jN Z h (fun q1 h=>?_) (fun q1 h=>?_)
 ·refine jI (oN as' (jA (jK ?_)))
  cases h
  exact bP Z Z Z
 ·refine jG ?_;obtain ⟨Ks2,es2,ws2,h,ks2⟩:=sumL h;refine T.join (S:=Unit) (G:=Unit) (fun s2=>Ks2 s2=some q) (fun s2 gh=>True) (fun s2 gh=>[]) (fun s2 gh=>[]) (fun s2 gh h hg=>?_) ?_
  ·clear ks2;subst es2;refine jI (oN as' (jA (jK ?_)))
   cases h
   exact bP Z Z Z
  ·refine jI (oN as' (jA (jE ?_)));refine T.lU h (fun s5=>[(5,I s5),(0,eL cI a),(1,eL cI b)]) (fun s5=>[]) (kw Z Z) (fun s5 ws5 h=>?_);refine jH (jI (oN mv (oN mv (oN (Mc.lenL bf Z) (oN (Mc.ilt Z Z) (jA ?_))))));refine jN Z h (fun q7 h=>?_) (fun q7 h=>?_)
   ·refine jG (jH (jE (jH (jP (fun _=>([],false)) (by kernel_rfl) (by kernel_rfl) (fN Z mv (fN Z mv (jD h fun g8 h=>fN Z (Mc.ixL bf Z Z g8 qD) (fN Z (lf (I (J a s5)) Mx Z) (fN Z mv (fN Z mv (jD h fun g9 h=>fN Z (Mc.ixL bf Z Z g9 qD) (fN Z (lf (I (J b s5)) Mx Z) (fN Z (Mc.ine Z Z) ?_)))))))))))));refine jR ?_;refine jN Z h (fun q10 h=>?_) (fun q10 h=>?_)
    ·refine jH (T.clean (H0:=[]) (e0:=au []) Z Ma (jC (oN as' (jA (jK (lX h fun h=>?_))))));obtain rfl:=Mg h;replace h:=congrArg some (show _=_ from ks2)
     cases h
     exact bP Z Z Z
    ·refine jG (jC (oN mv (jW h fun g11 h=>oN (Mc.add Z Z g11) (oN as' (jA ?_)))));exact lE h (kw Z Z)
   ·refine jM (lX h fun h=>?_)
    cases h
    exact ⟨(),(),ks2,trivial,kw Z Z⟩
set_option maxHeartbeats 4000000 in
theorem xW (code:LI) {q:Bool} (h:jg code=some q):aA Tryz.prog 3 [eL cY code] (Bo q):=by
 refine pM Tryz.func3 Z (by kernel_rfl) Z (jI (oN as' (jA (jH (jI (oN mv (oN (Mc.lenL Ei Z) (oN (Mc.igt Z Z) (jA ?_)))))))));refine jN Z h (fun q1 h=>?_) (fun q1 h=>?_)
 ·refine jI (oN as' (jA (jK ?_)))
  cases h
  exact bP Z Z Z
 ·refine jG (jI (oN mv (oC h (fun _=>vS _) Z Z Z Z fun v2 _ h=>oN mv (oN (Mc.ext (eL (cL Mh.c) v2.1) Z Z) (oN (Mc.ext (eL cI v2.2) Z Z) (oN as' (oN as' (jA (jI (oN mv (oN mv (oC h (fun _=>zO _ _) Z Z Z Z fun v3 _ h=>oN mv (oN (Mc.ext (.agg (Mi.c v3.1)) Z Z) ?_)))))))))))));refine oN (Mc.ext (Bo v3.2) Z Z) (oA (EvA.al EY Z Z) (oV (sr [eL cI v3.1.From,eL (cL cI) v3.1.Order] tG Z Z Z Z) (oN as' (jA (jH (T.clean (H0:=[some ⟨0,2,29,[[eL cI v3.1.From,eL (cL cI) v3.1.Order]]⟩]) (e0:=au [(6,Bo v3.2),(5,.hp 0 0 2 0 0),(4,eL cI v2.2),(3,eL (cL Mh.c) v2.1)]) Z (Mb Z (Mb Z (Mb Z (Mb Z Ma)))) (jC (oN mv (oN mv (oC h (fun _=>zQ _ _) Z Z Z Z fun v4 _ h=>oN mv (oN (Mc.ext (.agg (Mi.c v4.1)) Z Z) (oN (Mc.ext (Bo v4.2) Z Z) (oA (EvA.al EY Z Z) (oV (sr [eL cI v4.1.From,eL (cL cI) v4.1.Order] tG Z Z Z Z) ?_))))))))))))));refine oN as' (jA (jH (jI (oN mv (oN mv (oN (Mc.bne bt4 Z Z) (oN mv ?_)))))));refine TO.jB h 5 (fun s5=>[(45,Bo s5),(8,Bo v4.2),(7,.hp 1 0 2 0 0),(6,Bo v3.2),(5,.hp 0 0 2 0 0),(4,eL cI v2.2),(3,eL (cL Mh.c) v2.1)]) (fun s5=>[some ⟨0,2,29,[[eL cI v3.1.From,eL (cL cI) v3.1.Order]]⟩,some ⟨0,2,29,[[eL cI v4.1.From,eL (cL cI) v4.1.Order]]⟩]) (fun s5 q6 h js5=>?_) (fun s5 q6 h js5=>?_) (fun s5 h=>?_)
  ·refine gS Z q6 (gS Z q6 (gS Z q6 (gS Z q6 (oN (Mc.pickT Z q6 (Bo true) Z) ?_))))
   cases h
   exact js5 _ _ (kw Z Z)
  ·refine gA Z q6 (lh (.agg [eL cI v3.1.From,eL (cL cI) v3.1.Order]) tG Z Z Z) (gA Z q6 (lh (.agg [eL cI v4.1.From,eL (cL cI) v4.1.Order]) tG Z Z Z) (jB h fun v7 cv7 h=>gN Z q6 (Mc.call Z Z Z (rI (⟨v3.1.From,v3.1.Order⟩:Mi) (⟨v4.1.From,v4.1.Order⟩:Mi) cv7) Z) (gN Z q6 (Mc.not Z) (oN (Mc.pickF Z q6 (Bo (!v7)) Z) ?_))))
   cases h
   exact js5 _ _ (kw Z Z)
  ·refine oN mv ?_;refine TO.jB h 3 (fun s8=>[(49,Bo s8),(8,Bo v4.2),(7,.hp 1 0 2 0 0),(6,Bo v3.2),(5,.hp 0 0 2 0 0),(4,eL cI v2.2),(3,eL (cL Mh.c) v2.1)]) (fun s8=>[some ⟨0,2,29,[[eL cI v3.1.From,eL (cL cI) v3.1.Order]]⟩,some ⟨0,2,29,[[eL cI v4.1.From,eL (cL cI) v4.1.Order]]⟩]) (fun s8 q9 h js8=>?_) (fun s8 q9 h js8=>?_) (fun s8 h=>?_)
   ·refine gS Z q9 (gS Z q9 (oN (Mc.pickT Z q9 (Bo true) Z) ?_))
    cases h
    exact js8 _ _ (kw Z Z)
   ·refine gN Z q9 mv (gN Z q9 (Mc.not Z) (oN (Mc.pickF Z q9 (Bo (!v3.2)) Z) ?_))
    cases h
    exact js8 _ _ (kw Z Z)
   ·refine jA ?_;refine jN Z h (fun q10 h=>?_) (fun q10 h=>?_)
    ·refine jI (oN mv (oN mv (oN (Mc.beq bt4 Z Z) (oN mv ?_))));refine TO.jB h 4 (fun s11=>[(57,Bo s11)]) (fun s11=>[some ⟨0,2,29,[[eL cI v3.1.From,eL (cL cI) v3.1.Order]]⟩,some ⟨0,2,29,[[eL cI v4.1.From,eL (cL cI) v4.1.Order]]⟩]) (fun s11 q12 h js11=>?_) (fun s11 q12 h js11=>?_) (fun s11 h=>?_)
     ·refine gA Z q12 (lh (.agg [eL cI v3.1.From,eL (cL cI) v3.1.Order]) tG Z Z Z) (gA Z q12 (lh (.agg [eL cI v4.1.From,eL (cL cI) v4.1.Order]) tG Z Z Z) (jB h fun v13 cv13 h=>gN Z q12 (Mc.call Z Z Z (rI (⟨v3.1.From,v3.1.Order⟩:Mi) (⟨v4.1.From,v4.1.Order⟩:Mi) cv13) Z) (oN (Mc.pickT Z q12 (Bo v13) Z) ?_)))
      cases h
      exact js11 _ _ (kw Z Z)
     ·refine gS Z q12 (gS Z q12 (gS Z q12 (oN (Mc.pickF Z q12 (Bo false) Z) ?_)))
      cases h
      exact js11 _ _ (kw Z Z)
     ·refine oN as' (jA (jK ?_))
      cases h
      exact bP Z Z Z
    ·refine jG (jI (oN mv (oA (lh (.agg [eL cI v3.1.From,eL (cL cI) v3.1.Order]) tG Z Z Z) (oC h (fun _=>wS _ _) Z Z Z Z fun v14 _ h=>oN mv (oN (Mc.ext (eL cI v14.1) Z Z) (oN (Mc.ext (Bo v14.2) Z Z) (oN as' (oN as' (jA (jI (oN mv (oN mv (oC h (fun _=>oQ _ _) Z Z Z Z fun v15 _ h=>oN mv ?_)))))))))))));refine oN (Mc.ext (eL cI v15.1) Z Z) (oN (Mc.ext (Bo v15.2) Z Z) (oN as' (oN as' (jA (jH (T.clean (H0:=[some ⟨0,2,29,[[eL cI v3.1.From,eL (cL cI) v3.1.Order]]⟩,some ⟨0,2,29,[[eL cI v4.1.From,eL (cL cI) v4.1.Order]]⟩]) (e0:=au [(12,Bo v15.2),(11,eL cI v15.1),(10,Bo v14.2),(9,eL cI v14.1),(5,.hp 0 0 2 0 0),(3,eL (cL Mh.c) v2.1)]) Z (Mb Z (Mb Z (Mb Z (Mb Z (Mb Z (Mb Z Ma)))))) (jC (oC h (fun _=>yD _) Z Z Z Z fun v16 _ h=>oN mv (oN (Mc.ext (eL ai.c v16.1) Z Z) (oN (Mc.ext (Bo v16.2) Z Z) (oN as' (oN as' (jA (jI ?_))))))))))))));refine oN mv (oA (lh (.agg [eL cI v3.1.From,eL (cL cI) v3.1.Order]) tG Z Z Z) (oN mv (oC h (fun _=>vQ _ _ _) Z Z Z Z fun v17 _ h=>oN mv (oN (Mc.ext (I v17.1) Z Z) (oN (Mc.ext (Bo v17.2) Z Z) (oN as' (oN as' (jA (jI (oN mv (oN mv ?_)))))))))));refine TO.jB h 2 (fun s18=>[(84,Bo s18),(16,Bo v17.2),(15,I v17.1),(14,Bo v16.2),(11,eL cI v15.1),(9,eL cI v14.1)]) (fun s18=>[some ⟨0,2,29,[[eL cI v3.1.From,eL (cL cI) v3.1.Order]]⟩,some ⟨0,2,29,[[eL cI v4.1.From,eL (cL cI) v4.1.Order]]⟩]) (fun s18 q19 h js18=>?_) (fun s18 q19 h js18=>?_) (fun s18 h=>?_)
     ·refine gN Z q19 mv (oN (Mc.pickT Z q19 (Bo v15.2) Z) ?_)
      cases h
      exact js18 _ _ (kw Z Z)
     ·refine gS Z q19 (oN (Mc.pickF Z q19 (Bo false) Z) ?_)
      cases h
      exact js18 _ _ (kw Z Z)
     ·refine oN mv ?_;refine TO.jB h 4 (fun s20=>[(89,Bo s20),(16,Bo v17.2),(15,I v17.1),(14,Bo v16.2)]) (fun s20=>[some ⟨0,2,29,[[eL cI v3.1.From,eL (cL cI) v3.1.Order]]⟩,some ⟨0,2,29,[[eL cI v4.1.From,eL (cL cI) v4.1.Order]]⟩]) (fun s20 q21 h js20=>?_) (fun s20 q21 h js20=>?_) (fun s20 h=>?_)
      ·refine gN Z q21 mv (gN Z q21 mv (jB h fun v22 cv22 h=>gN Z q21 (Mc.call Z Z Z (zW v14.1 v15.1 cv22) Z) (oN (Mc.pickT Z q21 (Bo v22) Z) ?_)))
       cases h
       exact js20 _ _ (kw Z Z)
      ·refine gS Z q21 (gS Z q21 (gS Z q21 (oN (Mc.pickF Z q21 (Bo false) Z) ?_)))
       cases h
       exact js20 _ _ (kw Z Z)
      ·refine oN mv ?_;refine TO.jB h 2 (fun s23=>[(92,Bo s23),(16,Bo v17.2),(15,I v17.1)]) (fun s23=>[some ⟨0,2,29,[[eL cI v3.1.From,eL (cL cI) v3.1.Order]]⟩,some ⟨0,2,29,[[eL cI v4.1.From,eL (cL cI) v4.1.Order]]⟩]) (fun s23 q24 h js23=>?_) (fun s23 q24 h js23=>?_) (fun s23 h=>?_)
       ·refine gN Z q24 mv (oN (Mc.pickT Z q24 (Bo v16.2) Z) ?_)
        cases h
        exact js23 _ _ (kw Z Z)
       ·refine gS Z q24 (oN (Mc.pickF Z q24 (Bo false) Z) ?_)
        cases h
        exact js23 _ _ (kw Z Z)
       ·refine oN mv ?_;refine TO.jB h 2 (fun s25=>[(95,Bo s25),(15,I v17.1)]) (fun s25=>[some ⟨0,2,29,[[eL cI v3.1.From,eL (cL cI) v3.1.Order]]⟩,some ⟨0,2,29,[[eL cI v4.1.From,eL (cL cI) v4.1.Order]]⟩]) (fun s25 q26 h js25=>?_) (fun s25 q26 h js25=>?_) (fun s25 h=>?_)
        ·refine gN Z q26 mv (oN (Mc.pickT Z q26 (Bo v17.2) Z) ?_)
         cases h
         exact js25 _ _ (kw Z Z)
        ·refine gS Z q26 (oN (Mc.pickF Z q26 (Bo false) Z) ?_)
         cases h
         exact js25 _ _ (kw Z Z)
        ·refine oN mv ?_;refine TO.jB h 3 (fun s27=>[(99,Bo s27)]) (fun s27=>[some ⟨0,2,29,[[eL cI v3.1.From,eL (cL cI) v3.1.Order]]⟩,some ⟨0,2,29,[[eL cI v4.1.From,eL (cL cI) v4.1.Order]]⟩]) (fun s27 q28 h js27=>?_) (fun s27 q28 h js27=>?_) (fun s27 h=>?_)
         ·refine gN Z q28 mv (gN Z q28 (Mc.ieq Z Z) (oN (Mc.pickT Z q28 (Bo (v17.1==(-1:Int))) Z) ?_))
          cases h
          exact js27 _ _ (kw Z Z)
         ·refine gS Z q28 (gS Z q28 (oN (Mc.pickF Z q28 (Bo false) Z) ?_))
          cases h
          exact js27 _ _ (kw Z Z)
         ·refine oN as' (jA (jK ?_))
          cases h
          exact bP Z Z Z
open Go.ChangeShapes Go.WideShapes Go.ChangeAt Go.RowKit Go.WideElems
def Hn (P:Program) (ns:List String):Bool:=ns.all fun n=>((P.globalNamed n).bind (P.globals[·]?)).all fun gl=>P.readableRec gl.type&&decide (gl.type<P.types.size)
theorem ve {H:Type} {enc:TypeId×Value->H} {P:Program} (hl:laidOutB P=true) {W W':World} (hb:Below W.heap.size W W') {sp:Nat->Bool} :
  ∀ {ns:List String} {gs:List (DataW H)} {ps:List MemPlace},Hn P ns=true->DataW.TrodVars enc P W (fun _=>true) ns gs ps->(∀ x∈ps,sp x.block=true)->DataW.TrodVars enc P W' sp ns gs ps
 | [],[],_,_,h,_=>h
 | [],_::_,_,_,h,_=>h.elim
 | _::_,[],_,_,h,_=>h.elim
 | n::ns,d::ds,ps,hv,h,hsp=>by
  have hlt:=h.lt;obtain ⟨g,t,cs,fuel,p,q,h1,h2,h3,h4,hs,e⟩:=h;simp only [Hn,List.all_cons,bae] at hv;have ht:P.readableRec t=true/\t<P.types.size:=by
   have := hv.1;rw [h1] at this
   cases hg:P.globals[g]? with
   | none=>rw [hg] at h2;cases h2
   | some gl=>
    rw [hg] at h2;obtain rfl:gl.type=t:=osl h2;simpa [hg] using this
  have hp:∀ x∈p,x.block<W.heap.size:=fun x hx=>hlt x (by rw [e];simp [hx]);have h3':W'.var? P n=some cs:=by
   unfold World.var? at h3 ⊢;rw [h1] at h3 ⊢;simp only [Option.bind_some] at h3 ⊢;have hg:g<W.heap.size:=by
    cases hh:W.heap[g]? with
    | none=>rw [hh] at h3;cases h3
    | some o=>exact (Array.getElem?_eq_some_iff.1 hh).1
   rw [hb.block g hg];exact h3
  exact ⟨g,t,cs,fuel,p,q,h1,h2,h3',DataW.trod_stays (kids_book hl ht.1) (book_sized ht.1) (fun h=>by cases h) ⟨ht.2,book_self t⟩ h4 (fun x hx=>hb.same (hp x hx)) (fun x hx=>hsp x (by rw [e];simp [hx])),
   ve hl hb (by simpa [Hn] using hv.2) hs (fun x hx=>hsp x (by rw [e];simp [hx])),e⟩
theorem CF {P:Program} {W:World} {n:String} {d:DataW Unit} {g t e:Nat} {ss:List ByteArray} {l:List (String×DataW Unit)} (hm:laidMetH P l W) (hf:(l.filter fun x=>x.1==n)=[(n,d)]) (hn:d.handleName?.isNone=true)
  (hg:P.globalNamed n=some g) (ht:(P.globals[g]?).map (·.type)=some t) (hu:P.underlying t=some (.array ss.length e)) (hs:P.underlying e=some .string) (hc:P.cellsOf e=1) (hd:d = .agg (ss.map fun s => .lit (.string s.data.toList))) :
  ∀ j,j<ss.length->W.cell? ⟨g,j,none⟩=(ss[j]?).map .string:=by
 have h1:=hm.filter fun x=>x.1==n;rw [hf,MakeChecks.laidMetH_plain _ _ _ (by simp [hn])] at h1;obtain ⟨ps,⟨g',t',cs,fuel,p,q,hg',ht',hv,hr,_,_⟩,_,_⟩:=h1;obtain rfl:=osl (hg.symm.trans hg');obtain rfl:=osl (ht.symm.trans ht');obtain ⟨xs,m,_,ex,hlen,hl,hel⟩:=DataW.trod_array hu hr;intro j hj;have hE:=hel j hj;rw [hc,Nat.mul_one,geq (by omega)] at hE;obtain ⟨s,e1,e2,_⟩:=DataW.trod_string hs hE;have e3:xs.map (·.1)=ss.map fun s => .lit (.string s.data.toList):=by
  have := (Prod.mk.inj ex).1;rw [hd] at this;exact (DataW.agg.inj this).symm
 have e4:(xs.map (·.1))[j]? = (ss.map fun s=>(DataW.lit (.string s.data.toList):DataW Unit))[j]? := by rw [e3]
 rw [List.getElem?_map,List.getElem?_map,geq (by omega:j<xs.length),geq hj,e2] at e4;simp only [Option.map_some,sie,DataW.lit.injEq,Lit.string.injEq] at e4;have e5:s=ss[j]:=by
  cases s with | mk a=>cases hb:ss[j] with | mk b=>rw [hb] at e4;exact congrArg _ (Array.toList_inj.1 e4)
 rw [World.var?_cell hg hv j,geq hj,<- e5];have h0:((cs.toList.drop j).take 1)[0]? = some (.string s):=by rw [e1];rfl
 simpa using h0
theorem Ho {W:World} {g:Nat} {ss:List ByteArray} (h:∀ j,j<ss.length->W.cell? ⟨g,j,none⟩=(ss[j]?).map .string) (h0:0<ss.length) :
  FRel W (fun g=>g<W.heap.size) (.fp (ss.map fun s => .v (.string s)) 0) (.pointer (some ⟨g,0,none⟩)):=by
 have hlt:g<W.heap.size:=World.block_lt_of_cell? W ⟨g,0,none⟩ (u:=.string ss[0]) (by rw [h 0 h0,geq h0];rfl);have hrow:∀ (j:Nat) (c:AV),(ss.map fun s=>AV.v (.string s))[j]? = some c->∃ hj:j<ss.length,c = .v (.string ss[j]):=fun j c hc=>by
  rw [List.getElem?_map] at hc
  by_cases hj:j<ss.length
  ·rw [geq hj] at hc;exact ⟨hj,(osl hc).symm⟩
  ·rw [gen (by omega)] at hc;cases hc
 refine .fp (o:=0) (fun j => .string (ss[j]?.getD ByteArray.empty)) hlt hlt (fun j c hc=>?_) (fun j c hc=>rfl) (fun j c hc=>?_)
 ·obtain ⟨hj,rfl⟩:=hrow j c hc;rw [Nat.zero_add,h j hj,geq hj];rfl
 ·obtain ⟨hj,rfl⟩:=hrow j c hc;rw [geq hj];exact .v rfl
end
end Go.Proofs.YtcmimhffgmckjaaGreatDoor
