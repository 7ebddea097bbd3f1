/- Texts joined. No conditions. -/
import Derived.Test.YtjcmfddobaplbaaGreatQ7
namespace Go.Proofs.YtjcmfddobaplbaaGreat
noncomputable section
open _root_.List renaming replicate -> Iw, eq_nil_of_length_eq_zero -> Iy
set_option maxHeartbeats 4000000
open Go.RowKit
set_option maxRecDepth 100000
theorem og (p:List<|List CV) {q} (h:lw p=some q):aO Tryz.prog 83 [eL (cL CV.c) p] (.ifc 114<|.fp (CX.c q) 0):=by
 refine pM Tryz.func83 Z (by kernel_rfl) Z<|jI<|oN as'<|jA<|jI<|oN mv<|oN (CR.build [eL (cL CV.c) p,Y U,Y U,Y U,Y U,Y U,Y U,Y U,Y U,Y U,Y U,Y U,Y U,Y U,Y U,Y U] Tryz.underlying118 Bq iq Z Z)<|oN (CR.build [eL (cL CV.c) p,Y U,Y U,Y U,Y U,Y U,Y U,Y U,Y U,Y U,Y U,Y U,Y U,Y U,Y U,Y U] Tryz.underlying120 Bu xD Z Z)<|oN (CR.bxF [eL (cL CV.c) p,Y U,Y U,Y U,Y U,Y U,Y U,Y U,Y U,Y U,Y U,Y U,Y U,Y U,Y U,Y U] Z Z Z)<|oN (CR.mkifc (.fp (CX.c (⟨(⟨p,(⟨U,U,U⟩:Z3b),(⟨(⟨U,U,U⟩:Z3b),(⟨U,U,U⟩:Z3b),(⟨U,U,U⟩:Z3b)⟩:Z33),(⟨U,U,U⟩:Z3b)⟩:CW)⟩:CX)) 0) Tryz.underlying114 (λ_ h=>nomatch h) Z)<|oN as'<|jA<|jK ?_
 cases h
 exact eH Z Z Z
theorem gm (v:CW) {q} (h:aX v=some q):aO Tryz.prog 216 [.fp (CW.c v) 0] (St q):=by
 refine pM Tryz.func216 Z (by kernel_rfl) Z<|jI<|oN as'<|jA<|jI<|oA (EvA.mkO (c:=cY) ([]:LI) [] lV Z Z Z qD Z Z)<|oN mv<|oN (nl Z)<|oN (CR.fafpS 3 Tryz.underlying118 Z (by kernel_rfl) Z Z (row2:=Z3b.c v.pc))<|oN (CR.slA ([v.pc.x0,v.pc.x1,v.pc.x2]:LI) Tryz.underlying115 CZ Z Z Z Z)<|jL h λg1 h=>oA (EvA.appF (l:=([]:LI)) ([v.pc.x0,v.pc.x1,v.pc.x2]:LI) lV (by kernel_rfl) Z Z Z (bK.fz (l:=([v.pc.x0,v.pc.x1,v.pc.x2]:LI)) Z qD) g1)<|oN (CR.asg (hS false 0 (0+1) 1<|(([]:LI)++([v.pc.x0,v.pc.x1,v.pc.x2]:LI)).length) Z)<|jA ?_;refine T.jF (G:=Nat) h (λs2 gh=>True) (λs2 gh=>[(3,hS false 0 gh 1 s2.length),(0,.fp (CW.c v) 0)]) (λs2 gh=>[bE false gh 1 5 (s2.map cY)]) (λs2 u13 h hg=>?_) λs2 h=>?_
 ·refine jI<|oN mv<|oN mv<|oN (nl Z)<|oN (CR.fafpS 3 Tryz.underlying118 Z (by kernel_rfl) Z Z (row2:=Z3b.c v.mem))<|oN (CR.slA ([v.mem.x0,v.mem.x1,v.mem.x2]:LI) Tryz.underlying115 CZ Z Z Z Z)<|jL h λg14 h=>oA (EvA.appF (l:=s2) ([v.mem.x0,v.mem.x1,v.mem.x2]:LI) lV (by kernel_rfl) Z Z Z (bK.fz (l:=([v.mem.x0,v.mem.x1,v.mem.x2]:LI)) Z qD) g14)<|oA (EvA.b2s (l:=(s2++([v.mem.x0,v.mem.x1,v.mem.x2]:LI))) Tryz.underlying22 Tryz.underlying5 Tryz.underlying9 (zg (g:=false) Z)<|bK.ow (g:=false) (l:=(s2++([v.mem.x0,v.mem.x1,v.mem.x2]:LI))) Z Z Z nofun)<|oN as'<|jA<|jK ?_
  cases h
  exact eH Z Z Z
 refine jI<|oN mv<|oN (nl Z)<|oN (CR.fafpS 9 Tryz.underlying118 Z (by kernel_rfl) Z Z (row2:=Z33.c v.reg))<|oN (lf (.agg<|Z33.c v.reg) Ce Z)<|oN mv<|jA<|jE ?_;refine jO (S:=(LI)×Int) (G:=Nat) (dN v) (λs6 gh=>True) (λs6 gh=>[(16,I s6.2),(15,.agg<|Z33.c v.reg),(3,hS false 0 gh 1 s6.1.length),(0,.fp (CW.c v) 0)]) (λs6 gh=>[bE false gh 1 5 (s6.1.map cY)]) (s0:=((([]:LI)++([v.pc.x0,v.pc.x1,v.pc.x2]:LI)),U)) (0+1) h trivial (kw Z Z) λs6 u8 ws6 h hg=>?_;refine jI<|oN (CR.ilt Z Z)<|jA<|jH ?_;refine jN Z h (λq9 h=>?_) λq9 h=>?_
 ·refine jG<|jH<|jE<|jI<|jD h λg10 h=>oN (CR.ixag (.agg<|Z3b.c<|Z33.get v.reg s6.2) Tryz.underlying116 rE Z Z g10<|Ao (P:=λ(z:Int)=>fU true 3 (Z33.c v.reg) (z.toNat*3)=some (.agg<|Z3b.c<|Z33.get v.reg z)) g10 Z Z Z)<|oA (EvA.al Cc Z Z)<|oV (sr (Z3b.c<|Z33.get v.reg s6.2) rE Z Z Z Z)<|jA<|jC<|oN mv<|TO.cut (e0:=aj [(19,hS false 0 u8 1 s6.1.length),(5,.fp (Z3b.c (⟨(Z33.get v.reg s6.2).x0,(Z33.get v.reg s6.2).x1,(Z33.get v.reg s6.2).x2⟩:Z3b)) 0),(16,I s6.2),(15,.agg<|Z33.c v.reg),(0,.fp (CW.c v) 0)]) (H0:=[bE false u8 1 5 (s6.1.map cY)]) (wu Z (.cons (.list (g:=false) (ver:=u8) (l:=s6.1) qD) .nil)<|aD (.hS (g:=false) (b:=0) (ver:=u8) (s:=1) (n:=s6.1.length) Z)<|aD (.fz<|Fz.fpL (ver:=0) (s:=3) (ty:=115) (rows:=[[Y ((Z33.get v.reg s6.2).x0),Y ((Z33.get v.reg s6.2).x1),Y ((Z33.get v.reg s6.2).x2)]]) Z Z Z<|.cons (qC Z)<|.cons (qC Z)<|.cons (qC Z) .nil)<|aD (.fz<|qC Z)<|aD (.fz<|qC Z)<|aD (.fz<|qC Z) gJ)<|oN (CR.slA ([(⟨(Z33.get v.reg s6.2).x0,(Z33.get v.reg s6.2).x1,(Z33.get v.reg s6.2).x2⟩:Z3b).x0,(⟨(Z33.get v.reg s6.2).x0,(Z33.get v.reg s6.2).x1,(Z33.get v.reg s6.2).x2⟩:Z3b).x1,(⟨(Z33.get v.reg s6.2).x0,(Z33.get v.reg s6.2).x1,(Z33.get v.reg s6.2).x2⟩:Z3b).x2]:LI) Tryz.underlying115 CZ Z Z Z Z)<|jL h λg11 h=>oA (EvA.appF (l:=s6.1) ([(⟨(Z33.get v.reg s6.2).x0,(Z33.get v.reg s6.2).x1,(Z33.get v.reg s6.2).x2⟩:Z3b).x0,(⟨(Z33.get v.reg s6.2).x0,(Z33.get v.reg s6.2).x1,(Z33.get v.reg s6.2).x2⟩:Z3b).x1,(⟨(Z33.get v.reg s6.2).x0,(Z33.get v.reg s6.2).x1,(Z33.get v.reg s6.2).x2⟩:Z3b).x2]:LI) lV (by kernel_rfl) Z Z Z (bK.fz (l:=([(⟨(Z33.get v.reg s6.2).x0,(Z33.get v.reg s6.2).x1,(Z33.get v.reg s6.2).x2⟩:Z3b).x0,(⟨(Z33.get v.reg s6.2).x0,(Z33.get v.reg s6.2).x1,(Z33.get v.reg s6.2).x2⟩:Z3b).x1,(⟨(Z33.get v.reg s6.2).x0,(Z33.get v.reg s6.2).x1,(Z33.get v.reg s6.2).x2⟩:Z3b).x2]:LI)) Z qD) g11)<|oN (CR.asg (hS false 0 (u8+1) 1<|(s6.1++([(⟨(Z33.get v.reg s6.2).x0,(Z33.get v.reg s6.2).x1,(Z33.get v.reg s6.2).x2⟩:Z3b).x0,(⟨(Z33.get v.reg s6.2).x0,(Z33.get v.reg s6.2).x1,(Z33.get v.reg s6.2).x2⟩:Z3b).x1,(⟨(Z33.get v.reg s6.2).x0,(Z33.get v.reg s6.2).x1,(Z33.get v.reg s6.2).x2⟩:Z3b).x2]:LI)).length) Z) ?_;refine jA<|jC<|jW h λg12 h=>oN (CR.add Z Z g12)<|oN mv<|jA ?_;obtain rfl:=CU h;exact ⟨((s6.1++([(⟨(Z33.get v.reg s6.2).x0,(Z33.get v.reg s6.2).x1,(Z33.get v.reg s6.2).x2⟩:Z3b).x0,(⟨(Z33.get v.reg s6.2).x0,(Z33.get v.reg s6.2).x1,(Z33.get v.reg s6.2).x2⟩:Z3b).x1,(⟨(Z33.get v.reg s6.2).x0,(Z33.get v.reg s6.2).x1,(Z33.get v.reg s6.2).x2⟩:Z3b).x2]:LI)),(s6.2+V)),u8+1,Z,trivial,kw Z Z⟩
 refine jM<|lX h λh=>?_
 cases h
 exact ⟨u8,trivial,kw Z Z⟩
theorem iQ (s:CX) {q} (h:bz s=some q):aO Tryz.prog 211 [.fp (CX.c s) 0] (St q):=by
 refine pM Tryz.func211 Z (by kernel_rfl) Z<|jI<|oN as'<|jA<|jI<|oN mv<|oN (nl Z)<|oN (CR.fafpS 16 Tryz.underlying120 Z (by kernel_rfl) Z Z (row2:=CW.c s.values))<|oC h (λ_=>gm _) Z Z Z Z λv1 _ h=>oN as'<|jA<|jK ?_
 cases h
 exact eH Z Z Z
theorem bI (v:CW) (t:Int) {q} (h:aT v t=some q):aO Tryz.prog 214 [.fp (CW.c v) 0,I t] (.tup [.agg (CV.c q.1),Bo q.2]):=by
 refine pM Tryz.func214 Z (by kernel_rfl) Z<|jI<|oA (EvA.al pU Z Z)<|oN as'<|jA<|jH<|jH<|jP (λ_=>([],false)) (by kernel_rfl) (by kernel_rfl)<|fN Z mv<|fN Z mv<|fN Z (nl Z)<|fN Z (CR.fafpS 3 Tryz.underlying118 Z (by kernel_rfl) Z Z (row2:=Z3b.c v.pc))<|jD h λg1 h=>fN Z (CR.ixafp Tryz.underlying115 CZ Z Z g1)<|fN Z (lf1 (λz0=>Y<|Z3b.get v.pc z0) g1 CZ Z Z Z Z)<|jW h λg2 h=>?_;refine fN Z (CR.iconv CZ.und Tryz.underlying3 Z g2)<|fN Z mv<|fN Z (nl Z)<|fN Z (fa iq Z)<|fN Z (lf (eL (cL CV.c) v.p) yN Z)<|fN Z mv<|jD h λg3 h=>fN Z (CR.ixL oK Z Z g3 qD)<|fN Z (lf (eL CV.c<|J v.p t) Ac Z)<|fN Z (CR.lenL n8 Z)<|fN Z (CR.ige Z Z)<|jR ?_;refine jN Z h (λq4 h=>?_) λq4 h=>?_
 ·refine jH<|T.clean (H0:=[some ⟨0,4,69,[[I U,I U,I U,I U]]⟩]) (e0:=aj [(4,.hp 0 0 4 0 0)]) Z (CQ Z wkN)<|jC<|oN (CR.build [I U,I U,I U,I U] Tryz.underlying69 pU j4 Z Z)<|oV (sr [I U,I U,I U,I U] nZ Z Z Z Z)<|oN as'<|jA<|jK ?_;obtain rfl:=CU h
  repeat (first|refine jS ?_|refine jT ?_)
  exact jQ (vs:=[.agg [I U,I U,I U,I U],Bo false]) (.cons (.cell (.agg [I U,I U,I U,I U]) nZ Z Z Z Z Z Z)<|.cons (.tmp Z) .nil)<|.tupL<|.cons (qC Z)<|.cons (qC Z) .nil
 refine jG<|jH<|T.clean (H0:=[some ⟨0,4,69,[[I U,I U,I U,I U]]⟩]) (e0:=aj [(4,.hp 0 0 4 0 0),(0,.fp (CW.c v) 0),(1,I t)]) Z (CQ Z<|CQ Z<|CQ Z wkN)<|jP (dG [dF,dF,dF,dF,dF,dF,dF,dF,dF,dF,dF,dF,dF,dF,dF,([0],true),dF]) (by kernel_rfl) (by kernel_rfl)<|fN Z mv<|fN Z (nl Z)<|fN Z (fa iq Z)<|fN Z (lf (eL (cL CV.c) v.p) yN Z)<|fN Z mv<|fN Z (CR.ixL oK Z Z g3 qD)<|fN Z (lf (eL CV.c<|J v.p t) Ac Z)<|fN Z mv<|fN Z mv<|fN Z (nl Z)<|fN Z (CR.fafpS 3 Tryz.underlying118 Z (by kernel_rfl) Z Z (row2:=Z3b.c v.pc))<|fN Z (CR.ixafp Tryz.underlying115 CZ Z Z g1) ?_;refine fN Z (lf1 (λz0=>Y<|Z3b.get v.pc z0) g1 CZ Z Z Z Z)<|jD h λg5 h=>fN Z (CR.ixL n8 Z Z g5 qD)<|fN Z (lf (.agg<|CV.c<|J (J v.p t)<|Z3b.get v.pc t) nZ Z)<|fV 0 [] Z Z (λG hG=>EvA.st (cs:=(CV.c<|J (J v.p t)<|Z3b.get v.pc t)) ⟨0,4,69,[(CV.c<|J (J v.p t)<|Z3b.get v.pc t)]⟩ nZ Z Z (hG.a0 Z) Z Z Z Z Z Z)<|fN Z as'<|jR<|jK ?_;obtain rfl:=CU h
 repeat (first|refine jS ?_|refine jT ?_)
 exact jQ (vs:=[.agg (CV.c<|J (J v.p t)<|Z3b.get v.pc t),Bo true]) (.cons (.cell (.agg<|CV.c<|J (J v.p t)<|Z3b.get v.pc t) nZ Z Z Z Z Z Z)<|.cons (.tmp Z) .nil)<|.tupL<|.cons (qC Z)<|.cons (qC Z) .nil
theorem fe (v:CW) {q} (h:aS v=some q):aO Tryz.prog 209 [.fp (CW.c v) 0] (Bo q):=by
 refine pM Tryz.func209 Z (by kernel_rfl) Z<|jI<|oN as'<|jA ?_;obtain ⟨Ks1,es1,ws1,h,ks1⟩:=xK h;refine T.join (S:=Unit) (G:=Unit) (λs1=>Ks1 s1=some q) (λs1 gh=>True) (λs1 gh=>[]) (λs1 gh=>[]) (λs1 gh h hg=>?_) ?_
 ·clear ks1;subst es1;refine jI<|oN as'<|jA<|jK ?_
  cases h
  exact eH Z Z Z
 refine jI<|oN mv<|oN (nl Z)<|oN (fa iq Z)<|oN (lf (eL (cL CV.c) v.p) yN Z)<|oN (CR.lenL oK Z)<|oN mv<|jA<|jE ?_;refine T.lU h (λs4=>[(11,I s4),(10,I (v.p.length:Int)),(0,.fp (CW.c v) 0)]) (λs4=>[]) (kw Z Z) λs4 ws4 h=>?_;refine jI<|oN (CR.ilt Z Z)<|jA<|jH ?_;refine jN Z h (λq6 h=>?_) λq6 h=>?_
 ·refine jG<|jH<|jE<|jI<|oN mv<|oN as'<|jA<|jI<|oN mv<|oN mv<|oC h (λ_=>bI _ _) Z Z Z Z λv7 _ h=>oN mv<|oN (CR.ext (.agg<|CV.c v7.1) Z Z)<|oN (CR.ext (Bo v7.2) Z Z)<|oA (EvA.al pU Z Z)<|oV (sr (CV.c v7.1) nZ Z Z Z Z) ?_;refine oN as'<|jA<|jI<|oN mv<|jA ?_;refine jN Z h (λq8 h=>?_) λq8 h=>?_
  ·refine jI<|oN as'<|jA<|jK<|lX h λh=>?_;obtain rfl:=CU h;replace h:=congrArg some (show _=_ from ks1)
   cases h
   exact eH Z Z Z
  refine jG<|jC<|jW h λg9 h=>oN (CR.add Z Z g9)<|oN mv<|jA ?_;exact lE h<|wu Z .nil<|aD (.fz<|qC Z)<|aD (.fz<|qC Z)<|aD (.fz<|qC Z) gJ
 refine jM<|lX h λh=>?_
 cases h
 exact ⟨(),(),ks1,trivial,kw Z Z⟩
theorem mo (s:CX) {q} (h:bA s=some q):aO Tryz.prog 210 [.fp (CX.c s) 0] (Bo q):=by
 refine pM Tryz.func210 Z (by kernel_rfl) Z<|jI<|oN as'<|jA<|jI<|oN mv<|oN (nl Z)<|oN (CR.fafpS 16 Tryz.underlying120 Z (by kernel_rfl) Z Z (row2:=CW.c s.values))<|oC h (λ_=>fe _) Z Z Z Z λv1 _ h=>oN as'<|jA<|jK ?_
 cases h
 exact eH Z Z Z
theorem fg (v:CW) {q} (h:aG v=some q):aO Tryz.prog 213 [.fp (CW.c v) 0] (eL cI q):=by
 refine pM Tryz.func213 Z (by kernel_rfl) Z<|jI<|oN as'<|jA<|jH<|T.reserve<|jC<|oN (CR.asg (hS true 0 0 1<|([]:LI).length) Z)<|jA ?_;refine T.jF (G:=(Bool×Nat)) h (λs1 gh=>(gh.1=true->s1=[])) (λs1 gh=>[(3,hS gh.1 0 gh.2 1 s1.length),(0,.fp (CW.c v) 0)]) (λs1 gh=>[bE gh.1 gh.2 1 3 (s1.map cI)]) (λs1 gh h n36=>?_) λs1 h=>?_
 ·obtain ⟨b35,u34⟩:=gh;refine T.jF (G:=(Bool×Nat)) h (λs37 gh=>(gh.1=true->s37=[])) (λs37 gh=>[(3,hS gh.1 0 gh.2 1 s37.length)]) (λs37 gh=>[bE gh.1 gh.2 1 3 (s37.map cI)]) (λs37 gh h n55=>?_) λs37 h=>?_
  ·obtain ⟨b54,u53⟩:=gh;refine jI<|oN mv<|oN (CR.asg (hS b54 0 u53 1 s37.length) Z)<|jA<|jK ?_;obtain rfl:=CU h
   repeat (first|refine jS ?_|refine jT ?_)
   exact jQ (vs:=[hS b54 0 u53 1 s37.length]) (.cons (.tmp Z) .nil)<|Fz.own (g:=b54) (ver:=u53) (l:=s37) Z Z Z n55 qD
  refine jI<|oN mv<|oN (nl Z)<|oN (CR.fafpS 3 Tryz.underlying118 Z (by kernel_rfl) Z Z (row2:=Z3b.c v.mem))<|oN (lf (.agg<|Z3b.c v.mem) rE Z)<|oN mv<|jA<|jE ?_;refine jO (S:=(LI)×Int) (G:=(Bool×Nat)) (cF v) (λs43 gh=>(gh.1=true->s43.1=[])) (λs43 gh=>[(37,I s43.2),(36,.agg<|Z3b.c v.mem),(3,hS gh.1 0 gh.2 1 s43.1.length)]) (λs43 gh=>[bE gh.1 gh.2 1 3 (s43.1.map cI)]) (s0:=(s1,U)) (b35,u34) h n36 (kw Z Z) λs43 gh ws43 h n47=>?_;obtain ⟨b46,u45⟩:=gh;refine jI<|oN (CR.ilt Z Z)<|jA<|jH ?_;refine jN Z h (λq48 h=>?_) λq48 h=>?_
  ·refine jG<|jH<|jE<|jI<|jD h λg49 h=>oN (CR.ixag (Y<|Z3b.get v.mem s43.2) Tryz.underlying115 CZ Z Z g49<|Ao (P:=λ(z:Int)=>fU false 1 (Z3b.c v.mem) (z.toNat*1)=some (Y<|Z3b.get v.mem z)) g49 Z Z Z)<|oN as'<|jA<|jC<|oN mv<|oN mv<|jW h λg50 h=>oN (CR.iconv CZ.und Tryz.underlying3 Z g50)<|oN (CR.mkF (c:=cI) ([(Z3b.get v.mem s43.2)]:LI) [[I (Z3b.get v.mem s43.2)]] oq Z Z Z qD qD Z)<|jL h λg51 h=>oA (EvA.app1 (g:=b46) (l:=s43.1) (Z3b.get v.mem s43.2) oq (by kernel_rfl) Z Z Z n47 (bK.fz (l:=([(Z3b.get v.mem s43.2)]:LI)) Z qD) g51) ?_;refine oN (CR.asg (hS false 0 (u45+1) 1<|(s43.1++[(Z3b.get v.mem s43.2)]).length) Z)<|jA<|jC<|jW h λg52 h=>oN (CR.add Z Z g52)<|oN mv<|jA ?_;obtain rfl:=CU h;exact ⟨((s43.1++[(Z3b.get v.mem s43.2)]),(s43.2+V)),(false,u45+1),Z,nofun,kw Z Z⟩
  refine jM<|lX h λh=>?_
  cases h
  exact ⟨(b46,u45),n47,kw Z Z⟩
 refine jI<|oN mv<|oN (nl Z)<|oN (fa iq Z)<|oN (lf (eL (cL CV.c) v.p) yN Z)<|oN (CR.lenL oK Z)<|oN mv<|jA<|jE ?_;refine jO (S:=(LI)×Int) (G:=(Bool×Nat)) (cO v) (λs7 gh=>(gh.1=true->s7.1=[])) (λs7 gh=>[(14,I s7.2),(13,I (v.p.length:Int)),(3,hS gh.1 0 gh.2 1 s7.1.length),(0,.fp (CW.c v) 0)]) (λs7 gh=>[bE gh.1 gh.2 1 3 (s7.1.map cI)]) (s0:=(([]:LI),U)) (true,0) h qD (kw Z Z) λs7 gh ws7 h n11=>?_;obtain ⟨b10,u9⟩:=gh;refine jI<|oN (CR.ilt Z Z)<|jA<|jH ?_;refine jN Z h (λq12 h=>?_) λq12 h=>?_
 ·refine jG ?_;refine T.jF (G:=(Bool×Nat)) h (λs13 gh=>(gh.1=true->s13=[])) (λs13 gh=>[(14,I s7.2),(13,I (v.p.length:Int)),(3,hS gh.1 0 gh.2 1 s13.length),(0,.fp (CW.c v) 0)]) (λs13 gh=>[bE gh.1 gh.2 1 3 (s13.map cI)]) (λs13 gh h n32=>?_) λs13 h=>?_
  ·obtain ⟨b31,u30⟩:=gh;refine jC<|jW h λg33 h=>oN (CR.add Z Z g33)<|oN mv<|jA ?_;obtain rfl:=CU h;exact ⟨(s13,(s7.2+V)),(b31,u30),Z,n32,kw Z Z⟩
  refine jE<|jI<|oN mv<|oN as'<|jA<|jI<|oN mv<|oN mv<|oN (nl Z)<|oN (CR.fafpS 9 Tryz.underlying118 Z (by kernel_rfl) Z Z (row2:=Z33.c v.reg))<|jD h λg14 h=>oN (CR.ixafp Tryz.underlying116 rE Z Z g14)<|oN (lf1 (λz0 => .agg<|Z3b.c<|Z33.get v.reg z0) g14 rE Z Z Z Z)<|oN mv<|jA<|jE ?_;refine jO (S:=(LI)×Int) (G:=(Bool×Nat)) (cE v s7) (λs20 gh=>(gh.1=true->s20.1=[])) (λs20 gh=>[(23,I s20.2),(22,.agg<|Z3b.c<|Z33.get v.reg s7.2),(14,I s7.2),(13,I (v.p.length:Int)),(3,hS gh.1 0 gh.2 1 s20.1.length),(0,.fp (CW.c v) 0)]) (λs20 gh=>[bE gh.1 gh.2 1 3 (s20.1.map cI)]) (s0:=(s7.1,U)) (b10,u9) h n11 (kw Z Z) λs20 gh ws20 h n24=>?_;let d0:=Z3b.get (Z33.get v.reg s7.2) s20.2;obtain ⟨b23,u22⟩:=gh;refine jI<|oN (CR.ilt Z Z)<|jA<|jH ?_;refine jN Z h (λq25 h=>?_) λq25 h=>?_
  ·refine jG<|jH<|jE<|jI<|jD h λg26 h=>oN (CR.ixag (Y d0) Tryz.underlying115 CZ Z Z g26<|Ao (P:=λ(z:Int)=>fU false 1 (Z3b.c<|Z33.get v.reg s7.2) (z.toNat*1)=some (Y<|Z3b.get (Z33.get v.reg s7.2) z)) g26 Z Z Z)<|oN as'<|jA<|jC<|oN mv<|oN mv<|jW h λg27 h=>oN (CR.iconv CZ.und Tryz.underlying3 Z g27)<|oN (CR.mkF (c:=cI) ([d0]:LI) [[I d0]] oq Z Z Z qD qD Z)<|jL h λg28 h=>oA (EvA.app1 (g:=b23) (l:=s20.1) d0 oq (by kernel_rfl) Z Z Z n24 (bK.fz (l:=([d0]:LI)) Z qD) g28) ?_;refine oN (CR.asg (hS false 0 (u22+1) 1<|(s20.1++[d0]).length) Z)<|jA<|jC<|jW h λg29 h=>oN (CR.add Z Z g29)<|oN mv<|jA ?_;obtain rfl:=CU h;exact ⟨((s20.1++[d0]),(s20.2+V)),(false,u22+1),Z,nofun,kw Z Z⟩
  refine jM<|lX h λh=>?_
  cases h
  exact ⟨(b23,u22),n24,kw Z Z⟩
 refine jM<|lX h λh=>?_
 cases h
 exact ⟨(b10,u9),n11,kw Z Z⟩
theorem lK (s:CX) {q} (h:bY s=some q):aO Tryz.prog 212 [.fp (CX.c s) 0] (eL cI q):=by
 refine pM Tryz.func212 Z (by kernel_rfl) Z<|jI<|oN as'<|jA<|jH<|T.reserve<|jC<|oN (CR.asg (hS true 0 0 1<|([]:LI).length) Z)<|jA ?_;refine T.jF (G:=(Bool×Nat)) h (λs1 gh=>(gh.1=true->s1=[])) (λs1 gh=>[(3,hS gh.1 0 gh.2 1 s1.length)]) (λs1 gh=>[bE gh.1 gh.2 1 3 (s1.map cI)]) (λs1 gh h n23=>?_) λs1 h=>?_
 ·obtain ⟨b22,u21⟩:=gh;refine jI<|oN mv<|oN (CR.asg (hS b22 0 u21 1 s1.length) Z)<|jA<|jK ?_;obtain rfl:=CU h
  repeat (first|refine jS ?_|refine jT ?_)
  exact jQ (vs:=[hS b22 0 u21 1 s1.length]) (.cons (.tmp Z) .nil)<|Fz.own (g:=b22) (ver:=u21) (l:=s1) Z Z Z n23 qD
 refine jI<|oN mv<|oN (nl Z)<|oN (CR.fafpS 16 Tryz.underlying120 Z (by kernel_rfl) Z Z (row2:=CW.c s.values))<|oN (fa iq Z)<|oN (lf (eL (cL CV.c) s.values.p) yN Z)<|oN (CR.lenL oK Z)<|oN mv<|jA<|jE ?_;refine jO (S:=(LI)×Int) (G:=(Bool×Nat)) (eG s) (λs7 gh=>(gh.1=true->s7.1=[])) (λs7 gh=>[(13,I s7.2),(12,I (s.values.p.length:Int)),(3,hS gh.1 0 gh.2 1 s7.1.length),(0,.fp (CX.c s) 0)]) (λs7 gh=>[bE gh.1 gh.2 1 3 (s7.1.map cI)]) (s0:=(([]:LI),U)) (true,0) h qD (kw Z Z) λs7 gh ws7 h n11=>?_;obtain ⟨b10,u9⟩:=gh;refine jI<|oN (CR.ilt Z Z)<|jA<|jH ?_;refine jN Z h (λq12 h=>?_) λq12 h=>?_
 ·refine jG ?_;refine T.jF (G:=(Bool×Nat)) h (λs13 gh=>(gh.1=true->s13=[])) (λs13 gh=>[(3,hS gh.1 0 gh.2 1 s13.length),(13,I s7.2),(12,I (s.values.p.length:Int)),(0,.fp (CX.c s) 0)]) (λs13 gh=>[bE gh.1 gh.2 1 3 (s13.map cI)]) (λs13 gh h n19=>?_) λs13 h=>?_
  ·obtain ⟨b18,u17⟩:=gh;refine jC<|jW h λg20 h=>oN (CR.add Z Z g20)<|oN mv<|jA ?_;obtain rfl:=CU h;exact ⟨(s13,(s7.2+V)),(b18,u17),Z,n19,kw Z Z⟩
  refine jE<|jI<|oN mv<|oN as'<|jA<|jI<|oN mv<|oN (nl Z)<|oN (CR.fafpS 16 Tryz.underlying120 Z (by kernel_rfl) Z Z (row2:=CW.c s.values))<|oN mv<|oC h (λ_=>bI _ _) Z Z Z Z λv14 _ h=>oN mv<|oN (CR.ext (.agg<|CV.c v14.1) Z Z)<|oN (CR.ext (Bo v14.2) Z Z)<|oA (EvA.al pU Z Z)<|oV (sr (CV.c v14.1) nZ Z Z Z Z) ?_;refine oN as'<|jA<|jI<|oN mv<|jA ?_;refine jN Z h (λq15 h=>?_) λq15 h=>?_
  ·refine jC<|oN mv<|oN mv<|oN (CR.mkF (c:=cI) ([s7.2]:LI) [[I s7.2]] oq Z Z Z qD qD Z)<|jL h λg16 h=>oA (EvA.app1 (g:=b10) (l:=s7.1) s7.2 oq (by kernel_rfl) Z Z Z n11 (bK.fz (l:=([s7.2]:LI)) Z qD) g16)<|oN (CR.asg (hS false 0 (u9+1) 1<|(s7.1++[s7.2]).length) Z)<|jA ?_;obtain rfl:=CU h;exact ⟨(false,u9+1),nofun,wu Z (.cons (.list (g:=false) (ver:=u9+1) (l:=(s7.1++[s7.2])) qD) .nil)<|aD (.hS (g:=false) (b:=0) (ver:=u9+1) (s:=1) (n:=(s7.1++[s7.2]).length) Z)<|aD (.fz<|qC Z)<|aD (.fz<|qC Z)<|aD (.fz<|qC Z) gJ⟩
  refine jG ?_;obtain rfl:=CU h;exact ⟨(b10,u9),n11,wu Z (.cons (.list (g:=b10) (ver:=u9) (l:=s7.1) qD) .nil)<|aD (.hS (g:=b10) (b:=0) (ver:=u9) (s:=1) (n:=s7.1.length) Z)<|aD (.fz<|qC Z)<|aD (.fz<|qC Z)<|aD (.fz<|qC Z) gJ⟩
 refine jM<|lX h λh=>?_
 cases h
 exact ⟨(b10,u9),n11,kw Z Z⟩
theorem fD (v:CW) (t:Int) (x:CV) {q} (h:bG v t x=some q):aO Tryz.prog 215 [.fp (CW.c v) 0,I t,.agg (CV.c x)] (Y q):=by
 refine pM Tryz.func215 Z (by kernel_rfl) Z<|jI<|oN (CR.bxF (CV.c x) Z Z Z)<|oN as'<|jA<|jH<|jI<|oN (fa j4 Z)<|oN (lf (I x.Op) ty3 Z)<|oN (CR.ieq Z Z)<|jA ?_;refine jN Z h (λq1 h=>?_) λq1 h=>?_
 ·refine jH<|jP (λ_=>([],false)) (by kernel_rfl) (by kernel_rfl)<|fN Z mv<|fN Z mv<|fN Z (fa j4 Z)<|fN Z (lf (I x.Reg) ty3 Z)<|fN Z (nl Z)<|fN Z (CR.fafpS 9 Tryz.underlying118 Z (by kernel_rfl) Z Z (row2:=Z33.c v.reg))<|jD h λg2 h=>fN Z (CR.ixafp Tryz.underlying116 rE Z Z g2)<|jD h λg3 h=>fN Z (CR.ixafp Tryz.underlying115 CZ Z Z g3)<|fN Z (lf2 (λz0 z1=>Y<|Z3b.get (Z33.get v.reg z0) z1) g2 g3 CZ Z ⟨Z,Z,Z,Z,Z,Z,Z,Z,Z⟩)<|fN Z as'<|jR<|jK ?_
  cases h
  exact eH Z Z Z
 refine jG<|jI<|oN (fa j4 Z)<|oN (lf (I x.Val) ty3 Z)<|jW h λg4 h=>oN (CR.iconv ty3.und Tryz.underlying5 Z g4)<|oN as'<|jA<|jK ?_
 cases h
 exact eH Z Z Z
theorem gp (x:CV) {q} (h:cm x=some q):aO Tryz.prog 78 [.agg (CV.c x)] (Bo q):=by
 refine pM Tryz.func78 Z (by kernel_rfl) Z<|jI<|oN (CR.bxF (CV.c x) Z Z Z)<|oN as'<|jA<|jI<|oN (fa j4 Z)<|oN (lf (I x.Op) ty3 Z)<|oN (CR.ieq Z Z)<|oN mv ?_;refine TO.jB h 4 (λs1=>[(10,Bo s1)]) (λs1=>[]) (λs1 q2 h js1=>?_) (λs1 q2 h js1=>?_) λs1 h=>?_
 ·refine gS Z q2<|gS Z q2<|gS Z q2<|oN (CR.pickT Z q2 (Bo true) Z) ?_
  cases h
  exact js1 _ _<|kw Z Z
 ·refine gN Z q2 (fa j4 Z)<|gN Z q2 (lf (I x.Op) ty3 Z)<|gN Z q2 (CR.ieq Z Z)<|oN (CR.pickF Z q2 (Bo<|x.Op==(5:Int)) Z) ?_
  cases h
  exact js1 _ _<|kw Z Z
 refine oN as'<|jA<|jK ?_
 cases h
 exact eH Z Z Z
theorem jk (x:CV) {q} (h:dx x=some q):aO Tryz.prog 95 [.agg (CV.c x)] (Bo q):=by
 refine pM Tryz.func95 Z (by kernel_rfl) Z<|jI<|oN (CR.bxF (CV.c x) Z Z Z)<|oN as'<|jA<|jI<|oN (fa j4 Z)<|oN (lf (I x.Op) ty3 Z)<|oN (CR.ieq Z Z)<|oN mv ?_;refine TO.jB h 4 (λs1=>[(10,Bo s1),(1,.fp (CV.c x) 0)]) (λs1=>[]) (λs1 q2 h js1=>?_) (λs1 q2 h js1=>?_) λs1 h=>?_
 ·refine gS Z q2<|gS Z q2<|gS Z q2<|oN (CR.pickT Z q2 (Bo true) Z) ?_
  cases h
  exact js1 _ _<|kw Z Z
 ·refine gN Z q2 (fa j4 Z)<|gN Z q2 (lf (I x.Op) ty3 Z)<|gN Z q2 (CR.ieq Z Z)<|oN (CR.pickF Z q2 (Bo<|x.Op==(3:Int)) Z) ?_
  cases h
  exact js1 _ _<|kw Z Z
 refine oN mv ?_;refine TO.jB h 4 (λs3=>[(15,Bo s3)]) (λs3=>[]) (λs3 q4 h js3=>?_) (λs3 q4 h js3=>?_) λs3 h=>?_
 ·refine gS Z q4<|gS Z q4<|gS Z q4<|oN (CR.pickT Z q4 (Bo true) Z) ?_
  cases h
  exact js3 _ _<|kw Z Z
 ·refine gN Z q4 (fa j4 Z)<|gN Z q4 (lf (I x.Op) ty3 Z)<|gN Z q4 (CR.ieq Z Z)<|oN (CR.pickF Z q4 (Bo<|x.Op==(5:Int)) Z) ?_
  cases h
  exact js3 _ _<|kw Z Z
 refine oN as'<|jA<|jK ?_
 cases h
 exact eH Z Z Z
theorem lL (s:CX) (t:Int) {q} (h:bZ s t=some q):aO Tryz.prog 208 [.fp (CX.c s) 0,I t] (.ifc 114<|.fp (CX.c q) 0):=by
 let d0:=(Z3b.set s.values.pc t<|(Z3b.get s.values.pc t)+V);refine pM Tryz.func208 Z (by kernel_rfl) Z<|jI<|oN as'<|jA<|jI<|oN mv<|oN (nl Z)<|oN (lf (.agg<|CX.c s) Bt Z)<|oA (EvA.al Bu Z Z)<|oV (sr (CX.c s) Bt Z Z Z Z)<|jA<|jI<|oN mv<|oN (nl Z)<|oN (CR.fafpS 16 Tryz.underlying120 Z (by kernel_rfl) Z Z (row2:=CW.c s.values))<|oN mv ?_;refine oC h (λ_=>bI _ _) Z Z Z Z λv1 _ h=>oN mv<|oN (CR.ext (.agg<|CV.c v1.1) Z Z)<|oN (CR.ext (Bo v1.2) Z Z)<|oA (EvA.al pU Z Z)<|oV (sr (CV.c v1.1) nZ Z Z Z Z)<|oN as'<|jA<|jI<|oN mv<|oN (fa xD Z)<|oN (fa iq Z)<|jD h λg2 h=>oN (CR.ixahp Tryz.underlying115 CZ Z Z g2)<|oA (lh1 (λz0=>Y<|Z3b.get s.values.pc z0) g2 CZ Z Z Z Z Z)<|jW h λg3 h=>?_;refine oN (CR.add Z Z g3)<|oN (fa xD Z)<|oN (fa iq Z)<|oN (CR.ixahp Tryz.underlying115 CZ Z Z g2)<|oV (sr1 (λz0=>(CX.c (⟨(⟨s.values.p,(Z3b.set s.values.pc z0<|(Z3b.get s.values.pc t)+V),s.values.reg,s.values.mem⟩:CW)⟩:CX))) g2 CZ Z Z Z Z Z Z)<|jA<|jH<|T.clean (H0:=[some ⟨0,16,120,[(CX.c (⟨(⟨s.values.p,d0,s.values.reg,s.values.mem⟩:CW)⟩:CX))]⟩,some ⟨0,4,69,[(CV.c v1.1)]⟩]) (e0:=aj [(6,.hp 1 0 4 0 0),(5,.hp 0 0 16 0 0),(0,.fp (CX.c s) 0),(1,I t)]) Z (CQ Z<|CQ Z<|CQ Z<|CQ Z wkN)<|jP (dG [dF,dF,dF,dF,([1],false),dF,dF]) (by kernel_rfl) (by kernel_rfl)<|fN Z mv<|fN Z (nl Z)<|fN Z (CR.fafpS 16 Tryz.underlying120 Z (by kernel_rfl) Z Z (row2:=CW.c s.values))<|fN Z mv<|fR [1] Z (λG hG=>EvA.loadhp (.agg<|CV.c v1.1) nZ Z (hG.a0 Z) Z Z Z Z)<|fC h (λ_=>fD _ _ _) Z Z Z Z Z λv4 _ h=>fN Z as' ?_;refine jR ?_;refine T.jU h (λs5=>[(8,Y v4),(6,.hp 1 0 4 0 0),(5,.hp 0 0 16 0 0)]) (λs5=>[some ⟨0,16,120,[(CX.c (⟨(⟨s.values.p,d0,(⟨(⟨s5.1,s5.2.1,s5.2.2.1⟩:Z3b),(⟨s5.2.2.2.1,s5.2.2.2.2.1,s5.2.2.2.2.2.1⟩:Z3b),(⟨s5.2.2.2.2.2.2.1,s5.2.2.2.2.2.2.2.1,s5.2.2.2.2.2.2.2.2⟩:Z3b)⟩:Z33),s.values.mem⟩:CW)⟩:CX))]⟩,some ⟨0,4,69,[(CV.c v1.1)]⟩]) (λs5 h=>?_) λs5 h=>?_
 ·refine T.jU h (λs10=>[(5,.hp 0 0 16 0 0)]) (λs10=>[some ⟨0,16,120,[(CX.c (⟨(⟨s.values.p,d0,(⟨(⟨s5.1,s5.2.1,s5.2.2.1⟩:Z3b),(⟨s5.2.2.2.1,s5.2.2.2.2.1,s5.2.2.2.2.2.1⟩:Z3b),(⟨s5.2.2.2.2.2.2.1,s5.2.2.2.2.2.2.2.1,s5.2.2.2.2.2.2.2.2⟩:Z3b)⟩:Z33),(⟨s10.1,s10.2.1,s10.2.2⟩:Z3b)⟩:CW)⟩:CX))]⟩,some ⟨0,4,69,[(CV.c v1.1)]⟩]) (λs10 h=>?_) λs10 h=>?_
  ·refine jI<|oN (CR.mkifc (.hp 0 0 16 0 0) Tryz.underlying114 (λ_ h=>nomatch h) Z)<|oN as'<|jA<|jK ?_;obtain rfl:=CU h
   repeat (first|refine jS ?_|refine jT ?_)
   exact jQ (vs:=[.ifc 114 (.hp 0 0 16 0 0)]) (.cons (.tmp Z) .nil)<|.ifc<|Fz.fpL (ver:=0) (s:=16) (ty:=120) (rows:=[[eL (cL CV.c) s.values.p,Y (d0.x0),Y (d0.x1),Y (d0.x2),Y s5.1,Y s5.2.1,Y s5.2.2.1,Y s5.2.2.2.1,Y s5.2.2.2.2.1,Y s5.2.2.2.2.2.1,Y s5.2.2.2.2.2.2.1,Y s5.2.2.2.2.2.2.2.1,Y s5.2.2.2.2.2.2.2.2,Y s10.1,Y s10.2.1,Y s10.2.2]]) Z Z Z<|.cons (qC Z)<|.cons (qC Z)<|.cons (qC Z)<|.cons (qC Z)<|.cons (qC Z)<|.cons (qC Z)<|.cons (qC Z)<|.cons (qC Z)<|.cons (qC Z)<|.cons (qC Z)<|.cons (qC Z)<|.cons (qC Z)<|.cons (qC Z)<|.cons (qC Z)<|.cons (qC Z)<|.cons (qC Z) .nil
  refine jI<|oA (lh (.agg<|CV.c v1.1) nZ Z Z Z)<|oC h (λ_=>jk _) Z Z Z Z λv11 _ h=>jA ?_;refine jN Z h (λq12 h=>?_) λq12 h=>?_
  ·refine jC<|oN (fa j4 Z)<|oA (lh (I v1.1.Loc) ty3 Z Z Z)<|oN mv<|oN (fa xD Z)<|oN (fa iq Z)<|jD h λg13 h=>oN (CR.ixahp Tryz.underlying115 CZ Z Z g13)<|oV (sr1 (λz0=>(CX.c (⟨(⟨s.values.p,d0,(⟨(⟨s5.1,s5.2.1,s5.2.2.1⟩:Z3b),(⟨s5.2.2.2.1,s5.2.2.2.2.1,s5.2.2.2.2.2.1⟩:Z3b),(⟨s5.2.2.2.2.2.2.1,s5.2.2.2.2.2.2.2.1,s5.2.2.2.2.2.2.2.2⟩:Z3b)⟩:Z33),(Z3b.set s.values.mem z0 v4)⟩:CW)⟩:CX))) g13 CZ Z Z Z Z Z Z)<|jA ?_
   cases h
   exact ⟨(),trivial,kw Z Z⟩
  refine jG ?_
  cases h
  exact ⟨(),trivial,kw Z Z⟩
 refine jI<|oA (lh (.agg<|CV.c v1.1) nZ Z Z Z)<|oC h (λ_=>gp _) Z Z Z Z λv6 _ h=>jA ?_;refine jN Z h (λq7 h=>?_) λq7 h=>?_
 ·refine jP (dG [dF,dF,([1],false),dF,dF,([1],false),dF,dF,dF,dF,dF,dF,dF,dF,dF,([0],true)]) (by kernel_rfl) (by kernel_rfl)<|fN Z mv<|fN Z (fa j4 Z)<|fR [1] Z (λG hG=>EvA.loadhp (I v1.1.Reg) ty3 Z (hG.a0 Z) Z Z Z Z)<|fN Z mv<|fN Z (fa j4 Z)<|fR [1] Z (λG hG=>EvA.loadhp (I v1.1.Loc) ty3 Z (hG.a0 Z) Z Z Z Z)<|fN Z (nl Z)<|fN Z (CR.fafpS 16 Tryz.underlying120 Z (by kernel_rfl) Z Z (row2:=CW.c s.values))<|fN Z (CR.fafpS 3 Tryz.underlying118 Z (by kernel_rfl) Z Z (row2:=Z3b.c s.values.mem))<|jD h λg8 h=>fN Z (CR.ixafp Tryz.underlying115 CZ Z Z g8)<|fN Z (lf1 (λz0=>Y<|Z3b.get s.values.mem z0) g8 CZ Z Z Z Z)<|fN Z (fa xD Z)<|fN Z (fa iq Z)<|fN Z (CR.ixahp Tryz.underlying116 rE Z Z g2) ?_;refine jD h λg9 h=>fN Z (CR.ixahp Tryz.underlying115 CZ Z Z g9)<|fV 0 [] Z Z (λG hG=>sr2 (λz0 z1=>(CX.c (⟨(⟨s.values.p,d0,(⟨((Z33.set s.values.reg z0<|Z3b.set (Z33.get s.values.reg z0) z1<|Z3b.get s.values.mem v1.1.Loc).x0),((Z33.set s.values.reg z0<|Z3b.set (Z33.get s.values.reg z0) z1<|Z3b.get s.values.mem v1.1.Loc).x1),((Z33.set s.values.reg z0<|Z3b.set (Z33.get s.values.reg z0) z1<|Z3b.get s.values.mem v1.1.Loc).x2)⟩:Z33),s.values.mem⟩:CW)⟩:CX))) g2 g9 CZ Z Z (hG.a0 Z) ⟨Z,Z,Z,Z,Z,Z,Z,Z,Z⟩)<|jR ?_
  cases h
  exact ⟨(),trivial,kw Z Z⟩
 refine jG ?_
 cases h
 exact ⟨(),trivial,kw Z Z⟩
theorem eO (s1_:LI) (s2_:LI) {q} (h:bq s1_ s2_=some q):aO Tryz.prog 98 [eL cI s1_,eL cI s2_] (Bo q):=by
 refine pM Tryz.func98 Z (by kernel_rfl) Z<|jI<|oN as'<|jA<|jH<|jI<|oN mv<|oN (CR.lenL oq Z)<|oN mv<|oN (CR.lenL oq Z)<|oN (CR.ine Z Z)<|jA ?_;refine jN Z h (λq1 h=>?_) λq1 h=>?_
 ·refine jI<|oN as'<|jA<|jK ?_
  cases h
  exact eH Z Z Z
 refine jG ?_;obtain ⟨Ks2,es2,ws2,h,ks2⟩:=xK h;refine T.join (S:=Unit) (G:=Unit) (λs2=>Ks2 s2=some q) (λs2 gh=>True) (λs2 gh=>[]) (λs2 gh=>[]) (λs2 gh h hg=>?_) ?_
 ·clear ks2;subst es2;refine jI<|oN as'<|jA<|jK ?_
  cases h
  exact eH Z Z Z
 refine jI<|oN mv<|oN (CR.lenL oq Z)<|oN mv<|jA<|jE ?_;refine T.lU h (λs5=>[(13,I s5),(12,I (s1_.length:Int)),(0,eL cI s1_),(1,eL cI s2_)]) (λs5=>[]) (kw Z Z) λs5 ws5 h=>?_;refine jI<|oN (CR.ilt Z Z)<|jA<|jH ?_;refine jN Z h (λq7 h=>?_) λq7 h=>?_
 ·refine jG<|jH<|jE<|jI<|oN mv<|oN as'<|jA<|jH<|jP (λ_=>([],false)) (by kernel_rfl) (by kernel_rfl)<|fN Z mv<|fN Z mv<|jD h λg8 h=>fN Z (CR.ixL oq Z Z g8 qD)<|fN Z (lf (I<|J s1_ s5) ty3 Z)<|fN Z mv<|fN Z mv ?_;refine jD h λg9 h=>fN Z (CR.ixL oq Z Z g9 qD)<|fN Z (lf (I<|J s2_ s5) ty3 Z)<|fN Z (CR.ine Z Z)<|jR ?_;refine jN Z h (λq10 h=>?_) λq10 h=>?_
  ·refine jH<|T.clean (H0:=[]) (e0:=aj []) Z wkN<|jC<|oN as'<|jA<|jK<|lX h λh=>?_;obtain rfl:=CU h;replace h:=congrArg some (show _=_ from ks2)
   cases h
   exact eH Z Z Z
  refine jG<|jC<|jW h λg11 h=>oN (CR.add Z Z g11)<|oN mv<|jA ?_;exact lE h<|kw Z Z
 refine jM<|lX h λh=>?_
 cases h
 exact ⟨(),(),ks2,trivial,kw Z Z⟩
theorem eC (a:LI) (b:LI) {q} (h:aY a b=some q):aO Tryz.prog 125 [eL cI a,eL cI b] (Bo q):=by
 refine pM Tryz.func125 Z (by kernel_rfl) Z<|jI<|oN as'<|jA<|jI<|oN mv<|oN mv<|oC h (λ_=>eO _ _) Z Z Z Z λv1 _ h=>oN as'<|jA<|jK ?_
 cases h
 exact eH Z Z Z
theorem bP (s:LL) (gw:Bool) (kS:Nat) (hgw:gw=true->s=[]) {q} (h:av s=some q):df Tryz.prog 124 [hS gw 0 kS 1 s.length,.fn (.func 125) []] [bE gw kS 1 41 (s.map<|cL cI)] (wC 1 41 (λx=>x) q.length (q.map<|cL cI) 0 []):=by
 refine df.mkS Tryz.func124 Z (by kernel_rfl) Z (by kernel_rfl) (e0:=aj [(0,hS gw 0 kS 1 s.length),(1,.fn (.func 125) [])]) (CQ Z<|CQ Z wkN)<|jI<|oN as'<|jA<|jH<|jI<|oN mv<|oN (CR.lenO (g:=gw) qB Z<|nJ hgw Z)<|oN (CR.ilt Z Z)<|jA ?_;refine jN Z h (λq1 h=>?_) λq1 h=>?_
 ·refine jI<|oN mv<|oN (CR.asg (hS gw 0 kS 1 s.length) Z)<|jA<|jK ?_;obtain rfl:=CU h
  repeat (first|refine jS ?_|refine jT ?_)
  exact ⟨aj [(4,hS gw 0 kS 1 s.length)],[bE gw kS 1 41 (s.map<|cL cI)],kw Z Z,jQ (vs:=[hS gw 0 kS 1 s.length]) (.cons (.tmp Z) .nil) ⟨gw,kS,(nJ hgw Z),Z,Z⟩⟩
 refine jG ?_;obtain ⟨Ks2,es2,ws2,h,ks2⟩:=xK h;refine T.join (S:=(LL)) (G:=(Bool×Nat)) (λs2=>Ks2 s2=some q) (λs2 gh=>(gh.1=true->s2=[])) (λs2 gh=>[(0,hS gh.1 0 gh.2 1 s2.length)]) (λs2 gh=>[bE gh.1 gh.2 1 41 (s2.map<|cL cI)]) (λs2 gh h n45=>?_) ?_
 ·clear ks2;subst es2;obtain ⟨b44,u43⟩:=gh;refine jI<|oN mv<|oN (CR.asg (hS b44 0 u43 1 s2.length) Z)<|jA<|jK ?_;obtain rfl:=CU h
  repeat (first|refine jS ?_|refine jT ?_)
  exact ⟨aj [(4,hS b44 0 u43 1 s2.length)],[bE b44 u43 1 41 (s2.map<|cL cI)],kw Z Z,jQ (vs:=[hS b44 0 u43 1 s2.length]) (.cons (.tmp Z) .nil) ⟨b44,u43,(nJ n45 Z),Z,Z⟩⟩
 refine jI<|oN as'<|jA<|jE ?_;refine jO (S:=(LL)×Int) (G:=(Bool×Nat)) aB (λs8 gh=>(gh.1=true->s8.1=[])) (λs8 gh=>[(5,I s8.2),(0,hS gh.1 0 gh.2 1 s8.1.length),(1,.fn (.func 125) [])]) (λs8 gh=>[bE gh.1 gh.2 1 41 (s8.1.map<|cL cI)]) (s0:=(s,V)) (gw,kS) h hgw (kw Z Z) λs8 gh ws8 h n12=>?_;obtain ⟨b11,u10⟩:=gh;refine jH<|jI<|oN mv<|oN mv<|oN (CR.lenO (g:=b11) qB Z<|nJ n12 Z)<|oN (CR.ilt Z Z)<|jA ?_;refine jN Z h (λq13 h=>?_) λq13 h=>?_
 ·refine jG ?_;obtain ⟨Ks14,es14,ws14,h,ks14⟩:=xK h;refine T.join (S:=Unit) (G:=Unit) (λs14=>Ks14 s14=some ws8) (λs14 gh=>True) (λs14 gh=>[(5,I s8.2),(0,hS false 0 u10 1 s8.1.length),(1,.fn (.func 125) [])]) (λs14 gh=>[bE false u10 1 41 (s8.1.map<|cL cI)]) (λs14 gh h hg=>?_) ?_
  ·clear ks14;subst es14;refine jC<|oN mv<|jW h λg42 h=>oN (CR.add Z Z g42)<|oN as'<|jA ?_;obtain rfl:=CU h;exact ⟨(s8.1,(s8.2+V)),(false,u10),Z,nofun,kw Z Z⟩
  refine jE<|jH<|jP (dG [dF,dF,dF,dF,([0],false),dF,dF,dF,dF,([0],false),dF]) (by kernel_rfl) (by kernel_rfl)<|fN Z mv<|fN Z mv<|fN Z mv<|jD h λg15 h=>?_;obtain rfl:=wy n12 rfl g15;refine fN Z (CR.ixO (g:=false) qB Z Z nofun g15)<|fR [0] Z (λG hG=>EvA.ldO (g:=false) (l:=s8.1) (eL cI<|J s8.1 s8.2) uo Z (hG.a0 Z) nofun (eX Z g15) Z)<|fN Z mv<|fN Z mv<|jW h λg16 h=>fN Z (CR.sub Z Z g16)<|jD h λg17 h=>fN Z (CR.ixO (g:=false) qB Z Z nofun g17)<|fR [0] Z (λG hG=>EvA.ldO (g:=false) (l:=s8.1) (eL cI<|s8.1.getD ((s8.2-V).toNat) default) uo Z (hG.a0 Z) nofun (eX Z g17) Z)<|fC h (λ_=>eC _ _) Z Z Z Z Z λv18 _ h=>jR ?_;refine jN Z h (λq19 h=>?_) λq19 h=>?_
  ·refine jI<|oN mv<|oN mv<|jD h λg20 h=>oN (CR.slhs Tryz.underlying34 uo (l:=s8.2) (h:=(s8.1.length:Int)) Z (.yes Z) .no g20)<|oN as'<|jA ?_;refine T.jF (G:=Nat) h (λs21 gh=>True) (λs21 gh=>[(5,I s21.2),(0,hS false 0 gh 1 s21.1.length)]) (λs21 gh=>[bE false gh 1 41 (s21.1.map<|cL cI)]) (λs21 u39 h hg=>?_) λs21 h=>?_
   ·refine jI<|oN mv<|oN mv<|jD h λg40 h=>oN (CR.slhs Tryz.underlying34 uo (l:=s21.2) (h:=(s21.1.length:Int)) Z (.yes Z) .no g40)<|oV (EvA.clearO (l:=s21.1) qB zrN Z Z<|AP (l:=s21.1) g40 Z)<|jA<|jI<|oN mv<|oN mv<|jD h λg41 h=>oA (EvA.cutO (l:=(cpy s21.1 (0+s21.2.toNat) (Iw ((s21.1.length:Int).toNat-s21.2.toNat) (default:LI))<|(s21.1.length:Int).toNat-s21.2.toNat)) (zl:=(0:Int)) (zh:=s21.2) (CR.slhs Tryz.underlying34 uo (l:=(0:Int)) (h:=s21.2) Z .no (.yes Z) g41) Z (by simp [uL]) g41)<|oN (CR.asg (hS false 0 (u39+1) 1<|(((cpy s21.1 (0+s21.2.toNat) (Iw ((s21.1.length:Int).toNat-s21.2.toNat) (default:LI))<|(s21.1.length:Int).toNat-s21.2.toNat).drop (0:Int).toNat).take<|s21.2.toNat-(0:Int).toNat).length) Z)<|jA<|jK ?_;obtain rfl:=CU h;replace h:=congrArg some (show _=_ from ks14);refine lX h λh=>?_;obtain rfl:=CU h;replace h:=congrArg some (show _=_ from ks2);obtain rfl:=CU h
    repeat (first|refine jS ?_|refine jT ?_)
    exact ⟨aj [(4,hS false 0 (u39+1) 1<|(((cpy s21.1 (0+s21.2.toNat) (Iw ((s21.1.length:Int).toNat-s21.2.toNat) (default:LI))<|(s21.1.length:Int).toNat-s21.2.toNat).drop U.toNat).take<|s21.2.toNat-U.toNat).length)],[bE false (u39+1) 1 41 ((((cpy s21.1 (0+s21.2.toNat) (Iw ((s21.1.length:Int).toNat-s21.2.toNat) (default:LI))<|(s21.1.length:Int).toNat-s21.2.toNat).drop U.toNat).take<|s21.2.toNat-U.toNat).map<|cL cI)],kw Z Z,jQ (vs:=[hS false 0 (u39+1) 1 ((((cpy s21.1 (0+s21.2.toNat) (Iw ((s21.1.length:Int).toNat-s21.2.toNat) (default:LI))<|(s21.1.length:Int).toNat-s21.2.toNat).drop U.toNat).take<|s21.2.toNat-U.toNat).length)]) (.cons (.tmp Z) .nil) ⟨false,u39+1,nofun,Z,Z⟩⟩
   refine jH<|T.clean (H0:=[bE false u10 1 41 (s8.1.map<|cL cI)]) (e0:=aj [(6,.hs 0 u10 1 (0+s8.2.toNat)<|(s8.1.length:Int).toNat-s8.2.toNat),(5,I s8.2),(0,hS false 0 u10 1 s8.1.length),(1,.fn (.func 125) [])]) Z (CQ Z<|CQ Z<|CQ Z<|CQ Z wkN)<|jC<|oN as'<|jA<|jE ?_;refine jO (S:=(LL)×Int×Int) (G:=Nat) (aA s8) (λs25 gh=>True) (λs25 gh=>[(7,I s25.2.1),(6,.hs 0 gh 1 (0+s8.2.toNat)<|(s8.1.length:Int).toNat-s8.2.toNat),(5,I s25.2.2),(0,hS false 0 gh 1 s25.1.length),(1,.fn (.func 125) [])]) (λs25 gh=>[bE false gh 1 41 (s25.1.map<|cL cI)]) (s0:=(s8.1,V,s8.2)) u10 h trivial (kw Z Z) λs25 u27 ws25 h hg=>?_;let d0:=s25.1.getD ((0+s8.2.toNat)+s25.2.1.toNat) default;refine jH<|jI<|oN mv<|oN mv<|oN (CR.lenP qB Z)<|oN (CR.ilt Z Z)<|jA ?_;refine jN Z h (λq28 h=>?_) λq28 h=>?_
   ·refine jG ?_;refine T.jF (G:=Nat) h (λs29 gh=>True) (λs29 gh=>[(5,I s29.2),(7,I s25.2.1),(6,.hs 0 gh 1 (0+s8.2.toNat)<|(s8.1.length:Int).toNat-s8.2.toNat),(0,hS false 0 gh 1 s29.1.length),(1,.fn (.func 125) [])]) (λs29 gh=>[bE false gh 1 41 (s29.1.map<|cL cI)]) (λs29 u37 h hg=>?_) λs29 h=>?_
    ·refine jC<|oN mv<|jW h λg38 h=>oN (CR.add Z Z g38)<|oN as'<|jA ?_;obtain rfl:=CU h;exact ⟨(s29.1,(s25.2.1+V),s29.2),u37,Z,trivial,kw Z Z⟩
    refine jE<|jH<|jP (dG [dF,dF,dF,dF,([0],false),dF,dF,dF,dF,([0],false),dF,dF]) (by kernel_rfl) (by kernel_rfl)<|fN Z mv<|fN Z mv<|fN Z mv<|jD h λg30 h=>fN Z (CR.ixP qB Z Z g30.1)<|fR [0] Z (λG hG=>EvA.ldO (g:=false) (l:=s25.1) (eL cI d0) uo Z (hG.a0 Z) nofun g30.2 Z)<|fN Z mv<|fN Z mv<|jW h λg31 h=>fN Z (CR.sub Z Z g31)<|jD h λg32 h=>fN Z (CR.ixP qB Z Z g32.1)<|fR [0] Z (λG hG=>EvA.ldO (g:=false) (l:=s25.1) (eL cI<|s25.1.getD ((0+s8.2.toNat)+(s25.2.1-V).toNat) default) uo Z (hG.a0 Z) nofun g32.2 Z) ?_;refine fC h (λ_=>eC _ _) Z Z Z Z Z λv33 _ h=>fN Z (CR.not Z)<|jR ?_;refine jN Z h (λq34 h=>?_) λq34 h=>?_
    ·refine jH<|T.clean (H0:=[bE false u27 1 41 (s25.1.map<|cL cI)]) (e0:=aj [(7,I s25.2.1),(6,.hs 0 u27 1 (0+s8.2.toNat)<|(s8.1.length:Int).toNat-s8.2.toNat),(5,I s25.2.2),(0,hS false 0 u27 1 s25.1.length),(1,.fn (.func 125) [])]) Z (CQ Z<|CQ Z<|CQ Z<|CQ Z<|CQ Z wkN)<|jC<|oN mv<|oN mv<|oN mv<|oN mv<|oN (CR.ixP qB Z Z g30.1)<|oA (EvA.ldO (g:=false) (l:=s25.1) (eL cI d0) uo Z Z nofun g30.2 Z)<|jD h λg35 h=>oN (CR.ixO (g:=false) qB Z Z nofun g35)<|oV (EvA.stO (g:=false) (l:=s25.1) (cs:=[eL cI d0]) d0 uo Z Z Z nofun (eX Z g35) Z Z Z)<|jA<|jC<|oN mv<|jW h λg36 h=>?_;refine oN (CR.add Z Z g36)<|oN as'<|jA ?_;obtain rfl:=CU h;exact ⟨u27,trivial,BP Z<|CQ Z<|CQ Z<|CQ Z<|CQ (congrArg (hS false 0 u27 1) (by simp:s25.1.length=(s25.1.set s25.2.2.toNat d0).length))<|CQ Z wkN⟩
    refine jG ?_
    cases h
    exact ⟨u27,trivial,kw Z Z⟩
   refine jM<|lX h λh=>?_
   cases h
   exact ⟨u27,trivial,kw Z Z⟩
  refine jG ?_
  cases h
  exact ⟨(),(),ks14,trivial,kw Z Z⟩
 refine jM<|lX h λh=>?_;obtain rfl:=CU h;exact ⟨s8.1,(b11,u10),ks2,n12,kw Z Z⟩
theorem fo (list:LL) (gw:Bool) (kS:Nat) (hgw:gw=true->list=[]) {q} (h:aH list=some q):df Tryz.prog 107 [hS gw 0 kS 1 list.length] [bE gw kS 1 41 (list.map<|cL cI)] (wC 1 41 (λx=>x) q.length (q.map<|cL cI) 0 []):=by
 refine df.mkS Tryz.func107 Z (by kernel_rfl) Z (by kernel_rfl) (e0:=aj [(0,hS gw 0 kS 1 list.length)]) (CQ Z wkN)<|jI<|oN as'<|jA<|jI<|oN mv<|jB h λv1 cv1 h=>oA (EvA.call Z Z Z<|(kN list gw kS hgw cv1).oneE Z (.cons (qj Z)<|.cons (.pF Z) .nil) (kG qD) (kG qD) Z)<|jA<|jI<|oN mv<|jB h λv2 cv2 h=>?_;refine oGW Z Z (bP v1 gw kS (λx=>jd (hgw x) cv1) cv2) Z (.cons (yh Z (je cv1).symm)<|.cons (.pF Z) .nil) (kG qD) (kG qD) nK λg3 v4 n5=>?_;refine oN (CR.asg (hS g3 0 v4 1 v2.length) Z)<|jA<|jK ?_;obtain rfl:=CU h
 repeat (first|refine jS ?_|refine jT ?_)
 exact ⟨aj [(2,hS g3 0 v4 1 v2.length)],[bE g3 v4 1 41 (v2.map<|cL cI)],kw Z Z,jQ (vs:=[hS g3 0 v4 1 v2.length]) (.cons (.tmp Z) .nil) ⟨g3,v4,(nJ (λx=>Iy<|n5 x) Z),Z,Z⟩⟩
theorem iw (start:CX) {q} (h:dJ start=some q):aO Tryz.prog 82 [.ifc 114 (.fp (CX.c start) 0)] (.tup [eL (cL cI) q.1,I q.2]):=by
 refine pM Tryz.func82 Z (by kernel_rfl) Z<|jI<|oN as'<|oN as'<|jA<|jI<|oA (EvA.mmkB (kn:=1) ql Z)<|oN mv<|jB h λv1 cv1 h=>oN (CR.invS 16 Z Z (MethT.of (off:=0)<|by kernel_rfl) Z Z (iQ start cv1) Z)<|oV (EvA.minsB (l:=([]:List<|ByteArray×Bool)) ve Tryz.underlying109 v1 true Z Z Z Z)<|oN mv<|oN as'<|jA<|jH<|T.reserve ?_;refine jC<|oN (CR.asg (hS true 1 0 1<|([]:LL).length) Z)<|jA ?_;refine T.jF (G:=(Bool×Nat)) h (λs2 gh=>(gh.1=true->s2.2=[])) (λs2 gh=>[(5,hS gh.1 1 gh.2 1 s2.2.length),(4,.mp 0 2)]) (λs2 gh=>[(some<|mB 1 1 ql cB s2.1),bE gh.1 gh.2 1 41 (s2.2.map<|cL cI)]) (λs2 gh h n45=>?_) λs2 h=>?_
 ·obtain ⟨b44,u43⟩:=gh;refine jI<|oN mv<|jB h λv46 cv46 h=>?_;refine oGW Z Z (fo s2.2 b44 u43 n45 cv46) Z (.cons (qj Z) .nil) (kG qD) (kG qD) nK λg47 v48 n49=>?_;refine oN mv<|oA (EvA.mlenB (l:=s2.1) Tryz.underlying109 Z Z)<|oN (CR.asg (hS g47 1 v48 1 v46.length) Z)<|oN as'<|jA<|jK ?_;obtain rfl:=CU h
  repeat (first|refine jS ?_|refine jT ?_)
  exact jQ (vs:=[hS g47 1 v48 1 v46.length,I (s2.1.length:Int)]) (.cons (.tmp Z)<|.cons (.tmp Z) .nil)<|.tupL<|.cons (Fz.own (g:=g47) (ver:=v48) (l:=v46) Z Z Z (λx=>Iy<|n49 x) qD)<|.cons (qC Z) .nil
 refine jI<|oN mv<|oA (EvA.mkO (c:=(λx=>[AV.ifc 114 (.fp (CX.c x) 0)])) ([start]:List CX) [[.ifc 114 (.fp (CX.c start) 0)]] lG Z Z Z qD Z Z)<|oN (CR.asg (hS false 2 0 1<|([start]:List CX).length) Z)<|jA<|jE ?_;refine jO (S:=(List<|ByteArray×Bool)×(LL)×(List CX)) (G:=(Bool×Nat)×Nat) d9 (λs9 gh=>(gh.1.1=true->s9.2.1=[])) (λs9 gh=>[(6,hS false 2 gh.2 1 s9.2.2.length),(5,hS gh.1.1 1 gh.1.2 1 s9.2.1.length),(4,.mp 0 2)]) (λs9 gh=>[(some<|mB 1 1 ql cB s9.1),bE gh.1.1 gh.1.2 1 41 (s9.2.1.map<|cL cI),bE false gh.2 1 91 (s9.2.2.map λx=>[AV.ifc 114 (.fp (CX.c x) 0)])]) (s0:=((oH ([]:List<|ByteArray×Bool) v1 true),([]:LL),([start]:List CX))) ((true,0),0) h qD (kw Z Z) λs9 gh ws9 h n13=>?_;let d0:=((s9.2.2.length:Int)-V);obtain ⟨⟨b12,u11⟩,u14⟩:=gh;refine jH<|jI<|oN mv<|oN (CR.lenO (g:=false) lG Z nofun)<|oN (CR.igt Z Z)<|jA ?_;refine jN Z h (λq15 h=>?_) λq15 h=>?_
 ·refine jG<|jE<|jI<|oN mv<|oN mv<|oN (CR.lenO (g:=false) lG Z nofun)<|jW h λg16 h=>oN (CR.sub Z Z g16)<|jD h λg17 h=>oN (CR.ixO (g:=false) lG Z Z nofun g17)<|oA (EvA.ldO (g:=false) (l:=s9.2.2) (.ifc 114<|.fp (CX.c<|s9.2.2.getD (d0.toNat) default) 0) Bp Z Z nofun (eX Z g17) Z)<|oN as'<|jA<|jI<|oN mv<|oN mv ?_;refine oN (CR.lenO (g:=false) lG Z nofun)<|oN (CR.sub Z Z g16)<|jD h λg18 h=>oA (EvA.cutO (l:=s9.2.2) (zl:=U) (zh:=d0) (CR.slhs Tryz.underlying110 Bp (l:=U) (h:=d0) Z .no (.yes Z) g18) Z Z g18)<|oN (CR.asg (hS false 2 (u14+1) 1<|((s9.2.2.drop U.toNat).take<|d0.toNat-U.toNat).length) Z)<|jA ?_;refine T.jF (G:=(Bool×Nat)) h (λs19 gh=>(gh.1=true->s19=[])) (λs19 gh=>[(5,hS gh.1 1 gh.2 1 s19.length),(6,hS false 2 (u14+1) 1<|((s9.2.2.drop U.toNat).take<|d0.toNat-U.toNat).length),(7,.ifc 114<|.fp (CX.c<|s9.2.2.getD (d0.toNat) default) 0),(4,.mp 0 2)]) (λs19 gh=>[(some<|mB 1 1 ql cB s9.1),bE gh.1 gh.2 1 41 (s19.map<|cL cI),bE false (u14+1) 1 91 (((s9.2.2.drop U.toNat).take<|d0.toNat-U.toNat).map λx=>[AV.ifc 114 (.fp (CX.c x) 0)])]) (λs19 gh h n26=>?_) λs19 h=>?_
  ·obtain ⟨b25,u24⟩:=gh;refine jI<|oN mv<|jB h λv27 cv27 h=>oN (CR.invS 16 Z Z (MethT.of (off:=0)<|by kernel_rfl) Z Z (lK (s9.2.2.getD (d0.toNat) default) cv27) Z)<|oN (CR.lenL oq Z)<|oN mv<|jA<|jE ?_;refine jO (S:=(List<|ByteArray×Bool)×(List CX)×Int) (G:=Nat) (dZ s9 s19 v27) (λs31 gh=>True) (λs31 gh=>[(42,I s31.2.2),(41,I (v27.length:Int)),(40,eL cI v27),(5,hS b25 1 u24 1 s19.length),(6,hS false 2 gh 1 s31.2.1.length),(7,.ifc 114<|.fp (CX.c<|s9.2.2.getD (d0.toNat) default) 0),(4,.mp 0 2)]) (λs31 gh=>[(some<|mB 1 1 ql cB s31.1),bE b25 u24 1 41 (s19.map<|cL cI),bE false gh 1 91 (s31.2.1.map λx=>[AV.ifc 114 (.fp (CX.c x) 0)])]) (s0:=(s9.1,((s9.2.2.drop U.toNat).take<|d0.toNat-U.toNat),U)) (u14+1) h trivial (kw Z Z) λs31 u33 ws31 h hg=>?_;refine jI<|oN (CR.ilt Z Z)<|jA<|jH ?_;refine jN Z h (λq34 h=>?_) λq34 h=>?_
   ·refine jG ?_;refine T.jF (G:=Nat) h (λs35 gh=>True) (λs35 gh=>[(6,hS false 2 gh 1 s35.2.length),(42,I s31.2.2),(41,I (v27.length:Int)),(40,eL cI v27),(5,hS b25 1 u24 1 s19.length),(7,.ifc 114<|.fp (CX.c<|s9.2.2.getD (d0.toNat) default) 0),(4,.mp 0 2)]) (λs35 gh=>[(some<|mB 1 1 ql cB s35.1),bE b25 u24 1 41 (s19.map<|cL cI),bE false gh 1 91 (s35.2.map λx=>[AV.ifc 114 (.fp (CX.c x) 0)])]) (λs35 u41 h hg=>?_) λs35 h=>?_
    ·refine jC<|jW h λg42 h=>oN (CR.add Z Z g42)<|oN mv<|jA ?_;obtain rfl:=CU h;exact ⟨(s35.1,s35.2,(s31.2.2+V)),u41,Z,trivial,kw Z Z⟩
    refine jE<|jI<|jD h λg36 h=>oN (CR.ixL oq Z Z g36 qD)<|oN (lf (I<|J v27 s31.2.2) ty3 Z)<|oN as'<|jA<|jI<|oN mv<|oN mv<|jB h λv37 cv37 h=>oN (CR.invS 16 Z Z (MethT.of (off:=0)<|by kernel_rfl) Z Z (lL (s9.2.2.getD (d0.toNat) default) (J v27 s31.2.2) cv37) Z)<|oN as'<|jA<|jI<|oN mv ?_;refine jB h λv38 cv38 h=>oN (CR.invS 16 Z Z (MethT.of (off:=0)<|by kernel_rfl) Z Z (iQ v37 cv38) Z)<|oN as'<|jA<|jI<|oN mv<|oN mv<|oA (EvA.lookB (l:=s31.1) ve Tryz.underlying109 (by kernel_rfl) v38 Z Z Z)<|oN (CR.not Z)<|jA ?_;refine jN Z h (λq39 h=>?_) λq39 h=>?_
    ·refine jI<|oN mv<|oN mv<|oV (EvA.msetB (l:=s31.1) ve Tryz.underlying109 v38 true Z Z Z Z)<|jA<|T.clean (H0:=[(some<|mB 1 1 ql cB<|oH s31.1 v38 true),bE b25 u24 1 41 (s19.map<|cL cI),bE false u33 1 91 (s31.2.1.map λx=>[AV.ifc 114 (.fp (CX.c x) 0)])]) (e0:=aj [(10,.ifc 114<|.fp (CX.c v37) 0),(42,I s31.2.2),(41,I (v27.length:Int)),(40,eL cI v27),(5,hS b25 1 u24 1 s19.length),(6,hS false 2 u33 1 s31.2.1.length),(7,.ifc 114<|.fp (CX.c<|s9.2.2.getD (d0.toNat) default) 0),(4,.mp 0 2)]) Z (CQ Z<|CQ Z<|CQ Z<|CQ Z<|CQ Z<|CQ Z<|CQ Z<|CQ Z wkN)<|jC<|oN mv<|oN mv<|oN (CR.mkF (c:=(λx=>[AV.ifc 114 (.fp (CX.c x) 0)])) ([v37]:List CX) [[.ifc 114 (.fp (CX.c v37) 0)]] lG Z Z Z qD qD Z)<|jL h λg40 h=>oA (EvA.app1 (g:=false) (l:=s31.2.1) v37 lG (by kernel_rfl) Z Z Z nofun (bK.fz (c:=(λx=>[AV.ifc 114 (.fp (CX.c x) 0)])) (l:=([v37]:List CX)) Z qD) g40)<|oN (CR.asg (hS false 2 (u33+1) 1<|(s31.2.1++[v37]).length) Z)<|jA ?_
     cases h
     exact ⟨u33+1,trivial,kw Z Z⟩
    refine jG ?_
    cases h
    exact ⟨u33,trivial,kw Z Z⟩
   refine jM<|lX h λh=>?_;obtain rfl:=CU h;exact ⟨(s31.1,s19,s31.2.1),((b25,u24),u33),Z,n26,kw Z Z⟩
  refine jI<|oN mv<|jB h λv20 cv20 h=>oN (CR.invS 16 Z Z (MethT.of (off:=0)<|by kernel_rfl) Z Z (mo (s9.2.2.getD (d0.toNat) default) cv20) Z)<|jA ?_;refine jN Z h (λq21 h=>?_) λq21 h=>?_
  ·refine T.clean (H0:=[(some<|mB 1 1 ql cB s9.1),bE b12 u11 1 41 (s9.2.1.map<|cL cI),bE false (u14+1) 1 91 (((s9.2.2.drop U.toNat).take<|d0.toNat-U.toNat).map λx=>[AV.ifc 114 (.fp (CX.c x) 0)])]) (e0:=aj [(6,hS false 2 (u14+1) 1<|((s9.2.2.drop U.toNat).take<|d0.toNat-U.toNat).length),(7,.ifc 114<|.fp (CX.c<|s9.2.2.getD (d0.toNat) default) 0),(5,hS b12 1 u11 1 s9.2.1.length),(4,.mp 0 2)]) Z (CQ Z<|CQ Z<|CQ Z<|CQ Z wkN)<|jC<|oN mv<|oN mv<|jB h λv22 cv22 h=>oN (CR.invS 16 Z Z (MethT.of (off:=0)<|by kernel_rfl) Z Z (fg ((s9.2.2.getD (d0.toNat) default).values) cv22) Z)<|oN (CR.mkF (c:=(cL cI)) ([v22]:LL) [[eL cI v22]] qB Z Z Z qD qD Z)<|jL h λg23 h=>oA (EvA.app1 (g:=b12) (l:=s9.2.1) v22 qB (by kernel_rfl) Z Z Z n13 (bK.fz (l:=([v22]:LL)) Z qD) g23)<|oN (CR.asg (hS false 1 (u11+1) 1<|(s9.2.1++[v22]).length) Z)<|jA ?_
   cases h
   exact ⟨(false,u11+1),nofun,kw Z Z⟩
  refine jG ?_
  cases h
  exact ⟨(b12,u11),n13,kw Z Z⟩
 refine jM<|lX h λh=>?_;obtain rfl:=CU h;exact ⟨(b12,u11),n13,wu Z (.cons (.mp qD)<|.cons (.list (g:=b12) (ver:=u11) (l:=s9.2.1) qD) .nil)<|aD (.hS (g:=b12) (b:=1) (ver:=u11) (s:=1) (n:=s9.2.1.length) Z)<|aD (.mp<|nlb Z) gJ⟩
theorem jl (p:List<|List CV) {q} (h:dS p=some q):aO Tryz.prog 36 [eL (cL CV.c) p] (eL (cL cI) q):=by
 refine pM Tryz.func36 Z (by kernel_rfl) Z<|jI<|oN as'<|jA<|jH<|jI<|oN mv<|oC h (λ_=>bD _) Z Z Z Z λv1 _ h=>oN (CR.not Z)<|jA ?_;refine jN Z h (λq2 h=>?_) λq2 h=>?_
 ·refine jI<|oN as'<|jA<|jK ?_;obtain rfl:=CU h
  repeat (first|refine jS ?_|refine jT ?_)
  exact jQ (vs:=[.nil]) (.cons (.tmp Z) .nil) .nil0
 refine jG<|jI<|oN mv<|oC h (λ_=>og _) Z Z Z Z λv3 _ h=>oC h (λ_=>iw _) Z Z Z Z λv4 _ h=>oN mv<|oN (CR.ext (eL (cL cI) v4.1) Z Z)<|oN (CR.ext (I v4.2) Z Z)<|oN as'<|oN as'<|jA<|jI<|oN mv<|oN as'<|jA<|jK ?_
 cases h
 exact eH Z Z Z
theorem kO (p:List<|List CV) (split:Bool) {q} (h:dU p split=some q):aO Tryz.prog 118 [eL (cL CV.c) p,Bo split] (.ifc 149<|.fp (aa.c q) 0):=by
 refine pM Tryz.func118 Z (by kernel_rfl) Z<|jI<|oN as'<|jA<|jI<|oN mv<|oN (CR.build [eL (cL CV.c) p,Y U,Y U,Y U,Y U,Y U,Y U,Y U,Y U,Y U,Y U,Y U,Y U,Y U,Y U,Y U] Tryz.underlying118 Bq iq Z Z)<|oN mv<|oN mv<|oN (CR.lenL oK Z)<|jD h λg1 h=>oN (CR.msZ (f:=cY) j5 Z Z g1 Z)<|oN (CR.build [eL (cL CV.c) p,Y U,Y U,Y U,Y U,Y U,Y U,Y U,Y U,Y U,Y U,Y U,Y U,Y U,Y U,Y U,Bo split,eL (cL cY) (Iw (p.length:Int).toNat ([]:LI))] Tryz.underlying152 Bw iL Z Z)<|oA (EvA.bx (cs:=[eL (cL CV.c) p,Y U,Y U,Y U,Y U,Y U,Y U,Y U,Y U,Y U,Y U,Y U,Y U,Y U,Y U,Y U,Bo split,eL (cL cY) (Iw (p.length:Int).toNat ([]:LI))]) Z Z Z)<|oN as'<|jA ?_;refine T.jU h (λs2=>[(5,.hp 0 0 18 0 0)]) (λs2=>[some ⟨0,18,152,[[eL (cL CV.c) p,Y U,Y U,Y U,Y U,Y U,Y U,Y U,Y U,Y U,Y U,Y U,Y U,Y U,Y U,Y U,Bo split,eL (cL cY) s2]]⟩]) (λs2 h=>?_) λs2 h=>?_
 ·refine jI<|oN mv<|oN (CR.mkifc (.hp 0 0 18 0 0) Tryz.underlying149 (λ_ h=>nomatch h) Z)<|oN as'<|jA<|jK ?_;obtain rfl:=CU h
  repeat (first|refine jS ?_|refine jT ?_)
  exact jQ (vs:=[.ifc 149 (.hp 0 0 18 0 0)]) (.cons (.tmp Z) .nil)<|.ifc<|Fz.fpL (ver:=0) (s:=18) (ty:=152) (rows:=[[eL (cL CV.c) p,Y U,Y U,Y U,Y U,Y U,Y U,Y U,Y U,Y U,Y U,Y U,Y U,Y U,Y U,Y U,Bo split,eL (cL cY) s2]]) Z Z Z<|.cons (qC Z)<|.cons (qC Z)<|.cons (qC Z)<|.cons (qC Z)<|.cons (qC Z)<|.cons (qC Z)<|.cons (qC Z)<|.cons (qC Z)<|.cons (qC Z)<|.cons (qC Z)<|.cons (qC Z)<|.cons (qC Z)<|.cons (qC Z)<|.cons (qC Z)<|.cons (qC Z)<|.cons (qC Z)<|.cons (qC Z)<|.cons (qC Z) .nil
 refine jI<|oN mv<|jA ?_;refine jN Z h (λq3 h=>?_) λq3 h=>?_
 ·refine jC<|oN mv<|oN mv<|oN (CR.lenL oK Z)<|jW h λg4 h=>oN (CR.mul Z Z g4)<|jD h λg5 h=>oN (CR.msZ (f:=cY) j5 Z Z g5 Z)<|oN (nl Z)<|oN (fa iL Z)<|oV (sr [eL (cL CV.c) p,Y U,Y U,Y U,Y U,Y U,Y U,Y U,Y U,Y U,Y U,Y U,Y U,Y U,Y U,Y U,Bo split,eL (cL cY) (Iw ((3:Int)*(p.length:Int)).toNat ([]:LI))] mP Z Z Z Z)<|jA ?_
  cases h
  exact ⟨(),trivial,kw Z Z⟩
 refine jG ?_
 cases h
 exact ⟨(),trivial,kw Z Z⟩
theorem gq (s:aa) {q} (h:aZ s=some q):aO Tryz.prog 249 [.fp (aa.c s) 0] (St q):=by
 refine pM Tryz.func249 Z (by kernel_rfl) Z<|jI<|oN as'<|jA<|jI<|oN mv<|oN (nl Z)<|oN (CR.fafpS 16 Tryz.underlying152 Z (by kernel_rfl) Z Z (row2:=CW.c s.values))<|oC h (λ_=>gm _) Z Z Z Z λv1 _ h=>jD h λg2 h=>oA (EvA.s2b Tryz.underlying9 Tryz.underlying22 Tryz.underlying5 Z g2 Z)<|oN (CR.asg (hS false 0 0 1<|(ik v1).length) Z)<|jA ?_;refine T.jF (G:=Nat) h (λs3 gh=>True) (λs3 gh=>[(3,hS false 0 gh 1 s3.length)]) (λs3 gh=>[bE false gh 1 5 (s3.map cY)]) (λs3 u16 h hg=>?_) λs3 h=>?_
 ·refine jI<|oN mv<|oA (EvA.b2s (l:=s3) Tryz.underlying22 Tryz.underlying5 Tryz.underlying9 (zg (g:=false) Z)<|bK.ow (g:=false) (l:=s3) Z Z Z nofun)<|oN as'<|jA<|jK ?_
  cases h
  exact eH Z Z Z
 refine jI<|oN mv<|oN (nl Z)<|oN (fa iL Z)<|oN (lf (eL (cL cY) s.waits) mP Z)<|oN (CR.lenL j5 Z)<|oN mv<|jA<|jE ?_;refine jO (S:=(LI)×Int) (G:=Nat) (dO s) (λs7 gh=>True) (λs7 gh=>[(16,I s7.2),(15,I (s.waits.length:Int)),(14,eL (cL cY) s.waits),(3,hS false 0 gh 1 s7.1.length)]) (λs7 gh=>[bE false gh 1 5 (s7.1.map cY)]) (s0:=((ik v1),U)) 0 h trivial (kw Z Z) λs7 u9 ws7 h hg=>?_;let d0:=s.waits.getD s7.2.toNat default;refine jI<|oN (CR.ilt Z Z)<|jA<|jH ?_;refine jN Z h (λq10 h=>?_) λq10 h=>?_
 ·refine jG<|jH<|jE<|jI<|jD h λg11 h=>oN (CR.ixL j5 Z Z g11 qD)<|oN (lf (eL cY d0) qA Z)<|oN as'<|jA<|jC<|oN mv<|oN mv<|oN (CR.lenL lV Z)<|jW h λg12 h=>oN (CR.iconv ty3.und Tryz.underlying5 Z g12)<|oN (CR.mkF (c:=cY) ([(d0.length:Int)]:LI) [[Y (d0.length:Int)]] lV Z Z Z qD qD Z) ?_;refine jL h λg13 h=>oA (EvA.app1 (g:=false) (l:=s7.1) (d0.length:Int) lV (by kernel_rfl) Z Z Z nofun (bK.fz (l:=([(d0.length:Int)]:LI)) Z qD) g13)<|oN mv<|jL h λg14 h=>oA (EvA.appF (l:=(s7.1++[(d0.length:Int)])) d0 lV (by kernel_rfl) Z Z Z (bK.fz (l:=d0) Z qD) g14)<|oN (CR.asg (hS false 0 ((u9+1)+1) 1<|((s7.1++[(d0.length:Int)])++d0).length) Z)<|jA<|jC<|jW h λg15 h=>oN (CR.add Z Z g15)<|oN mv<|jA ?_;obtain rfl:=CU h;exact ⟨(((s7.1++[(d0.length:Int)])++d0),(s7.2+V)),(u9+1)+1,Z,trivial,kw Z Z⟩
 refine jM<|lX h λh=>?_
 cases h
 exact ⟨u9,trivial,kw Z Z⟩
theorem iN (waits:LI) {q} (h:fS waits=some q):aO Tryz.prog 256 [eL cY waits] (Bo q):=by
 refine pM Tryz.func256 Z (by kernel_rfl) Z<|jI<|oN as'<|jA<|jI<|oN mv<|oN (CR.lenL lV Z)<|oN (CR.igt Z Z)<|oN as'<|jA<|jK ?_
 cases h
 exact eH Z Z Z
theorem bT (s:LL) {q} (h:aF s=some q):aO Tryz.prog 259 [eL (cL cY) s,.fn (.func 256) []] (I q):=by
 refine pM Tryz.func259 Z (by kernel_rfl) Z<|jI<|oN as'<|jA ?_;obtain ⟨Ks1,es1,ws1,h,ks1⟩:=xK h;refine T.join (S:=Unit) (G:=Unit) (λs1=>Ks1 s1=some q) (λs1 gh=>True) (λs1 gh=>[]) (λs1 gh=>[]) (λs1 gh h hg=>?_) ?_
 ·clear ks1;subst es1;refine jI<|oN as'<|jA<|jK ?_
  cases h
  exact eH Z Z Z
 refine jI<|oN mv<|oN (CR.lenL j5 Z)<|oN mv<|jA<|jE ?_;refine T.lU h (λs4=>[(8,I s4),(7,I (s.length:Int)),(0,eL (cL cY) s),(1,.fn (.func 256) [])]) (λs4=>[]) (kw Z Z) λs4 ws4 h=>?_;refine jI<|oN (CR.ilt Z Z)<|jA<|jH ?_;refine jN Z h (λq6 h=>?_) λq6 h=>?_
 ·refine jG<|jH<|jE<|jI<|oN mv<|oN as'<|jA<|jI<|oN mv<|oN mv<|oN mv<|jD h λg7 h=>oN (CR.ixL j5 Z Z g7 qD)<|oN (lf (eL cY<|J s s4) qA Z)<|oC h (λ_=>iN _) Z Z Z Z λv8 _ h=>jA ?_;refine jN Z h (λq9 h=>?_) λq9 h=>?_
  ·refine jI<|oN mv<|oN as'<|jA<|jK<|lX h λh=>?_;obtain rfl:=CU h;replace h:=congrArg some (show _=_ from ks1)
   cases h
   exact eH Z Z Z
  refine jG<|jC<|jW h λg10 h=>oN (CR.add Z Z g10)<|oN mv<|jA ?_;exact lE h<|kw Z Z
 refine jM<|lX h λh=>?_
 cases h
 exact ⟨(),(),ks1,trivial,kw Z Z⟩
theorem bJ (s:LL) {q} (h:aC s=some q):aO Tryz.prog 255 [eL (cL cY) s,.fn (.func 256) []] (Bo q):=by
 refine pM Tryz.func255 Z (by kernel_rfl) Z<|jI<|oN as'<|jA<|jI<|oN mv<|oN mv<|oC h (λ_=>bT _) Z Z Z Z λv1 _ h=>oN (CR.ige Z Z)<|oN as'<|jA<|jK ?_
 cases h
 exact eH Z Z Z
theorem jm (s:aa) {q} (h:bu s=some q):aO Tryz.prog 248 [.fp (aa.c s) 0] (Bo q):=by
 refine pM Tryz.func248 Z (by kernel_rfl) Z<|jI<|oN as'<|jA<|jI<|oN mv<|oN (nl Z)<|oN (CR.fafpS 16 Tryz.underlying152 Z (by kernel_rfl) Z Z (row2:=CW.c s.values))<|oC h (λ_=>fe _) Z Z Z Z λv1 _ h=>oN mv ?_;refine TO.jB h 7 (λs2=>[(14,Bo s2)]) (λs2=>[]) (λs2 q3 h js2=>?_) (λs2 q3 h js2=>?_) λs2 h=>?_
 ·refine gN Z q3 mv<|gN Z q3 (nl Z)<|gN Z q3 (fa iL Z)<|gN Z q3 (lf (eL (cL cY) s.waits) mP Z)<|jB h λv4 cv4 h=>gN Z q3 (CR.call Z Z Z (bJ s.waits cv4) Z)<|gN Z q3 (CR.not Z)<|oN (CR.pickT Z q3 (Bo<|!v4) Z) ?_
  cases h
  exact js2 _ _<|kw Z Z
 ·refine gS Z q3<|gS Z q3<|gS Z q3<|gS Z q3<|gS Z q3<|gS Z q3<|oN (CR.pickF Z q3 (Bo false) Z) ?_
  cases h
  exact js2 _ _<|kw Z Z
 refine oN as'<|jA<|jK ?_
 cases h
 exact eH Z Z Z
theorem fq (s:aa) (t:Int) (loc:Int) {q} (h:bB s t loc=some q):aO Tryz.prog 253 [.fp (aa.c s) 0,I t,I loc] (I q):=by
 refine pM Tryz.func253 Z (by kernel_rfl) Z<|jI<|oN as'<|jA<|jH<|jI<|oN mv<|oN (nl Z)<|oN (fa iL Z)<|oN (lf (Bo s.split) ty4 Z)<|jA ?_;refine jN Z h (λq1 h=>?_) λq1 h=>?_
 ·refine jI<|oN mv<|jW h λg2 h=>oN (CR.mul Z Z g2)<|oN mv<|jW h λg3 h=>oN (CR.add Z Z g3)<|oN as'<|jA<|jK ?_
  cases h
  exact eH Z Z Z
 refine jG<|jI<|oN mv<|oN as'<|jA<|jK ?_
 cases h
 exact eH Z Z Z
theorem iy (s:aa) (t:Int) {q} (h:bU s t=some q):aO Tryz.prog 257 [.fp (aa.c s) 0,I t] (Bo q):=by
 refine pM Tryz.func257 Z (by kernel_rfl) Z<|jI<|oN as'<|jA ?_;obtain ⟨Ks1,es1,ws1,h,ks1⟩:=xK h;refine T.join (S:=Unit) (G:=Unit) (λs1=>Ks1 s1=some q) (λs1 gh=>True) (λs1 gh=>[]) (λs1 gh=>[]) (λs1 gh h hg=>?_) ?_
 ·clear ks1;subst es1;refine jI<|oN as'<|jA<|jK ?_
  cases h
  exact eH Z Z Z
 refine jI<|oN mv<|jA<|jE ?_;refine T.lU h (λs4=>[(6,I s4),(0,.fp (aa.c s) 0),(1,I t)]) (λs4=>[]) (kw Z Z) λs4 ws4 h=>?_;refine jI<|oN (CR.ilt Z Z)<|jA<|jH ?_;refine jN Z h (λq6 h=>?_) λq6 h=>?_
 ·refine jG<|jH<|jE<|jI<|oN mv<|oN as'<|jA<|jH<|jP (λ_=>([],false)) (by kernel_rfl) (by kernel_rfl)<|fN Z mv<|fN Z (nl Z)<|fN Z (fa iL Z)<|fN Z (lf (eL (cL cY) s.waits) mP Z)<|fN Z mv<|fN Z mv<|fN Z mv ?_;refine fC h (λ_=>fq _ _ _) Z Z Z Z Z λv7 _ h=>jD h λg8 h=>fN Z (CR.ixL j5 Z Z g8 qD)<|fN Z (lf (eL cY<|J s.waits v7) qA Z)<|fN Z (CR.lenL lV Z)<|fN Z (CR.igt Z Z)<|jR ?_;refine jN Z h (λq9 h=>?_) λq9 h=>?_
  ·refine jH<|T.clean (H0:=[]) (e0:=aj []) Z wkN<|jC<|oN as'<|jA<|jK<|lX h λh=>?_;obtain rfl:=CU h;replace h:=congrArg some (show _=_ from ks1)
   cases h
   exact eH Z Z Z
  refine jG<|jC<|jW h λg10 h=>oN (CR.add Z Z g10)<|oN mv<|jA ?_;exact lE h<|kw Z Z
 refine jM<|lX h λh=>?_
 cases h
 exact ⟨(),(),ks1,trivial,kw Z Z⟩
theorem iS (s:aa) {q} (h:bh s=some q):aO Tryz.prog 250 [.fp (aa.c s) 0] (eL cI q):=by
 refine pM Tryz.func250 Z (by kernel_rfl) Z<|jI<|oN as'<|jA<|jH<|T.reserve<|jC<|oN (CR.asg (hS true 0 0 1<|([]:LI).length) Z)<|jA ?_;refine T.jF (G:=(Bool×Nat)) h (λs1 gh=>(gh.1=true->s1=[])) (λs1 gh=>[(3,hS gh.1 0 gh.2 1 s1.length),(0,.fp (aa.c s) 0)]) (λs1 gh=>[bE gh.1 gh.2 1 3 (s1.map cI)]) (λs1 gh h n30=>?_) λs1 h=>?_
 ·obtain ⟨b29,u28⟩:=gh;refine T.jF (G:=(Bool×Nat)) h (λs31 gh=>(gh.1=true->s31=[])) (λs31 gh=>[(3,hS gh.1 0 gh.2 1 s31.length)]) (λs31 gh=>[bE gh.1 gh.2 1 3 (s31.map cI)]) (λs31 gh h n54=>?_) λs31 h=>?_
  ·obtain ⟨b53,u52⟩:=gh;refine jI<|oN mv<|oN (CR.asg (hS b53 0 u52 1 s31.length) Z)<|jA<|jK ?_;obtain rfl:=CU h
   repeat (first|refine jS ?_|refine jT ?_)
   exact jQ (vs:=[hS b53 0 u52 1 s31.length]) (.cons (.tmp Z) .nil)<|Fz.own (g:=b53) (ver:=u52) (l:=s31) Z Z Z n54 qD
  refine jI<|oN mv<|oN (nl Z)<|oN (fa iL Z)<|oN (lf (eL (cL cY) s.waits) mP Z)<|oN (CR.lenL j5 Z)<|oN mv<|jA<|jE ?_;refine jO (S:=(LI)×Int) (G:=(Bool×Nat)) (cQ s) (λs37 gh=>(gh.1=true->s37.1=[])) (λs37 gh=>[(52,I s37.2),(51,I (s.waits.length:Int)),(50,eL (cL cY) s.waits),(3,hS gh.1 0 gh.2 1 s37.1.length),(0,.fp (aa.c s) 0)]) (λs37 gh=>[bE gh.1 gh.2 1 3 (s37.1.map cI)]) (s0:=(s1,U)) (b29,u28) h n30 (kw Z Z) λs37 gh ws37 h n41=>?_;obtain ⟨b40,u39⟩:=gh;refine jI<|oN (CR.ilt Z Z)<|jA<|jH ?_;refine jN Z h (λq42 h=>?_) λq42 h=>?_
  ·refine jG ?_;refine T.jF (G:=(Bool×Nat)) h (λs43 gh=>(gh.1=true->s43=[])) (λs43 gh=>[(3,hS gh.1 0 gh.2 1 s43.length),(52,I s37.2),(51,I (s.waits.length:Int)),(50,eL (cL cY) s.waits),(0,.fp (aa.c s) 0)]) (λs43 gh=>[bE gh.1 gh.2 1 3 (s43.map cI)]) (λs43 gh h n50=>?_) λs43 h=>?_
   ·obtain ⟨b49,u48⟩:=gh;refine jC<|jW h λg51 h=>oN (CR.add Z Z g51)<|oN mv<|jA ?_;obtain rfl:=CU h;exact ⟨(s43,(s37.2+V)),(b49,u48),Z,n50,kw Z Z⟩
   refine jE<|jI<|oN mv<|jD h λg44 h=>oN (CR.ixL j5 Z Z g44 qD)<|oN (lf (eL cY<|J s.waits s37.2) qA Z)<|oN as'<|oN as'<|jA<|jI<|oN mv<|oN (CR.lenL lV Z)<|oN (CR.igt Z Z)<|jA ?_;refine jN Z h (λq45 h=>?_) λq45 h=>?_
   ·refine jC<|oN mv<|oN mv<|oN (nl Z)<|oN (CR.fafpS 16 Tryz.underlying152 Z (by kernel_rfl) Z Z (row2:=CW.c s.values))<|oN (fa iq Z)<|oN (lf (eL (cL CV.c) s.values.p) yN Z)<|oN (CR.lenL oK Z)<|oN mv<|jW h λg46 h=>oN (CR.add Z Z g46)<|oN (CR.mkF (c:=cI) ([((s.values.p.length:Int)+s37.2)]:LI) [[I ((s.values.p.length:Int)+s37.2)]] oq Z Z Z qD qD Z)<|jL h λg47 h=>oA (EvA.app1 (g:=b40) (l:=s37.1) ((s.values.p.length:Int)+s37.2) oq (by kernel_rfl) Z Z Z n41 (bK.fz (l:=([((s.values.p.length:Int)+s37.2)]:LI)) Z qD) g47)<|oN (CR.asg (hS false 0 (u39+1) 1<|(s37.1++[((s.values.p.length:Int)+s37.2)]).length) Z)<|jA ?_
    cases h
    exact ⟨(false,u39+1),nofun,kw Z Z⟩
   refine jG ?_
   cases h
   exact ⟨(b40,u39),n41,kw Z Z⟩
  refine jM<|lX h λh=>?_
  cases h
  exact ⟨(b40,u39),n41,kw Z Z⟩
 refine jI<|oN mv<|oN (nl Z)<|oN (CR.fafpS 16 Tryz.underlying152 Z (by kernel_rfl) Z Z (row2:=CW.c s.values))<|oN (fa iq Z)<|oN (lf (eL (cL CV.c) s.values.p) yN Z)<|oN (CR.lenL oK Z)<|oN mv<|jA<|jE ?_;refine jO (S:=(LI)×Int) (G:=(Bool×Nat)) (dz s) (λs7 gh=>(gh.1=true->s7.1=[])) (λs7 gh=>[(15,I s7.2),(14,I (s.values.p.length:Int)),(3,hS gh.1 0 gh.2 1 s7.1.length),(0,.fp (aa.c s) 0)]) (λs7 gh=>[bE gh.1 gh.2 1 3 (s7.1.map cI)]) (s0:=(([]:LI),U)) (true,0) h qD (kw Z Z) λs7 gh ws7 h n11=>?_;obtain ⟨b10,u9⟩:=gh;refine jI<|oN (CR.ilt Z Z)<|jA<|jH ?_;refine jN Z h (λq12 h=>?_) λq12 h=>?_
 ·refine jG ?_;refine T.jF (G:=(Bool×Nat)) h (λs13 gh=>(gh.1=true->s13=[])) (λs13 gh=>[(3,hS gh.1 0 gh.2 1 s13.length),(15,I s7.2),(14,I (s.values.p.length:Int)),(0,.fp (aa.c s) 0)]) (λs13 gh=>[bE gh.1 gh.2 1 3 (s13.map cI)]) (λs13 gh h n26=>?_) λs13 h=>?_
  ·obtain ⟨b25,u24⟩:=gh;refine jC<|jW h λg27 h=>oN (CR.add Z Z g27)<|oN mv<|jA ?_;obtain rfl:=CU h;exact ⟨(s13,(s7.2+V)),(b25,u24),Z,n26,kw Z Z⟩
  refine jE<|jI<|oN mv<|oN as'<|jA<|jI<|oN mv<|oN (nl Z)<|oN (CR.fafpS 16 Tryz.underlying152 Z (by kernel_rfl) Z Z (row2:=CW.c s.values))<|oN mv<|oC h (λ_=>bI _ _) Z Z Z Z λv14 _ h=>oN mv<|oN (CR.ext (.agg<|CV.c v14.1) Z Z)<|oN (CR.ext (Bo v14.2) Z Z)<|oA (EvA.al pU Z Z)<|oV (sr (CV.c v14.1) nZ Z Z Z Z) ?_;refine oN as'<|jA<|jI<|oN mv<|oN mv ?_;refine TO.jB h 14 (λs15=>[(41,Bo s15),(4,I s7.2),(15,I s7.2),(14,I (s.values.p.length:Int)),(3,hS b10 0 u9 1 s7.1.length),(0,.fp (aa.c s) 0)]) (λs15=>[bE b10 u9 1 3 (s7.1.map cI),some ⟨0,4,69,[(CV.c v14.1)]⟩]) (λs15 q16 h js15=>?_) (λs15 q16 h js15=>?_) λs15 h=>?_
  ·refine gN Z q16 (fa j4 Z)<|gA Z q16 (lh (I v14.1.Op) ty3 Z Z Z)<|gN Z q16 (CR.ine Z Z)<|gN Z q16 mv ?_;refine TO.jB h 4 (λs17=>[(35,Bo s17),(31,Bo<|v14.1.Op != (4:Int)),(30,Bo<|v14.1.Op != (4:Int)),(29,I v14.1.Op),(28,.hp 1 0 4 0 0),(27,Bo v14.2),(4,I s7.2),(15,I s7.2),(14,I (s.values.p.length:Int)),(3,hS b10 0 u9 1 s7.1.length),(0,.fp (aa.c s) 0)]) (λs17=>[bE b10 u9 1 3 (s7.1.map cI),some ⟨0,4,69,[(CV.c v14.1)]⟩]) (λs17 q18 h js17=>?_) (λs17 q18 h js17=>?_) λs17 h=>?_
   ·refine gN Z q18 (fa j4 Z)<|gA Z q18 (lh (I v14.1.Op) ty3 Z Z Z)<|gN Z q18 (CR.ine Z Z)<|gN Z q16 (CR.pickT Z q18 (Bo<|v14.1.Op != (5:Int)) Z) ?_
    cases h
    exact js17 _ _<|kw Z Z
   ·refine gS Z q18<|gS Z q18<|gS Z q18<|gN Z q16 (CR.pickF Z q18 (Bo false) Z) ?_
    cases h
    exact js17 _ _<|kw Z Z
   refine gN Z q16 mv ?_;refine TO.jB h 4 (λs19=>[(40,Bo s19),(36,Bo s17),(35,Bo s17),(31,Bo<|v14.1.Op != (4:Int)),(30,Bo<|v14.1.Op != (4:Int)),(29,I v14.1.Op),(28,.hp 1 0 4 0 0),(27,Bo v14.2),(4,I s7.2),(15,I s7.2),(14,I (s.values.p.length:Int)),(3,hS b10 0 u9 1 s7.1.length),(0,.fp (aa.c s) 0)]) (λs19=>[bE b10 u9 1 3 (s7.1.map cI),some ⟨0,4,69,[(CV.c v14.1)]⟩]) (λs19 q20 h js19=>?_) (λs19 q20 h js19=>?_) λs19 h=>?_
   ·refine gS Z q20<|gS Z q20<|gS Z q20<|gN Z q16 (CR.pickT Z q20 (Bo true) Z) ?_
    cases h
    exact js19 _ _<|kw Z Z
   ·refine gN Z q20 mv<|gN Z q20 mv<|jB h λv21 cv21 h=>gN Z q20 (CR.call Z Z Z (iy s s7.2 cv21) Z)<|gN Z q16 (CR.pickF Z q20 (Bo v21) Z) ?_
    cases h
    exact js19 _ _<|kw Z Z
   refine oN (CR.pickT Z q16 (Bo s19) Z) ?_
   cases h
   exact js15 _ _<|kw Z Z
  ·refine gS Z q16<|gS Z q16<|gS Z q16<|gS Z q16<|gU Z<|gU Z<|gU Z<|gS Z q16<|gS Z q16<|gU Z<|gU Z<|gU Z<|gS Z q16<|oN (CR.pickF Z q16 (Bo false) Z) ?_
   cases h
   exact js15 _ _<|kw Z Z
  refine jA ?_;refine jN Z h (λq22 h=>?_) λq22 h=>?_
  ·refine jC<|oN mv<|oN mv<|oN (CR.mkF (c:=cI) ([s7.2]:LI) [[I s7.2]] oq Z Z Z qD qD Z)<|jL h λg23 h=>oA (EvA.app1 (g:=b10) (l:=s7.1) s7.2 oq (by kernel_rfl) Z Z Z n11 (bK.fz (l:=([s7.2]:LI)) Z qD) g23)<|oN (CR.asg (hS false 0 (u9+1) 1<|(s7.1++[s7.2]).length) Z)<|jA ?_;obtain rfl:=CU h;exact ⟨(false,u9+1),nofun,wu Z (.cons (.list (g:=false) (ver:=u9+1) (l:=(s7.1++[s7.2])) qD) .nil)<|aD (.hS (g:=false) (b:=0) (ver:=u9+1) (s:=1) (n:=(s7.1++[s7.2]).length) Z)<|aD (.fz<|qC Z)<|aD (.fz<|qC Z)<|aD (.fz<|qC Z) gJ⟩
  refine jG ?_;obtain rfl:=CU h;exact ⟨(b10,u9),n11,wu Z (.cons (.list (g:=b10) (ver:=u9) (l:=s7.1) qD) .nil)<|aD (.hS (g:=b10) (b:=0) (ver:=u9) (s:=1) (n:=s7.1.length) Z)<|aD (.fz<|qC Z)<|aD (.fz<|qC Z)<|aD (.fz<|qC Z) gJ⟩
 refine jM<|lX h λh=>?_
 cases h
 exact ⟨(b10,u9),n11,kw Z Z⟩
theorem gD (s:LL) {q} (h:cG s=some q):df Tryz.prog 251 [eL (cL cY) s] [] (wC 1 22 (λx=>x) q.length (q.map<|cL cY) 0 []):=by
 refine df.mkO Tryz.func251 Z (by kernel_rfl) Z (by kernel_rfl) (e0:=aj [(0,eL (cL cY) s)]) (CQ Z wkN) nK (kG qD)<|jI<|oN as'<|jA<|jH<|jI<|oN mv ?_;refine Cm false Tryz.underlying150 Z Z (λz1=>?_) ?_
 ·replace h:=(qf h).1 (by rw [z1];rfl);refine jA ?_;refine T.cond Z (λ_=>?_) λq=>absurd (q.symm.trans Z) (by decide);refine jI<|oN as'<|jA<|jK ?_;obtain rfl:=CU h
  repeat (first|refine jS ?_|refine jT ?_)
  exact jQ (vs:=[.nil]) (.cons (.tmp Z) .nil) ⟨0,true,0,λ_=>Z,Z,nofun⟩
 replace h:=(qf h).2;refine jA ?_;refine T.cond Z (λq=>absurd (q.symm.trans Z)<|by decide) λ_=>?_;refine jG<|jI<|oA (EvA.mkO (c:=(cL cY)) ([]:LL) [] j5 Z Z Z qD Z Z)<|oN mv<|jL h λg2 h=>oA (EvA.appF (l:=([]:LL)) s j5 (by kernel_rfl) Z Z Z (bK.fz (l:=s) Z qD) g2)<|oN (CR.asg (hS false 0 (0+1) 1<|(([]:LL)++s).length) Z)<|jA<|jK ?_;obtain rfl:=CU h
 repeat (first|refine jS ?_|refine jT ?_)
 exact jQ (vs:=[hS false 0 (0+1) 1 ((([]:LL)++s).length)]) (.cons (.tmp Z) .nil) ⟨0,false,0+1,nofun,Z,ownB Z⟩
theorem gM (s:LI) {q} (h:cT s=some q):df Tryz.prog 254 [eL cY s] [] (wC 1 5 (λx=>x) q.length (q.map cY) 0 []):=by
 refine df.mkO Tryz.func254 Z (by kernel_rfl) Z (by kernel_rfl) (e0:=aj [(0,eL cY s)]) (CQ Z wkN) nK (kG qD)<|jI<|oN as'<|jA<|jH<|jI<|oN mv ?_;refine Cm false Tryz.underlying22 Z Z (λz1=>?_) ?_
 ·replace h:=(qf h).1 (by rw [z1];rfl);refine jA ?_;refine T.cond Z (λ_=>?_) λq=>absurd (q.symm.trans Z) (by decide);refine jI<|oN as'<|jA<|jK ?_;obtain rfl:=CU h
  repeat (first|refine jS ?_|refine jT ?_)
  exact jQ (vs:=[.nil]) (.cons (.tmp Z) .nil) ⟨0,true,0,λ_=>Z,Z,nofun⟩
 replace h:=(qf h).2;refine jA ?_;refine T.cond Z (λq=>absurd (q.symm.trans Z)<|by decide) λ_=>?_;refine jG<|jI<|oA (EvA.mkO (c:=cY) ([]:LI) [] lV Z Z Z qD Z Z)<|oN mv<|jL h λg2 h=>oA (EvA.appF (l:=([]:LI)) s lV (by kernel_rfl) Z Z Z (bK.fz (l:=s) Z qD) g2)<|oN (CR.asg (hS false 0 (0+1) 1<|(([]:LI)++s).length) Z)<|jA<|jK ?_;obtain rfl:=CU h
 repeat (first|refine jS ?_|refine jT ?_)
 exact jQ (vs:=[hS false 0 (0+1) 1 ((([]:LI)++s).length)]) (.cons (.tmp Z) .nil) ⟨0,false,0+1,nofun,Z,ownB Z⟩
theorem iT (s:aa) (move:Int) {q} (h:bi s move=some q):aO Tryz.prog 247 [.fp (aa.c s) 0,I move] (.ifc 149<|.fp (aa.c q) 0):=by
 let d1:=(move-(s.values.p.length:Int));let d0:=(Z3b.set s.values.pc move<|(Z3b.get s.values.pc move)+V);refine pM Tryz.func247 Z (by kernel_rfl) Z<|jI<|oN as'<|jA<|jI<|oN mv<|oN (nl Z)<|oN (lf (.agg<|aa.c s) Bv Z)<|oA (EvA.al Bw Z Z)<|oV (sr (aa.c (⟨s.values,s.split,s.waits⟩:aa)) Bv Z Z Z Z)<|jA<|jI<|oN mv<|oN (nl Z)<|oN (fa iL Z)<|oN (lf (eL (cL cY) s.waits) mP Z) ?_;refine jB h λv1 cv1 h=>?_;refine oG Z Z Z ((gD s.waits cv1).own Z (kG qD) nK 1 Z) λg2 v3 n4=>?_;refine oN (fa iL Z)<|oV (EvA.st (cs:=[hS g2 1 v3 1 v1.length]) ⟨0,18,152,[[eL (cL CV.c) s.values.p,Y s.values.pc.x0,Y s.values.pc.x1,Y s.values.pc.x2,Y s.values.reg.x0.x0,Y s.values.reg.x0.x1,Y s.values.reg.x0.x2,Y s.values.reg.x1.x0,Y s.values.reg.x1.x1,Y s.values.reg.x1.x2,Y s.values.reg.x2.x0,Y s.values.reg.x2.x1,Y s.values.reg.x2.x2,Y s.values.mem.x0,Y s.values.mem.x1,Y s.values.mem.x2,Bo s.split,hS g2 1 v3 1 v1.length]]⟩ mP Z (by generalize g2=gq0;cases gq0 <;> rfl) Z Z Z Z Z Z Z)<|jA<|jH<|jI<|oN mv<|oN mv<|oN (nl Z)<|oN (CR.fafpS 16 Tryz.underlying152 Z (by kernel_rfl) Z Z (row2:=CW.c s.values))<|oN (fa iq Z)<|oN (lf (eL (cL CV.c) s.values.p) yN Z)<|oN (CR.lenL oK Z)<|oN (CR.ige Z Z)<|jA ?_;refine jN Z h (λq5 h=>?_) λq5 h=>?_
 ·refine jH<|T.clean (H0:=[some ⟨0,18,152,[[eL (cL CV.c) s.values.p,Y s.values.pc.x0,Y s.values.pc.x1,Y s.values.pc.x2,Y s.values.reg.x0.x0,Y s.values.reg.x0.x1,Y s.values.reg.x0.x2,Y s.values.reg.x1.x0,Y s.values.reg.x1.x1,Y s.values.reg.x1.x2,Y s.values.reg.x2.x0,Y s.values.reg.x2.x1,Y s.values.reg.x2.x2,Y s.values.mem.x0,Y s.values.mem.x1,Y s.values.mem.x2,Bo s.split,hS g2 1 v3 1 v1.length]]⟩,bE g2 v3 1 22 (v1.map<|cL cY)]) (e0:=aj [(5,.hp 0 0 18 0 0),(0,.fp (aa.c s) 0),(1,I move)]) Z (CQ Z<|CQ Z<|CQ Z wkN)<|jC<|oN mv<|oN mv<|oN (nl Z)<|oN (CR.fafpS 16 Tryz.underlying152 Z (by kernel_rfl) Z Z (row2:=CW.c s.values))<|oN (fa iq Z)<|oN (lf (eL (cL CV.c) s.values.p) yN Z)<|oN (CR.lenL oK Z)<|jW h λg6 h=>oN (CR.sub Z Z g6)<|oN as'<|jA<|jI<|oN mv ?_;refine oN (nl Z)<|oN (fa iL Z)<|oN (lf (eL (cL cY) s.waits) mP Z)<|oN mv<|jD h λg7 h=>oN (CR.ixL j5 Z Z g7 qD)<|oN (lf (eL cY<|J s.waits d1) qA Z)<|jD h λg8 h=>oN (CR.ixL lV Z Z g8 qD)<|oN (lf (Y<|J (J s.waits d1) U) CZ Z)<|oN as'<|jA<|jH<|T.clean (H0:=[some ⟨0,18,152,[[eL (cL CV.c) s.values.p,Y s.values.pc.x0,Y s.values.pc.x1,Y s.values.pc.x2,Y s.values.reg.x0.x0,Y s.values.reg.x0.x1,Y s.values.reg.x0.x2,Y s.values.reg.x1.x0,Y s.values.reg.x1.x1,Y s.values.reg.x1.x2,Y s.values.reg.x2.x0,Y s.values.reg.x2.x1,Y s.values.reg.x2.x2,Y s.values.mem.x0,Y s.values.mem.x1,Y s.values.mem.x2,Bo s.split,hS g2 1 v3 1 v1.length]]⟩,bE g2 v3 1 22 (v1.map<|cL cY)]) (e0:=aj [(7,Y<|J (J s.waits d1) U),(6,I d1),(5,.hp 0 0 18 0 0),(0,.fp (aa.c s) 0)]) Z (CQ Z<|CQ Z<|CQ Z<|CQ Z wkN)<|jP (dG [dF,([0],false),dF,dF,dF,dF,dF,dF,dF,dF,dF,dF,([1],true)]) (by kernel_rfl) (by kernel_rfl)<|fN Z (fa iL Z) ?_;refine fR [0] Z (λG hG=>EvA.loadhp (hS g2 1 v3 1 v1.length) mP Z (hG.a0 Z) Z Z Z Z)<|fN Z mv<|fN Z mv<|fN Z (nl Z)<|fN Z (fa iL Z)<|fN Z (lf (eL (cL cY) s.waits) mP Z)<|fN Z mv<|fN Z (CR.ixL j5 Z Z g7 qD)<|fN Z (lf (eL cY<|J s.waits d1) qA Z)<|jD h λg9 h=>fN Z (CR.slL lV Z (.yes Z) .no g9 qD)<|jD h λg10 h=>?_;obtain rfl:=wy (λx=>Iy<|n4 x) rfl g10;refine fN Z (CR.ixO (g:=false) j5 Z Z nofun g10)<|fV 1 [] Z Z (λG hG=>EvA.stO (g:=false) (l:=v1) (cs:=[eL cY (((J s.waits d1).drop V.toNat).take<|((J s.waits d1).length:Int).toNat-V.toNat)]) (((J s.waits d1).drop V.toNat).take<|((J s.waits d1).length:Int).toNat-V.toNat) qA Z Z (hG.a0 Z) nofun (eX Z g10) Z Z Z)<|jR<|jI<|oN mv<|jD h λg11 h=>jW h λg12 h=>oN (CR.quo Z Z g11 g12)<|oN mv<|oN (CR.rem Z Z g11)<|oN (fa iL Z)<|oN (fa iq Z)<|jD h λg13 h=>oN (CR.ixahp Tryz.underlying115 CZ Z Z g13)<|oV (sr1 (λz0=>[eL (cL CV.c) s.values.p,Y s.values.pc.x0,Y s.values.pc.x1,Y s.values.pc.x2,Y s.values.reg.x0.x0,Y s.values.reg.x0.x1,Y s.values.reg.x0.x2,Y s.values.reg.x1.x0,Y s.values.reg.x1.x1,Y s.values.reg.x1.x2,Y s.values.reg.x2.x0,Y s.values.reg.x2.x1,Y s.values.reg.x2.x2,Y ((Z3b.set s.values.mem z0<|(J (J s.waits d1) U).tmod (16:Int)).x0),Y ((Z3b.set s.values.mem z0<|(J (J s.waits d1) U).tmod (16:Int)).x1),Y ((Z3b.set s.values.mem z0<|(J (J s.waits d1) U).tmod (16:Int)).x2),Bo s.split,hS false 1 v3 1 v1.length]) g13 CZ Z Z Z Z Z Z)<|jA ?_;refine jH<|T.clean (H0:=[some ⟨0,18,152,[[eL (cL CV.c) s.values.p,Y s.values.pc.x0,Y s.values.pc.x1,Y s.values.pc.x2,Y s.values.reg.x0.x0,Y s.values.reg.x0.x1,Y s.values.reg.x0.x2,Y s.values.reg.x1.x0,Y s.values.reg.x1.x1,Y s.values.reg.x1.x2,Y s.values.reg.x2.x0,Y s.values.reg.x2.x1,Y s.values.reg.x2.x2,Y ((Z3b.set s.values.mem ((J (J s.waits d1) U).tdiv (16:Int))<|(J (J s.waits d1) U).tmod (16:Int)).x0),Y ((Z3b.set s.values.mem ((J (J s.waits d1) U).tdiv (16:Int))<|(J (J s.waits d1) U).tmod (16:Int)).x1),Y ((Z3b.set s.values.mem ((J (J s.waits d1) U).tdiv (16:Int))<|(J (J s.waits d1) U).tmod (16:Int)).x2),Bo s.split,hS false 1 v3 1 v1.length]]⟩,bE false v3 1 22 ((v1.set (d1.toNat)<|((J s.waits d1).drop V.toNat).take<|((J s.waits d1).length:Int).toNat-V.toNat).map<|cL cY)]) (e0:=aj [(5,.hp 0 0 18 0 0)]) Z (CQ Z wkN)<|jC<|oN (CR.mkifc (.hp 0 0 18 0 0) Tryz.underlying149 (λ_ h=>nomatch h) Z)<|oN as'<|jA<|jK ?_;obtain rfl:=CU h
  repeat (first|refine jS ?_|refine jT ?_)
  exact jQ (vs:=[.ifc 149 (.hp 0 0 18 0 0)]) (.cons (.tmp Z) .nil)<|.ifc<|Fz.fpL (ver:=0) (s:=18) (ty:=152) (rows:=[[eL (cL CV.c) s.values.p,Y s.values.pc.x0,Y s.values.pc.x1,Y s.values.pc.x2,Y s.values.reg.x0.x0,Y s.values.reg.x0.x1,Y s.values.reg.x0.x2,Y s.values.reg.x1.x0,Y s.values.reg.x1.x1,Y s.values.reg.x1.x2,Y s.values.reg.x2.x0,Y s.values.reg.x2.x1,Y s.values.reg.x2.x2,Y ((Z3b.set s.values.mem ((J (J s.waits d1) (0:Int)).tdiv (16:Int))<|(J (J s.waits d1) (0:Int)).tmod (16:Int)).x0),Y ((Z3b.set s.values.mem ((J (J s.waits d1) (0:Int)).tdiv (16:Int))<|(J (J s.waits d1) (0:Int)).tmod (16:Int)).x1),Y ((Z3b.set s.values.mem ((J (J s.waits d1) (0:Int)).tdiv (16:Int))<|(J (J s.waits d1) (0:Int)).tmod (16:Int)).x2),Bo s.split,hS false 1 v3 1 v1.length]]) Z Z Z<|.cons (qC Z)<|.cons (qC Z)<|.cons (qC Z)<|.cons (qC Z)<|.cons (qC Z)<|.cons (qC Z)<|.cons (qC Z)<|.cons (qC Z)<|.cons (qC Z)<|.cons (qC Z)<|.cons (qC Z)<|.cons (qC Z)<|.cons (qC Z)<|.cons (qC Z)<|.cons (qC Z)<|.cons (qC Z)<|.cons (qC Z)<|.cons (Fz.own (g:=false) (ver:=v3) (l:=(v1.set (d1.toNat)<|((J s.waits d1).drop (1:Int).toNat).take<|((J s.waits d1).length:Int).toNat-(1:Int).toNat)) Z Z (by simp) nofun qD) .nil
 refine jG<|jH<|T.clean (H0:=[some ⟨0,18,152,[[eL (cL CV.c) s.values.p,Y s.values.pc.x0,Y s.values.pc.x1,Y s.values.pc.x2,Y s.values.reg.x0.x0,Y s.values.reg.x0.x1,Y s.values.reg.x0.x2,Y s.values.reg.x1.x0,Y s.values.reg.x1.x1,Y s.values.reg.x1.x2,Y s.values.reg.x2.x0,Y s.values.reg.x2.x1,Y s.values.reg.x2.x2,Y s.values.mem.x0,Y s.values.mem.x1,Y s.values.mem.x2,Bo s.split,hS g2 1 v3 1 v1.length]]⟩,bE g2 v3 1 22 (v1.map<|cL cY)]) (e0:=aj [(5,.hp 0 0 18 0 0),(0,.fp (aa.c s) 0),(1,I move)]) Z (CQ Z<|CQ Z<|CQ Z wkN)<|jC<|oN mv<|oN (nl Z)<|oN (CR.fafpS 16 Tryz.underlying152 Z (by kernel_rfl) Z Z (row2:=CW.c s.values))<|oN mv<|oC h (λ_=>bI _ _) Z Z Z Z λv14 _ h=>oN mv<|oN (CR.ext (.agg<|CV.c v14.1) Z Z)<|oN (CR.ext (Bo v14.2) Z Z)<|oA (EvA.al pU Z Z)<|oV (sr (CV.c v14.1) nZ Z Z Z Z)<|oN as'<|jA ?_;refine jI<|oN mv<|oN (fa iL Z)<|oN (fa iq Z)<|jD h λg15 h=>oN (CR.ixahp Tryz.underlying115 CZ Z Z g15)<|oA (lh1 (λz0=>Y<|Z3b.get s.values.pc z0) g15 CZ Z Z Z Z Z)<|jW h λg16 h=>oN (CR.add Z Z g16)<|oN (fa iL Z)<|oN (fa iq Z)<|oN (CR.ixahp Tryz.underlying115 CZ Z Z g15)<|oV (sr1 (λz0=>[eL (cL CV.c) s.values.p,Y ((Z3b.set s.values.pc z0<|(Z3b.get s.values.pc move)+V).x0),Y ((Z3b.set s.values.pc z0<|(Z3b.get s.values.pc move)+V).x1),Y ((Z3b.set s.values.pc z0<|(Z3b.get s.values.pc move)+V).x2),Y s.values.reg.x0.x0,Y s.values.reg.x0.x1,Y s.values.reg.x0.x2,Y s.values.reg.x1.x0,Y s.values.reg.x1.x1,Y s.values.reg.x1.x2,Y s.values.reg.x2.x0,Y s.values.reg.x2.x1,Y s.values.reg.x2.x2,Y s.values.mem.x0,Y s.values.mem.x1,Y s.values.mem.x2,Bo s.split,hS g2 1 v3 1 v1.length]) g15 CZ Z Z Z Z Z Z)<|jA ?_;refine T.jF (G:=(Bool×Nat)) h (λs17 gh=>(gh.1=true->s17.2.2.2.2.2.2.2.2.2=[])) (λs17 gh=>[(8,.hp 2 0 4 0 0),(5,.hp 0 0 18 0 0),(0,.fp (aa.c s) 0),(1,I move)]) (λs17 gh=>[some ⟨0,18,152,[[eL (cL CV.c) s.values.p,Y (d0.x0),Y (d0.x1),Y (d0.x2),Y s17.1,Y s17.2.1,Y s17.2.2.1,Y s17.2.2.2.1,Y s17.2.2.2.2.1,Y s17.2.2.2.2.2.1,Y s17.2.2.2.2.2.2.1,Y s17.2.2.2.2.2.2.2.1,Y s17.2.2.2.2.2.2.2.2.1,Y s.values.mem.x0,Y s.values.mem.x1,Y s.values.mem.x2,Bo s.split,hS gh.1 1 gh.2 1 s17.2.2.2.2.2.2.2.2.2.length]]⟩,bE gh.1 gh.2 1 22 (s17.2.2.2.2.2.2.2.2.2.map<|cL cY),some ⟨0,4,69,[(CV.c v14.1)]⟩]) (λs17 gh h n24=>?_) λs17 h=>?_
 ·obtain ⟨b23,u22⟩:=gh;refine T.jF (G:=(Bool×Nat)) h (λs25 gh=>(gh.1=true->s25.2.2.2=[])) (λs25 gh=>[(5,.hp 0 0 18 0 0)]) (λs25 gh=>[some ⟨0,18,152,[[eL (cL CV.c) s.values.p,Y (d0.x0),Y (d0.x1),Y (d0.x2),Y s17.1,Y s17.2.1,Y s17.2.2.1,Y s17.2.2.2.1,Y s17.2.2.2.2.1,Y s17.2.2.2.2.2.1,Y s17.2.2.2.2.2.2.1,Y s17.2.2.2.2.2.2.2.1,Y s17.2.2.2.2.2.2.2.2.1,Y s25.1,Y s25.2.1,Y s25.2.2.1,Bo s.split,hS gh.1 1 gh.2 1 s25.2.2.2.length]]⟩,bE gh.1 gh.2 1 22 (s25.2.2.2.map<|cL cY),some ⟨0,4,69,[(CV.c v14.1)]⟩]) (λs25 gh h n46=>?_) λs25 h=>?_
  ·obtain ⟨b45,u44⟩:=gh;refine jI<|oN (CR.mkifc (.hp 0 0 18 0 0) Tryz.underlying149 (λ_ h=>nomatch h) Z)<|oN as'<|jA<|jK ?_;obtain rfl:=CU h
   repeat (first|refine jS ?_|refine jT ?_)
   exact jQ (vs:=[.ifc 149 (.hp 0 0 18 0 0)]) (.cons (.tmp Z) .nil)<|.ifc<|Fz.fpL (ver:=0) (s:=18) (ty:=152) (rows:=[[eL (cL CV.c) s.values.p,Y (d0.x0),Y (d0.x1),Y (d0.x2),Y s17.1,Y s17.2.1,Y s17.2.2.1,Y s17.2.2.2.1,Y s17.2.2.2.2.1,Y s17.2.2.2.2.2.1,Y s17.2.2.2.2.2.2.1,Y s17.2.2.2.2.2.2.2.1,Y s17.2.2.2.2.2.2.2.2.1,Y s25.1,Y s25.2.1,Y s25.2.2.1,Bo s.split,hS b45 1 u44 1 s25.2.2.2.length]]) Z Z Z<|.cons (qC Z)<|.cons (qC Z)<|.cons (qC Z)<|.cons (qC Z)<|.cons (qC Z)<|.cons (qC Z)<|.cons (qC Z)<|.cons (qC Z)<|.cons (qC Z)<|.cons (qC Z)<|.cons (qC Z)<|.cons (qC Z)<|.cons (qC Z)<|.cons (qC Z)<|.cons (qC Z)<|.cons (qC Z)<|.cons (qC Z)<|.cons (Fz.own (g:=b45) (ver:=u44) (l:=s25.2.2.2) Z Z Z n46 qD) .nil
  refine jI<|oN (fa j4 Z)<|oA (lh (I v14.1.Op) ty3 Z Z Z)<|jA<|jE ?_;refine T.jU h (λs26=>[(98,Bo s26),(97,I v14.1.Op),(8,.hp 2 0 4 0 0),(5,.hp 0 0 18 0 0),(0,.fp (aa.c s) 0),(1,I move)]) (λs26=>[some ⟨0,18,152,[[eL (cL CV.c) s.values.p,Y (d0.x0),Y (d0.x1),Y (d0.x2),Y s17.1,Y s17.2.1,Y s17.2.2.1,Y s17.2.2.2.1,Y s17.2.2.2.2.1,Y s17.2.2.2.2.2.1,Y s17.2.2.2.2.2.2.1,Y s17.2.2.2.2.2.2.2.1,Y s17.2.2.2.2.2.2.2.2.1,Y s.values.mem.x0,Y s.values.mem.x1,Y s.values.mem.x2,Bo s.split,hS b23 1 u22 1 s17.2.2.2.2.2.2.2.2.2.length]]⟩,bE b23 u22 1 22 (s17.2.2.2.2.2.2.2.2.2.map<|cL cY),some ⟨0,4,69,[(CV.c v14.1)]⟩]) (λs26 h=>?_) λs26 h=>?_
  ·refine jN Z h (λq28 h=>?_) λq28 h=>?_
   ·refine jI<|oN mv<|oN mv<|oN (fa j4 Z)<|oA (lh (I v14.1.Loc) ty3 Z Z Z)<|oC h (λ_=>fq _ _ _) Z Z Z Z λv29 _ h=>oN as'<|jA<|T.drawX [0,2,3,4,5,6,7,8,9,11,15,16,17,18,1,12,13,14,19,10,20,21,22,23,24,25] (λi=>([(false,[]),(false,[0]),(false,[]),(false,[]),(false,[]),(false,[]),(false,[]),(false,[]),(false,[]),(false,[]),(true,[]),(false,[]),(false,[2]),(false,[]),(false,[]),(false,[]),(false,[]),(false,[]),(false,[]),(false,[2]),(false,[]),(false,[]),(false,[]),(true,[3]),(false,[]),(true,[1])]:List Xc).getD i (false,[])) (by kernel_rfl) (by kernel_rfl) (by kernel_rfl)<|xN Z Z (fa iL Z)<|xN Z Z mv<|xN Z Z mv<|xN Z Z (nl Z)<|xN Z Z (fa iL Z)<|xN Z Z (lf (eL (cL cY) s.waits) mP Z)<|xN Z Z mv ?_;refine jD h λg30 h=>xN Z Z (CR.ixL j5 Z Z g30 qD)<|xN Z Z (lf (eL cY<|J s.waits v29) qA Z)<|xN Z Z (fa j4 Z)<|xN Z Z mv<|xN Z Z (nl Z)<|xN Z Z (CR.fafpS 16 Tryz.underlying152 Z (by kernel_rfl) Z Z (row2:=CW.c s.values))<|xN Z Z mv<|xR [0] Z Z Z (λG hG=>EvA.loadhp (hS b23 1 u22 1 s17.2.2.2.2.2.2.2.2.2.length) mP Z (hG.a0 Z) Z Z Z Z)<|xR [2] Z Z Z (λG hG=>EvA.loadhp (I v14.1.Loc) ty3 Z (hG.a0 Z) Z Z Z Z)<|jW h λg31 h=>xN Z Z (CR.iconv ty3.und Tryz.underlying5 Z g31)<|jW h λg32 h=>xN Z Z (CR.mul Z Z g32)<|xR [2] Z Z Z (λG hG=>EvA.loadhp (.agg<|CV.c v14.1) nZ Z (hG.a0 Z) Z Z Z Z)<|jB h λv33 cv33 h=>?_;refine xG Z Z Z Z Z ((gM (J s.waits v29) cv33).own Z (kG qD) nK 3 Z) λg34 v35 n36=>?_;refine jB h λv37 cv37 h=>xN Z Z (CR.call Z Z Z (fD s.values move (⟨v14.1.Op,v14.1.Loc,v14.1.Reg,v14.1.Val⟩:CV) cv37) Z)<|jW h λg38 h=>xN Z Z (CR.add Z Z g38)<|xN Z Z (CR.mkF (c:=cY) ([((v14.1.Loc*(16:Int))+v37)]:LI) [[Y ((v14.1.Loc*(16:Int))+v37)]] lV Z Z Z qD qD Z)<|jL h λg39 h=>xA Z Z (EvA.app1 (g:=g34) (l:=v33) ((v14.1.Loc*(16:Int))+v37) lV (by kernel_rfl) Z Z Z (λx=>Iy<|n36 x) (bK.fz (l:=([((v14.1.Loc*(16:Int))+v37)]:LI)) Z qD) g39) uq<|jD h λg40 h=>?_;obtain rfl:=wy n24 rfl g40;refine xN Z Z (CR.ixO (g:=false) j5 Z Z nofun g40)<|xV Z Z (EvA.stS (g:=false) (xs:=s17.2.2.2.2.2.2.2.2.2) (cs:=[hS false 3 (v35+1) 1 ((v33++[((v14.1.Loc*(16:Int))+v37)]).length)]) qA Z Z Z nofun (eX Z g40) qD Z Z) uq<|TX.nil ?_;obtain rfl:=CU h;exact ⟨(false,u22),nofun,wu Z (.cons (.row<|.cons (.fz<|qC Z)<|.cons (.fz<|qC Z)<|.cons (.fz<|qC Z)<|.cons (.fz<|qC Z)<|.cons (.fz<|qC Z)<|.cons (.fz<|qC Z)<|.cons (.fz<|qC Z)<|.cons (.fz<|qC Z)<|.cons (.fz<|qC Z)<|.cons (.fz<|qC Z)<|.cons (.fz<|qC Z)<|.cons (.fz<|qC Z)<|.cons (.fz<|qC Z)<|.cons (.fz<|qC Z)<|.cons (.fz<|qC Z)<|.cons (.fz<|qC Z)<|.cons (.fz<|qC Z)<|.cons (.eqv (congrArg (hS false 1 u22 1) (by simp:s17.2.2.2.2.2.2.2.2.2.length=(s17.2.2.2.2.2.2.2.2.2.set v29.toNat<|v33++[((v14.1.Loc*(16:Int))+v37)]).length))<|.hS (g:=false) (b:=1) (ver:=u22) (s:=1) (n:=(s17.2.2.2.2.2.2.2.2.2.set v29.toNat<|v33++[((v14.1.Loc*(16:Int))+v37)]).length) Z) .nil)<|.cons (.rows<|.setM (f:=(cL cY)) (v:=(v33++[((v14.1.Loc*(16:Int))+v37)])) qD (.cons (.fz<|Fz.own (g:=false) (ver:=v35+1) (l:=(v33++[((v14.1.Loc*(16:Int))+v37)])) Z Z Z nofun qD) .nil) s17.2.2.2.2.2.2.2.2.2 v29.toNat)<|.cons (.row<|.cons (.fz<|qC Z)<|.cons (.fz<|qC Z)<|.cons (.fz<|qC Z)<|.cons (.fz<|qC Z) .nil) .nil)<|aD (.hp<|nlb Z) gJ⟩
   refine jI<|oN (CR.ieq Z Z)<|oN as'<|jA ?_;refine jN Z h (λq41 h=>?_) λq41 h=>?_
   ·refine jC<|oN (fa j4 Z)<|oA (lh (I v14.1.Loc) ty3 Z Z Z)<|oN (fa j4 Z)<|oA (lh (I v14.1.Val) ty3 Z Z Z)<|jW h λg42 h=>oN (CR.iconv ty3.und Tryz.underlying5 Z g42)<|oN (fa iL Z)<|oN (fa iq Z)<|jD h λg43 h=>oN (CR.ixahp Tryz.underlying115 CZ Z Z g43)<|oV (sr1 (λz0=>[eL (cL CV.c) s.values.p,Y (d0.x0),Y (d0.x1),Y (d0.x2),Y s17.1,Y s17.2.1,Y s17.2.2.1,Y s17.2.2.2.1,Y s17.2.2.2.2.1,Y s17.2.2.2.2.2.1,Y s17.2.2.2.2.2.2.1,Y s17.2.2.2.2.2.2.2.1,Y s17.2.2.2.2.2.2.2.2.1,Y ((Z3b.set s.values.mem z0 v14.1.Val).x0),Y ((Z3b.set s.values.mem z0 v14.1.Val).x1),Y ((Z3b.set s.values.mem z0 v14.1.Val).x2),Bo s.split,hS b23 1 u22 1 s17.2.2.2.2.2.2.2.2.2.length]) g43 CZ Z Z Z Z Z Z)<|jA ?_
    cases h
    exact ⟨(b23,u22),n24,kw Z Z⟩
   refine jG ?_
   cases h
   exact ⟨(b23,u22),n24,kw Z Z⟩
  refine jI<|oN (CR.ieq Z Z)<|oN as'<|jA ?_;refine jN Z h (λq27 h=>?_) λq27 h=>?_
  ·refine jG ?_
   cases h
   exact ⟨(),trivial,kw Z Z⟩
  refine jC<|oN (CR.ieq Z Z)<|oN as'<|jA ?_
  cases h
  exact ⟨(),trivial,kw Z Z⟩
 refine jH<|T.clean (H0:=[some ⟨0,18,152,[[eL (cL CV.c) s.values.p,Y (d0.x0),Y (d0.x1),Y (d0.x2),Y s.values.reg.x0.x0,Y s.values.reg.x0.x1,Y s.values.reg.x0.x2,Y s.values.reg.x1.x0,Y s.values.reg.x1.x1,Y s.values.reg.x1.x2,Y s.values.reg.x2.x0,Y s.values.reg.x2.x1,Y s.values.reg.x2.x2,Y s.values.mem.x0,Y s.values.mem.x1,Y s.values.mem.x2,Bo s.split,hS g2 1 v3 1 v1.length]]⟩,bE g2 v3 1 22 (v1.map<|cL cY),some ⟨0,4,69,[(CV.c v14.1)]⟩]) (e0:=aj [(8,.hp 2 0 4 0 0),(5,.hp 0 0 18 0 0),(0,.fp (aa.c s) 0),(1,I move)]) Z (CQ Z<|CQ Z<|CQ Z<|CQ Z wkN)<|jC<|oA (lh (.agg<|CV.c v14.1) nZ Z Z Z)<|oC h (λ_=>gp _) Z Z Z Z λv18 _ h=>jA ?_;refine jN Z h (λq19 h=>?_) λq19 h=>?_
 ·refine jP (dG [dF,dF,([2],false),dF,dF,dF,([2],false),dF,dF,dF,dF,dF,([0],true)]) (by kernel_rfl) (by kernel_rfl)<|fN Z mv<|fN Z (fa j4 Z)<|fR [2] Z (λG hG=>EvA.loadhp (I v14.1.Reg) ty3 Z (hG.a0 Z) Z Z Z Z)<|fN Z mv<|fN Z mv<|fN Z (fa j4 Z)<|fR [2] Z (λG hG=>EvA.loadhp (I v14.1.Loc) ty3 Z (hG.a0 Z) Z Z Z Z)<|fC h (λ_=>ji _ _ _) Z Z Z Z Z λv20 _ h=>fN Z (fa iL Z)<|fN Z (fa iq Z)<|fN Z (CR.ixahp Tryz.underlying116 rE Z Z g15)<|jD h λg21 h=>fN Z (CR.ixahp Tryz.underlying115 CZ Z Z g21)<|fV 0 [] Z Z (λG hG=>sr2 (λz0 z1=>[eL (cL CV.c) s.values.p,Y (d0.x0),Y (d0.x1),Y (d0.x2),Y (((Z33.set s.values.reg z0<|Z3b.set (Z33.get s.values.reg z0) z1 v20).x0).x0),Y (((Z33.set s.values.reg z0<|Z3b.set (Z33.get s.values.reg z0) z1 v20).x0).x1),Y (((Z33.set s.values.reg z0<|Z3b.set (Z33.get s.values.reg z0) z1 v20).x0).x2),Y (((Z33.set s.values.reg z0<|Z3b.set (Z33.get s.values.reg z0) z1 v20).x1).x0),Y (((Z33.set s.values.reg z0<|Z3b.set (Z33.get s.values.reg z0) z1 v20).x1).x1),Y (((Z33.set s.values.reg z0<|Z3b.set (Z33.get s.values.reg z0) z1 v20).x1).x2),Y (((Z33.set s.values.reg z0<|Z3b.set (Z33.get s.values.reg z0) z1 v20).x2).x0),Y (((Z33.set s.values.reg z0<|Z3b.set (Z33.get s.values.reg z0) z1 v20).x2).x1),Y (((Z33.set s.values.reg z0<|Z3b.set (Z33.get s.values.reg z0) z1 v20).x2).x2),Y s.values.mem.x0,Y s.values.mem.x1,Y s.values.mem.x2,Bo s.split,hS g2 1 v3 1 v1.length]) g15 g21 CZ Z Z (hG.a0 Z) ⟨Z,Z,Z,Z,Z,Z,Z,Z,Z⟩)<|jR ?_;obtain rfl:=CU h;exact ⟨(g2,v3),(λx=>Iy<|n4 x),kw Z Z⟩
 refine jG ?_;obtain rfl:=CU h;exact ⟨(g2,v3),(λx=>Iy<|n4 x),kw Z Z⟩
theorem gF (start:aa) {q} (h:bW start=some q):aO Tryz.prog 82 [.ifc 149 (.fp (aa.c start) 0)] (.tup [eL (cL cI) q.1,I q.2]):=by
 refine pM Tryz.func82 Z (by kernel_rfl) Z<|jI<|oN as'<|oN as'<|jA<|jI<|oA (EvA.mmkB (kn:=1) ql Z)<|oN mv<|jB h λv1 cv1 h=>oN (CR.invS 18 Z Z (MethT.of (off:=0)<|by kernel_rfl) Z Z (gq start cv1) Z)<|oV (EvA.minsB (l:=([]:List<|ByteArray×Bool)) ve Tryz.underlying109 v1 true Z Z Z Z)<|oN mv<|oN as'<|jA<|jH<|T.reserve ?_;refine jC<|oN (CR.asg (hS true 1 0 1<|([]:LL).length) Z)<|jA ?_;refine T.jF (G:=(Bool×Nat)) h (λs2 gh=>(gh.1=true->s2.2=[])) (λs2 gh=>[(5,hS gh.1 1 gh.2 1 s2.2.length),(4,.mp 0 2)]) (λs2 gh=>[(some<|mB 1 1 ql cB s2.1),bE gh.1 gh.2 1 41 (s2.2.map<|cL cI)]) (λs2 gh h n45=>?_) λs2 h=>?_
 ·obtain ⟨b44,u43⟩:=gh;refine jI<|oN mv<|jB h λv46 cv46 h=>?_;refine oGW Z Z (fo s2.2 b44 u43 n45 cv46) Z (.cons (qj Z) .nil) (kG qD) (kG qD) nK λg47 v48 n49=>?_;refine oN mv<|oA (EvA.mlenB (l:=s2.1) Tryz.underlying109 Z Z)<|oN (CR.asg (hS g47 1 v48 1 v46.length) Z)<|oN as'<|jA<|jK ?_;obtain rfl:=CU h
  repeat (first|refine jS ?_|refine jT ?_)
  exact jQ (vs:=[hS g47 1 v48 1 v46.length,I (s2.1.length:Int)]) (.cons (.tmp Z)<|.cons (.tmp Z) .nil)<|.tupL<|.cons (Fz.own (g:=g47) (ver:=v48) (l:=v46) Z Z Z (λx=>Iy<|n49 x) qD)<|.cons (qC Z) .nil
 refine jI<|oN mv<|oA (EvA.mkO (c:=(λx=>[AV.ifc 149 (.fp (aa.c x) 0)])) ([start]:List aa) [[.ifc 149 (.fp (aa.c start) 0)]] lG Z Z Z qD Z Z)<|oN (CR.asg (hS false 2 0 1<|([start]:List aa).length) Z)<|jA<|jE ?_;refine jO (S:=(List<|ByteArray×Bool)×(LL)×(List aa)) (G:=(Bool×Nat)×Nat) di (λs9 gh=>(gh.1.1=true->s9.2.1=[])) (λs9 gh=>[(6,hS false 2 gh.2 1 s9.2.2.length),(5,hS gh.1.1 1 gh.1.2 1 s9.2.1.length),(4,.mp 0 2)]) (λs9 gh=>[(some<|mB 1 1 ql cB s9.1),bE gh.1.1 gh.1.2 1 41 (s9.2.1.map<|cL cI),bE false gh.2 1 91 (s9.2.2.map λx=>[AV.ifc 149 (.fp (aa.c x) 0)])]) (s0:=((oH ([]:List<|ByteArray×Bool) v1 true),([]:LL),([start]:List aa))) ((true,0),0) h qD (kw Z Z) λs9 gh ws9 h n13=>?_;let d0:=((s9.2.2.length:Int)-V);obtain ⟨⟨b12,u11⟩,u14⟩:=gh;refine jH<|jI<|oN mv<|oN (CR.lenO (g:=false) lG Z nofun)<|oN (CR.igt Z Z)<|jA ?_;refine jN Z h (λq15 h=>?_) λq15 h=>?_
 ·refine jG<|jE<|jI<|oN mv<|oN mv<|oN (CR.lenO (g:=false) lG Z nofun)<|jW h λg16 h=>oN (CR.sub Z Z g16)<|jD h λg17 h=>oN (CR.ixO (g:=false) lG Z Z nofun g17)<|oA (EvA.ldO (g:=false) (l:=s9.2.2) (.ifc 149<|.fp (aa.c<|s9.2.2.getD (d0.toNat) default) 0) Bp Z Z nofun (eX Z g17) Z)<|oN as'<|jA<|jI<|oN mv<|oN mv ?_;refine oN (CR.lenO (g:=false) lG Z nofun)<|oN (CR.sub Z Z g16)<|jD h λg18 h=>oA (EvA.cutO (l:=s9.2.2) (zl:=U) (zh:=d0) (CR.slhs Tryz.underlying110 Bp (l:=U) (h:=d0) Z .no (.yes Z) g18) Z Z g18)<|oN (CR.asg (hS false 2 (u14+1) 1<|((s9.2.2.drop U.toNat).take<|d0.toNat-U.toNat).length) Z)<|jA ?_;refine T.jF (G:=(Bool×Nat)) h (λs19 gh=>(gh.1=true->s19=[])) (λs19 gh=>[(5,hS gh.1 1 gh.2 1 s19.length),(6,hS false 2 (u14+1) 1<|((s9.2.2.drop U.toNat).take<|d0.toNat-U.toNat).length),(7,.ifc 149<|.fp (aa.c<|s9.2.2.getD (d0.toNat) default) 0),(4,.mp 0 2)]) (λs19 gh=>[(some<|mB 1 1 ql cB s9.1),bE gh.1 gh.2 1 41 (s19.map<|cL cI),bE false (u14+1) 1 91 (((s9.2.2.drop U.toNat).take<|d0.toNat-U.toNat).map λx=>[AV.ifc 149 (.fp (aa.c x) 0)])]) (λs19 gh h n26=>?_) λs19 h=>?_
  ·obtain ⟨b25,u24⟩:=gh;refine jI<|oN mv<|jB h λv27 cv27 h=>oN (CR.invS 18 Z Z (MethT.of (off:=0)<|by kernel_rfl) Z Z (iS (s9.2.2.getD (d0.toNat) default) cv27) Z)<|oN (CR.lenL oq Z)<|oN mv<|jA<|jE ?_;refine jO (S:=(List<|ByteArray×Bool)×(List aa)×Int) (G:=Nat) (dh s9 s19 v27) (λs31 gh=>True) (λs31 gh=>[(42,I s31.2.2),(41,I (v27.length:Int)),(40,eL cI v27),(5,hS b25 1 u24 1 s19.length),(6,hS false 2 gh 1 s31.2.1.length),(7,.ifc 149<|.fp (aa.c<|s9.2.2.getD (d0.toNat) default) 0),(4,.mp 0 2)]) (λs31 gh=>[(some<|mB 1 1 ql cB s31.1),bE b25 u24 1 41 (s19.map<|cL cI),bE false gh 1 91 (s31.2.1.map λx=>[AV.ifc 149 (.fp (aa.c x) 0)])]) (s0:=(s9.1,((s9.2.2.drop U.toNat).take<|d0.toNat-U.toNat),U)) (u14+1) h trivial (kw Z Z) λs31 u33 ws31 h hg=>?_;refine jI<|oN (CR.ilt Z Z)<|jA<|jH ?_;refine jN Z h (λq34 h=>?_) λq34 h=>?_
   ·refine jG ?_;refine T.jF (G:=Nat) h (λs35 gh=>True) (λs35 gh=>[(6,hS false 2 gh 1 s35.2.length),(42,I s31.2.2),(41,I (v27.length:Int)),(40,eL cI v27),(5,hS b25 1 u24 1 s19.length),(7,.ifc 149<|.fp (aa.c<|s9.2.2.getD (d0.toNat) default) 0),(4,.mp 0 2)]) (λs35 gh=>[(some<|mB 1 1 ql cB s35.1),bE b25 u24 1 41 (s19.map<|cL cI),bE false gh 1 91 (s35.2.map λx=>[AV.ifc 149 (.fp (aa.c x) 0)])]) (λs35 u41 h hg=>?_) λs35 h=>?_
    ·refine jC<|jW h λg42 h=>oN (CR.add Z Z g42)<|oN mv<|jA ?_;obtain rfl:=CU h;exact ⟨(s35.1,s35.2,(s31.2.2+V)),u41,Z,trivial,kw Z Z⟩
    refine jE<|jI<|jD h λg36 h=>oN (CR.ixL oq Z Z g36 qD)<|oN (lf (I<|J v27 s31.2.2) ty3 Z)<|oN as'<|jA<|jI<|oN mv<|oN mv<|jB h λv37 cv37 h=>oN (CR.invS 18 Z Z (MethT.of (off:=0)<|by kernel_rfl) Z Z (iT (s9.2.2.getD (d0.toNat) default) (J v27 s31.2.2) cv37) Z)<|oN as'<|jA<|jI<|oN mv ?_;refine jB h λv38 cv38 h=>oN (CR.invS 18 Z Z (MethT.of (off:=0)<|by kernel_rfl) Z Z (gq v37 cv38) Z)<|oN as'<|jA<|jI<|oN mv<|oN mv<|oA (EvA.lookB (l:=s31.1) ve Tryz.underlying109 (by kernel_rfl) v38 Z Z Z)<|oN (CR.not Z)<|jA ?_;refine jN Z h (λq39 h=>?_) λq39 h=>?_
    ·refine jI<|oN mv<|oN mv<|oV (EvA.msetB (l:=s31.1) ve Tryz.underlying109 v38 true Z Z Z Z)<|jA<|T.clean (H0:=[(some<|mB 1 1 ql cB<|oH s31.1 v38 true),bE b25 u24 1 41 (s19.map<|cL cI),bE false u33 1 91 (s31.2.1.map λx=>[AV.ifc 149 (.fp (aa.c x) 0)])]) (e0:=aj [(10,.ifc 149<|.fp (aa.c v37) 0),(42,I s31.2.2),(41,I (v27.length:Int)),(40,eL cI v27),(5,hS b25 1 u24 1 s19.length),(6,hS false 2 u33 1 s31.2.1.length),(7,.ifc 149<|.fp (aa.c<|s9.2.2.getD (d0.toNat) default) 0),(4,.mp 0 2)]) Z (CQ Z<|CQ Z<|CQ Z<|CQ Z<|CQ Z<|CQ Z<|CQ Z<|CQ Z wkN)<|jC<|oN mv<|oN mv<|oN (CR.mkF (c:=(λx=>[AV.ifc 149 (.fp (aa.c x) 0)])) ([v37]:List aa) [[.ifc 149 (.fp (aa.c v37) 0)]] lG Z Z Z qD qD Z)<|jL h λg40 h=>oA (EvA.app1 (g:=false) (l:=s31.2.1) v37 lG (by kernel_rfl) Z Z Z nofun (bK.fz (c:=(λx=>[AV.ifc 149 (.fp (aa.c x) 0)])) (l:=([v37]:List aa)) Z qD) g40)<|oN (CR.asg (hS false 2 (u33+1) 1<|(s31.2.1++[v37]).length) Z)<|jA ?_
     cases h
     exact ⟨u33+1,trivial,kw Z Z⟩
    refine jG ?_
    cases h
    exact ⟨u33,trivial,kw Z Z⟩
   refine jM<|lX h λh=>?_;obtain rfl:=CU h;exact ⟨(s31.1,s19,s31.2.1),((b25,u24),u33),Z,n26,kw Z Z⟩
  refine jI<|oN mv<|jB h λv20 cv20 h=>oN (CR.invS 18 Z Z (MethT.of (off:=0)<|by kernel_rfl) Z Z (jm (s9.2.2.getD (d0.toNat) default) cv20) Z)<|jA ?_;refine jN Z h (λq21 h=>?_) λq21 h=>?_
  ·refine T.clean (H0:=[(some<|mB 1 1 ql cB s9.1),bE b12 u11 1 41 (s9.2.1.map<|cL cI),bE false (u14+1) 1 91 (((s9.2.2.drop U.toNat).take<|d0.toNat-U.toNat).map λx=>[AV.ifc 149 (.fp (aa.c x) 0)])]) (e0:=aj [(6,hS false 2 (u14+1) 1<|((s9.2.2.drop U.toNat).take<|d0.toNat-U.toNat).length),(7,.ifc 149<|.fp (aa.c<|s9.2.2.getD (d0.toNat) default) 0),(5,hS b12 1 u11 1 s9.2.1.length),(4,.mp 0 2)]) Z (CQ Z<|CQ Z<|CQ Z<|CQ Z wkN)<|jC<|oN mv<|oN mv<|jB h λv22 cv22 h=>oN (CR.invS 16 Z Z (MethT.of (off:=0)<|by kernel_rfl) Z Z (fg ((s9.2.2.getD (d0.toNat) default).values) cv22) Z)<|oN (CR.mkF (c:=(cL cI)) ([v22]:LL) [[eL cI v22]] qB Z Z Z qD qD Z)<|jL h λg23 h=>oA (EvA.app1 (g:=b12) (l:=s9.2.1) v22 qB (by kernel_rfl) Z Z Z n13 (bK.fz (l:=([v22]:LL)) Z qD) g23)<|oN (CR.asg (hS false 1 (u11+1) 1<|(s9.2.1++[v22]).length) Z)<|jA ?_
   cases h
   exact ⟨(false,u11+1),nofun,kw Z Z⟩
  refine jG ?_
  cases h
  exact ⟨(b12,u11),n13,kw Z Z⟩
 refine jM<|lX h λh=>?_;obtain rfl:=CU h;exact ⟨(b12,u11),n13,wu Z (.cons (.mp qD)<|.cons (.list (g:=b12) (ver:=u11) (l:=s9.2.1) qD) .nil)<|aD (.hS (g:=b12) (b:=1) (ver:=u11) (s:=1) (n:=s9.2.1.length) Z)<|aD (.mp<|nlb Z) gJ⟩
theorem gP (p:List<|List CV) (split:Bool) {q} (h:cV p split=some q):aO Tryz.prog 99 [eL (cL CV.c) p,Bo split] (.tup [eL (cL cI) q.1,I q.2]):=by
 refine pM Tryz.func99 Z (by kernel_rfl) Z<|jI<|oN as'<|oN as'<|jA<|jH<|jI<|oN mv<|oC h (λ_=>bD _) Z Z Z Z λv1 _ h=>oN (CR.not Z)<|jA ?_;refine jN Z h (λq2 h=>?_) λq2 h=>?_
 ·refine jI<|oN as'<|oN as'<|jA<|jK ?_;obtain rfl:=CU h
  repeat (first|refine jS ?_|refine jT ?_)
  exact jQ (vs:=[.nil,I U]) (.cons (.tmp Z)<|.cons (.tmp Z) .nil)<|.tupL<|.cons .nil0<|.cons (qC Z) .nil
 refine jG<|jI<|oN mv<|oN mv<|oC h (λ_=>kO _ _) Z Z Z Z λv3 _ h=>oC h (λ_=>gF _) Z Z Z Z λv4 _ h=>oN (CR.ext (eL (cL cI) v4.1) Z Z)<|oN (CR.ext (I v4.2) Z Z)<|oN as'<|oN as'<|jA<|jK ?_;obtain rfl:=CU h
 repeat (first|refine jS ?_|refine jT ?_)
 exact jQ (vs:=[eL (cL cI) v4.1,I v4.2]) (.cons (.tmp Z)<|.cons (.tmp Z) .nil)<|.tupL<|.cons (qC Z)<|.cons (qC Z) .nil
theorem oh (p:List<|List CV) {q} (h:iH p=some q):aO Tryz.prog 61 [eL (cL CV.c) p] (eL (cL cI) q):=by
 refine pM Tryz.func61 Z (by kernel_rfl) Z<|jI<|oN as'<|jA<|jI<|oN mv<|oC h (λ_=>gP _ _) Z Z Z Z λv1 _ h=>oN mv<|oN (CR.ext (eL (cL cI) v1.1) Z Z)<|oN (CR.ext (I v1.2) Z Z)<|oN as'<|oN as'<|jA<|jI<|oN mv<|oN as' ?_;refine jA<|jK ?_
 cases h
 exact eH Z Z Z
theorem ol (p:List<|List CV) {q} (h:iI p=some q):aO Tryz.prog 62 [eL (cL CV.c) p] (eL (cL cI) q):=by
 refine pM Tryz.func62 Z (by kernel_rfl) Z<|jI<|oN as'<|jA<|jI<|oN mv<|oC h (λ_=>gP _ _) Z Z Z Z λv1 _ h=>oN mv<|oN (CR.ext (eL (cL cI) v1.1) Z Z)<|oN (CR.ext (I v1.2) Z Z)<|oN as'<|oN as'<|jA<|jI<|oN mv<|oN as' ?_;refine jA<|jK ?_
 cases h
 exact eH Z Z Z
theorem da (p:List<|List CV) (name:ByteArray) {q} (h:ax p name=some q):aO Tryz.prog 20 [eL (cL CV.c) p,St name] (eL (cL cI) q):=by
 refine pM Tryz.func20 Z (by kernel_rfl) Z<|jI<|oN as'<|jA<|jH<|jI<|oN mv<|jA<|jE<|jI<|oN (CR.seq Z Z)<|oN as'<|jA ?_;refine jN Z h (λq1 h=>?_) λq1 h=>?_
 ·refine jI<|oN mv<|oC h (λ_=>jl _) Z Z Z Z λv2 _ h=>oN as'<|jA<|jK ?_
  cases h
  exact eH Z Z Z
 refine jI<|oN (CR.seq Z Z)<|oN as'<|jA ?_;refine jN Z h (λq3 h=>?_) λq3 h=>?_
 ·refine jI<|oN mv<|oC h (λ_=>oh _) Z Z Z Z λv4 _ h=>oN as'<|jA<|jK ?_
  cases h
  exact eH Z Z Z
 refine jI<|oN (CR.seq Z Z)<|oN as'<|jA ?_;refine jN Z h (λq5 h=>?_) λq5 h=>?_
 ·refine jI<|oN mv<|oC h (λ_=>ol _) Z Z Z Z λv6 _ h=>oN as'<|jA<|jK ?_
  cases h
  exact eH Z Z Z
 refine jI<|oN (CR.seq Z Z)<|oN as'<|jA ?_;refine jN Z h (λq7 h=>?_) λq7 h=>?_
 ·cases h
 refine jG<|jI<|oN as'<|jA<|jK ?_;obtain rfl:=CU h
 repeat (first|refine jS ?_|refine jT ?_)
 exact jQ (vs:=[.nil]) (.cons (.tmp Z) .nil) .nil0
theorem dY (s1_:List CV) (s2_:List CV) {q} (h:aJ s1_ s2_=some q):aO Tryz.prog 54 [eL CV.c s1_,eL CV.c s2_] (Bo q):=by
 refine pM Tryz.func54 Z (by kernel_rfl) Z<|jI<|oN as'<|jA<|jH<|jI<|oN mv<|oN (CR.lenL n8 Z)<|oN mv<|oN (CR.lenL n8 Z)<|oN (CR.ine Z Z)<|jA ?_;refine jN Z h (λq1 h=>?_) λq1 h=>?_
 ·refine jI<|oN as'<|jA<|jK ?_
  cases h
  exact eH Z Z Z
 refine jG ?_;obtain ⟨Ks2,es2,ws2,h,ks2⟩:=xK h;refine T.join (S:=Unit) (G:=Unit) (λs2=>Ks2 s2=some q) (λs2 gh=>True) (λs2 gh=>[]) (λs2 gh=>[]) (λs2 gh h hg=>?_) ?_
 ·clear ks2;subst es2;refine jI<|oN as'<|jA<|jK ?_
  cases h
  exact eH Z Z Z
 refine jI<|oN mv<|oN (CR.lenL n8 Z)<|oN mv<|jA<|jE ?_;refine T.lU h (λs5=>[(13,I s5),(12,I (s1_.length:Int)),(0,eL CV.c s1_),(1,eL CV.c s2_)]) (λs5=>[]) (kw Z Z) λs5 ws5 h=>?_;refine jI<|oN (CR.ilt Z Z)<|jA<|jH ?_;refine jN Z h (λq7 h=>?_) λq7 h=>?_
 ·refine jG<|jH<|jE<|jI<|oN mv<|oN as'<|jA<|jH<|jP (λ_=>([],false)) (by kernel_rfl) (by kernel_rfl)<|fN Z mv<|fN Z mv<|jD h λg8 h=>fN Z (CR.ixL n8 Z Z g8 qD)<|fN Z (lf (.agg<|CV.c<|J s1_ s5) nZ Z)<|fN Z mv<|fN Z mv ?_;refine jD h λg9 h=>fN Z (CR.ixL n8 Z Z g9 qD)<|fN Z (lf (.agg<|CV.c<|J s2_ s5) nZ Z)<|fN Z (CR.ane (((J s1_ s5).Op)==((J s2_ s5).Op)&&(((J s1_ s5).Loc)==((J s2_ s5).Loc)&&(((J s1_ s5).Reg)==((J s2_ s5).Reg)&&(((J s1_ s5).Val)==((J s2_ s5).Val)&&true)))) (cs:=[I ((J s1_ s5).Op),I ((J s1_ s5).Loc),I ((J s1_ s5).Reg),I ((J s1_ s5).Val)]) (ds:=[I ((J s2_ s5).Op),I ((J s2_ s5).Loc),I ((J s2_ s5).Reg),I ((J s2_ s5).Val)]) CL Z Z<|by kernel_rfl)<|jR ?_;refine jN Z h (λq10 h=>?_) λq10 h=>?_
  ·refine jH<|T.clean (H0:=[]) (e0:=aj []) Z wkN<|jC<|oN as'<|jA<|jK<|lX h λh=>?_;obtain rfl:=CU h;replace h:=congrArg some (show _=_ from ks2)
   cases h
   exact eH Z Z Z
  refine jG<|jC<|jW h λg11 h=>oN (CR.add Z Z g11)<|oN mv<|jA ?_;exact lE h<|kw Z Z
 refine jM<|lX h λh=>?_
 cases h
 exact ⟨(),(),ks2,trivial,kw Z Z⟩
theorem iU (x:List CV) (y:List CV) {q} (h:ek x y=some q):aO Tryz.prog 53 [eL CV.c x,eL CV.c y] (Bo q):=by
 refine pM Tryz.func53 Z (by kernel_rfl) Z<|jI<|oN as'<|jA<|jI<|oN mv<|oN mv<|oC h (λ_=>dY _ _) Z Z Z Z λv1 _ h=>oN as'<|jA<|jK ?_
 cases h
 exact eH Z Z Z
theorem aK (s1_:List<|List CV) (s2_:List<|List CV) {q} (h:ai s1_ s2_=some q):aO Tryz.prog 52 [eL (cL CV.c) s1_,eL (cL CV.c) s2_,.fn (.func 53) []] (Bo q):=by
 refine pM Tryz.func52 Z (by kernel_rfl) Z<|jI<|oN as'<|jA<|jH<|jI<|oN mv<|oN (CR.lenL oK Z)<|oN mv<|oN (CR.lenL oK Z)<|oN (CR.ine Z Z)<|jA ?_;refine jN Z h (λq1 h=>?_) λq1 h=>?_
 ·refine jI<|oN as'<|jA<|jK ?_
  cases h
  exact eH Z Z Z
 refine jG ?_;obtain ⟨Ks2,es2,ws2,h,ks2⟩:=xK h;refine T.join (S:=Unit) (G:=Unit) (λs2=>Ks2 s2=some q) (λs2 gh=>True) (λs2 gh=>[]) (λs2 gh=>[]) (λs2 gh h hg=>?_) ?_
 ·clear ks2;subst es2;refine jI<|oN as'<|jA<|jK ?_
  cases h
  exact eH Z Z Z
 refine jI<|oN mv<|oN (CR.lenL oK Z)<|oN mv<|jA<|jE ?_;refine T.lU h (λs5=>[(17,I s5),(16,I (s1_.length:Int)),(15,eL (cL CV.c) s1_),(1,eL (cL CV.c) s2_),(2,.fn (.func 53) [])]) (λs5=>[]) (kw Z Z) λs5 ws5 h=>?_;refine jI<|oN (CR.ilt Z Z)<|jA<|jH ?_;refine jN Z h (λq7 h=>?_) λq7 h=>?_
 ·refine jG<|jH<|jE<|jI<|oN mv<|jD h λg8 h=>oN (CR.ixL oK Z Z g8 qD)<|oN (lf (eL CV.c<|J s1_ s5) Ac Z)<|oN as'<|oN as'<|jA<|jI<|oN mv<|oN mv<|jD h λg9 h=>oN (CR.ixL oK Z Z g9 qD) ?_;refine oN (lf (eL CV.c<|J s2_ s5) Ac Z)<|oN as'<|jA<|jI<|oN mv<|oN mv<|oN mv<|oC h (λ_=>iU _ _) Z Z Z Z λv10 _ h=>oN (CR.not Z)<|jA ?_;refine jN Z h (λq11 h=>?_) λq11 h=>?_
  ·refine jH<|T.clean (H0:=[]) (e0:=aj []) Z wkN<|jC<|oN as'<|jA<|jK<|lX h λh=>?_;obtain rfl:=CU h;replace h:=congrArg some (show _=_ from ks2)
   cases h
   exact eH Z Z Z
  refine jG<|T.clean (H0:=[]) (e0:=aj [(17,I s5),(16,I (s1_.length:Int)),(15,eL (cL CV.c) s1_),(1,eL (cL CV.c) s2_),(2,.fn (.func 53) [])]) Z (CQ Z<|CQ Z<|CQ Z<|CQ Z<|CQ Z wkN)<|jC<|jW h λg12 h=>oN (CR.add Z Z g12)<|oN mv<|jA ?_;exact lE h<|kw Z Z
 refine jM<|lX h λh=>?_
 cases h
 exact ⟨(),(),ks2,trivial,kw Z Z⟩
theorem gu (a:List<|List CV) (b:List<|List CV) {q} (h:cn a b=some q):aO Tryz.prog 15 [eL (cL CV.c) a,eL (cL CV.c) b] (Bo q):=by
 refine pM Tryz.func15 Z (by kernel_rfl) Z<|jI<|oN as'<|jA<|jI<|oN mv<|oN mv<|oC h (λ_=>aK _ _) Z Z Z Z λv1 _ h=>oN as'<|jA<|jK ?_
 cases h
 exact eH Z Z Z
theorem mQ (code:LI) {q} (h:eB code=some q):dR Tryz.prog 44 [eL cY code] [] (.hp 0 0 2 0 0) [some ⟨0,2,99,[(ah.c q)]⟩]:=by
 refine aM Tryz.func44 Z (by kernel_rfl) Z<|jI<|oN as'<|jA ?_;refine T.jU h (λs1=>[(0,eL cY s1)]) (λs1=>[]) (λs1 h=>?_) λs1 h=>?_
 ·refine jI<|oN mv<|oN (CR.build [eL cY s1,I U] Tryz.underlying99 CN vz Z Z)<|oA (EvA.bx (cs:=[eL cY s1,I U]) Z Z Z)<|oN as'<|jA<|jK ?_;obtain rfl:=CU h
  repeat (first|refine jS ?_|refine jT ?_)
  exact ⟨aj [(2,.hp 0 0 2 0 0)],[some ⟨0,2,99,[(ah.c (⟨s1,U⟩:ah))]⟩],kw Z Z,jQ (vs:=[.hp 0 0 2 0 0]) (.cons (.tmp Z) .nil) ⟨Z,Z⟩⟩
 refine jI<|oN mv<|oN (CR.lenL lV Z)<|oN (CR.igt Z Z)<|jA ?_;refine jN Z h (λq2 h=>?_) λq2 h=>?_
 ·refine jC<|oN mv<|jD h λg3 h=>oN (CR.slL lV Z .no (.yes Z) g3 qD)<|oN as'<|jA ?_
  cases h
  exact ⟨(),trivial,kw Z Z⟩
 refine jG ?_
 cases h
 exact ⟨(),trivial,kw Z Z⟩
theorem dA (r_:ah) (n:Int) (kS:Nat) {q} (h:aV r_ n=some q):dR Tryz.prog 45 [.hp 0 kS 2 0 0,I n] [some ⟨kS,2,99,[(ah.c r_)]⟩] (I q.2) [some ⟨kS,2,99,[(ah.c q.1)]⟩]:=by
 let d0:=((r_.p+V)-V);refine aM Tryz.func45 Z (by kernel_rfl) Z<|jI<|oN as'<|jA<|jI<|oN mv<|oN mv<|oN (nl Z)<|oN (fa vz Z)<|oA (lh (I r_.p) ty3 Z Z Z)<|jW h λg1 h=>oN (CR.add Z Z g1)<|oN (nl Z)<|oN (fa vz Z)<|oV (sr [eL cY r_.b,I (r_.p+V)] ty3 Z Z Z Z)<|jA ?_;refine jH<|jI<|oN mv<|oN (CR.ilt Z Z)<|oN mv ?_;refine TO.jB h 7 (λs2=>[(24,Bo s2),(0,.hp 0 kS 2 0 0),(1,I n)]) (λs2=>[some ⟨kS,2,99,[[eL cY r_.b,I (r_.p+V)]]⟩]) (λs2 q3 h js2=>?_) (λs2 q3 h js2=>?_) λs2 h=>?_
 ·refine gS Z q3<|gS Z q3<|gS Z q3<|gS Z q3<|gS Z q3<|gS Z q3<|oN (CR.pickT Z q3 (Bo true) Z) ?_
  cases h
  exact js2 _ _<|kw Z Z
 ·refine gN Z q3 mv<|gN Z q3 (nl Z)<|gN Z q3 (fa vz Z)<|gA Z q3 (lh (eL cY r_.b) qA Z Z Z)<|gN Z q3 (CR.lenL lV Z)<|gN Z q3 (CR.ieq Z Z)<|oN (CR.pickF Z q3 (Bo<|(r_.b.length:Int)==U) Z) ?_
  cases h
  exact js2 _ _<|kw Z Z
 refine jA ?_;refine jN Z h (λq4 h=>?_) λq4 h=>?_
 ·refine jI<|oN as'<|jA<|jK ?_;obtain rfl:=CU h
  repeat (first|refine jS ?_|refine jT ?_)
  exact ⟨aj [(4,I U)],[some ⟨kS,2,99,[(ah.c (⟨r_.b,(r_.p+V)⟩:ah))]⟩],kw Z Z,jQ (vs:=[I U]) (.cons (.tmp Z) .nil) ⟨Z,Z⟩⟩
 refine jG<|jI<|oN mv<|oN (nl Z)<|oN (fa vz Z)<|oA (lh (I<|r_.p+V) ty3 Z Z Z)<|jW h λg5 h=>oN (CR.sub Z Z g5)<|oN as'<|jA<|jH<|jI<|oN mv<|oN mv<|oN (nl Z)<|oN (fa vz Z) ?_;refine oA (lh (eL cY r_.b) qA Z Z Z)<|oN (CR.lenL lV Z)<|oN (CR.ilt Z Z)<|jA ?_;refine jN Z h (λq6 h=>?_) λq6 h=>?_
 ·refine jI<|oN mv<|oN (nl Z)<|oN (fa vz Z)<|oA (lh (eL cY r_.b) qA Z Z Z)<|oN mv<|jD h λg7 h=>oN (CR.ixL lV Z Z g7 qD)<|oN (lf (Y<|J r_.b d0) CZ Z)<|jW h λg8 h=>oN (CR.iconv CZ.und Tryz.underlying3 Z g8)<|oN mv<|jD h λg9 h=>oN (CR.rem Z Z g9)<|oN as'<|jA ?_;refine jK ?_;obtain rfl:=CU h
  repeat (first|refine jS ?_|refine jT ?_)
  exact ⟨aj [(4,I<|(J r_.b d0).tmod n)],[some ⟨kS,2,99,[(ah.c (⟨r_.b,(r_.p+V)⟩:ah))]⟩],kw Z Z,jQ (vs:=[I ((J r_.b d0).tmod n)]) (.cons (.tmp Z) .nil) ⟨Z,Z⟩⟩
 refine jG<|jH<|jP (dG [dF,dF,dF,([0],false),dF,dF,dF,dF,([0],false),dF,dF,dF,dF,dF,dF,dF,dF,dF,([0],false),dF,dF,dF,dF,dF,dF,([0],false),dF,dF,dF,dF,dF,dF,dF,dF,dF,dF,dF,dF,dF,dF,([0],false),dF,dF,dF,dF,dF]) (by kernel_rfl) (by kernel_rfl)<|fN Z mv<|fN Z (nl Z)<|fN Z (fa vz Z)<|fR [0] Z (λG hG=>EvA.loadhp (eL cY r_.b) qA Z (hG.a0 Z) Z Z Z Z)<|fN Z mv<|fN Z mv<|fN Z (nl Z)<|fN Z (fa vz Z)<|fR [0] Z (λG hG=>EvA.loadhp (eL cY r_.b) qA Z (hG.a0 Z) Z Z Z Z)<|fN Z (CR.lenL lV Z)<|jD h λg10 h=>fN Z (CR.rem Z Z g10)<|jD h λg11 h=>?_;refine fN Z (CR.ixL lV Z Z g11 qD)<|fN Z (lf (Y<|J r_.b<|d0.tmod (r_.b.length:Int)) CZ Z)<|jW h λg12 h=>fN Z (CR.iconv CZ.und Tryz.underlying3 Z g12)<|jW h λg13 h=>fN Z (CR.mul Z Z g13)<|fN Z mv<|fN Z (nl Z)<|fN Z (fa vz Z)<|fR [0] Z (λG hG=>EvA.loadhp (eL cY r_.b) qA Z (hG.a0 Z) Z Z Z Z)<|fN Z mv<|jW h λg14 h=>fN Z (CR.mul Z Z g14)<|jW h λg15 h=>fN Z (CR.add Z Z g15)<|fN Z mv ?_;refine fN Z (nl Z)<|fN Z (fa vz Z)<|fR [0] Z (λG hG=>EvA.loadhp (eL cY r_.b) qA Z (hG.a0 Z) Z Z Z Z)<|fN Z (CR.lenL lV Z)<|fN Z (CR.rem Z Z g10)<|jD h λg16 h=>fN Z (CR.ixL lV Z Z g16 qD)<|fN Z (lf (Y<|J r_.b<|((d0*(7:Int))+(3:Int)).tmod (r_.b.length:Int)) CZ Z)<|jW h λg17 h=>fN Z (CR.iconv CZ.und Tryz.underlying3 Z g17)<|jW h λg18 h=>fN Z (CR.mul Z Z g18)<|jW h λg19 h=>fN Z (CR.add Z Z g19)<|fN Z mv<|jW h λg20 h=>?_;refine fN Z (CR.mul Z Z g20)<|jW h λg21 h=>fN Z (CR.add Z Z g21)<|fN Z mv<|fN Z mv<|fN Z (nl Z)<|fN Z (fa vz Z)<|fR [0] Z (λG hG=>EvA.loadhp (eL cY r_.b) qA Z (hG.a0 Z) Z Z Z Z)<|fN Z (CR.lenL lV Z)<|jW h λg22 h=>fN Z (CR.quo Z Z g10 g22)<|jW h λg23 h=>fN Z (CR.mul Z Z g23)<|jW h λg24 h=>fN Z (CR.add Z Z g24)<|fN Z as' ?_;refine jR<|jH<|T.clean (H0:=[some ⟨kS,2,99,[[eL cY r_.b,I (r_.p+V)]]⟩]) (e0:=aj [(6,I<|((((J r_.b<|d0.tmod (r_.b.length:Int))*(131:Int))+((J r_.b<|((d0*(7:Int))+(3:Int)).tmod (r_.b.length:Int))*(1117:Int)))+(d0*(29:Int)))+((d0.tdiv (r_.b.length:Int))*(53:Int))),(1,I n)]) Z (CQ Z<|CQ Z wkN)<|jC<|oN mv<|oN mv<|jD h λg25 h=>jW h λg26 h=>oN (CR.quo Z Z g25 g26)<|jB h λw27 ew27 h=>?_;replace ew27:=osi ew27;refine oN (CR.res (CR.bxor Z Z) (r':=I w27) λ_ _ hr=>by rw [<- ew27];exact hr)<|oN as'<|jA<|jI<|oN mv<|oN mv<|jD h λg28 h=>oN (CR.rem Z Z g28)<|oN as'<|jA<|jK ?_;obtain rfl:=CU h
 repeat (first|refine jS ?_|refine jT ?_)
 exact ⟨aj [(4,I<|w27.tmod n)],[some ⟨kS,2,99,[(ah.c (⟨r_.b,(r_.p+V)⟩:ah))]⟩],kw Z Z,jQ (vs:=[I (w27.tmod n)]) (.cons (.tmp Z) .nil) ⟨Z,Z⟩⟩
theorem lM (r_:ah) (list:LI) (kS:Nat) {q} (h:dB r_ list=some q):dR Tryz.prog 46 [.hp 0 kS 2 0 0,eL cI list] [some ⟨kS,2,99,[(ah.c r_)]⟩] (I q.2) [some ⟨kS,2,99,[(ah.c q.1)]⟩]:=by
 refine aM Tryz.func46 Z (by kernel_rfl) Z<|jI<|oN as'<|jA<|jI<|oN mv<|oN mv<|oN mv<|oN (CR.lenL oq Z)<|jB h λv1 cv1 h=>oA (EvA.call Z Z Z<|(dA (⟨r_.b,r_.p⟩:ah) (list.length:Int) kS cv1).one 0 Z (.cons (.hp Z)<|.cons (.pF Z) .nil) (dM Z) (dM Z) Z)<|jD h λg2 h=>oN (CR.ixL oq Z Z g2 qD)<|oN (lf (I<|J list v1.2) ty3 Z)<|oN as'<|jA ?_;refine jK ?_;obtain rfl:=CU h
 repeat (first|refine jS ?_|refine jT ?_)
 exact ⟨aj [(4,I<|J list v1.2)],[some ⟨kS,2,99,[(ah.c (⟨v1.1.b,v1.1.p⟩:ah))]⟩],kw Z Z,jQ (vs:=[I (J list v1.2)]) (.cons (.tmp Z) .nil) ⟨Z,Z⟩⟩
end
end Go.Proofs.YtjcmfddobaplbaaGreat
