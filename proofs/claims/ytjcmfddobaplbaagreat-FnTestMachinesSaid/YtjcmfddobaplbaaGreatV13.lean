/- Texts joined. No conditions. -/
import Derived.Test.YtjcmfddobaplbaaGreatV12
namespace Go.Proofs.YtjcmfddobaplbaaGreat
noncomputable section
set_option maxHeartbeats 4000000
open Go.RowKit
set_option maxRecDepth 100000
theorem ku (start:ak) {q} (h:ek start=some q):aX Tryz.prog 82 [.ifc 126 (.fp (ak.c start) 0)] (.tup [eL (cL cI) q.1,I q.2]):=by
 refine pM Tryz.func82 Z (by kernel_rfl) Z<|jI<|oN as'<|oN as'<|jA<|jI<|oA (EvA.mmkB (kn:=1) p5 Z)<|oN mv<|jB h λv1 cv1 h=>oN (Jf.invS 28 Z Z (MethT.of (off:=0)<|by kernel_rfl) Z Z (kF start cv1) Z)<|oV (EvA.minsB (l:=([]:List<|ByteArray×Bool)) vC Tryz.underlying109 v1 true Z Z Z Z)<|oN mv<|oN as'<|jA<|jH<|T.reserve ?_;refine jC<|oN (Jf.asg (hS true 1 0 1<|([]:LL).length) Z)<|jA ?_;refine T.jF (G:=(Bool×Nat)) h (λs2 gh=>(gh.1=true->s2.2=[])) (λs2 gh=>[(5,hS gh.1 1 gh.2 1 s2.2.length),(4,.mp 0 2)]) (λs2 gh=>[(some<|mB 1 1 p5 cB s2.1),bE gh.1 gh.2 1 41 (s2.2.map<|cL cI)]) (λs2 gh h n45=>?_) λs2 h=>?_
 ·obtain ⟨b44,u43⟩:=gh;refine jI<|oN mv<|jB h λv46 cv46 h=>?_;refine oGW Z Z (eZ s2.2 b44 u43 n45 cv46) Z (.cons (jf Z) .nil) (fZ qD) (fZ qD) iQ λg47 v48 n49=>?_;refine oN mv<|oA (EvA.mlenB (l:=s2.1) Tryz.underlying109 Z Z)<|oN (Jf.asg (hS g47 1 v48 1 v46.length) Z)<|oN as'<|jA<|jK ?_;obtain rfl:=Jh h
  repeat (first|refine iZ ?_|refine i9 ?_)
  exact jQ (vs:=[hS g47 1 v48 1 v46.length,I (s2.1.length:Int)]) (.cons (.tmp Z)<|.cons (.tmp Z) .nil)<|.tupL<|.cons (Fz.own (g:=g47) (ver:=v48) (l:=v46) Z Z Z (λx=>List.eq_nil_of_length_eq_zero<|n49 x) qD)<|.cons (qC Z) .nil
 refine jI<|oN mv<|oA (EvA.mkO (c:=(λx=>[AV.ifc 126 (.fp (ak.c x) 0)])) ([start]:List ak) [[.ifc 126 (.fp (ak.c start) 0)]] kL Z Z Z qD Z Z)<|oN (Jf.asg (hS false 2 0 1<|([start]:List ak).length) Z)<|jA<|jE ?_;refine jO (S:=(List<|ByteArray×Bool)×(LL)×(List ak)) (G:=(Bool×Nat)×Nat) fQ (λs9 gh=>(gh.1.1=true->s9.2.1=[])) (λs9 gh=>[(6,hS false 2 gh.2 1 s9.2.2.length),(5,hS gh.1.1 1 gh.1.2 1 s9.2.1.length),(4,.mp 0 2)]) (λs9 gh=>[(some<|mB 1 1 p5 cB s9.1),bE gh.1.1 gh.1.2 1 41 (s9.2.1.map<|cL cI),bE false gh.2 1 91 (s9.2.2.map λx=>[AV.ifc 126 (.fp (ak.c x) 0)])]) (s0:=((qL ([]:List<|ByteArray×Bool) v1 true),([]:LL),([start]:List ak))) ((true,0),0) h qD (kw Z Z) λs9 gh ws9 h n13=>?_;let d0:=((s9.2.2.length:Int)-V);obtain ⟨⟨b12,u11⟩,u14⟩:=gh;refine jH<|jI<|oN mv<|oN (Jf.lenO (g:=false) kL Z nofun)<|oN (Jf.igt Z Z)<|jA ?_;refine jN Z h (λq15 h=>?_) λq15 h=>?_
 ·refine jG<|jE<|jI<|oN mv<|oN mv<|oN (Jf.lenO (g:=false) kL Z nofun)<|jW h λg16 h=>oN (Jf.sub Z Z g16)<|jD h λg17 h=>oN (Jf.ixO (g:=false) kL Z Z nofun g17)<|oA (EvA.ldO (g:=false) (l:=s9.2.2) (.ifc 126<|.fp (ak.c<|s9.2.2.getD (d0.toNat) default) 0) FR Z Z nofun (bu Z g17) Z)<|oN as'<|jA<|jI<|oN mv<|oN mv ?_;refine oN (Jf.lenO (g:=false) kL Z nofun)<|oN (Jf.sub Z Z g16)<|jD h λg18 h=>oA (EvA.cutO (l:=s9.2.2) (zl:=U) (zh:=d0) (Jf.slhs Tryz.underlying110 FR (l:=U) (h:=d0) Z .no (.yes Z) g18) Z Z g18)<|oN (Jf.asg (hS false 2 (u14+1) 1<|((s9.2.2.drop U.toNat).take<|d0.toNat-U.toNat).length) Z)<|jA ?_;refine T.jF (G:=(Bool×Nat)) h (λs19 gh=>(gh.1=true->s19=[])) (λs19 gh=>[(5,hS gh.1 1 gh.2 1 s19.length),(6,hS false 2 (u14+1) 1<|((s9.2.2.drop U.toNat).take<|d0.toNat-U.toNat).length),(7,.ifc 126<|.fp (ak.c<|s9.2.2.getD (d0.toNat) default) 0),(4,.mp 0 2)]) (λs19 gh=>[(some<|mB 1 1 p5 cB s9.1),bE gh.1 gh.2 1 41 (s19.map<|cL cI),bE false (u14+1) 1 91 (((s9.2.2.drop U.toNat).take<|d0.toNat-U.toNat).map λx=>[AV.ifc 126 (.fp (ak.c x) 0)])]) (λs19 gh h n26=>?_) λs19 h=>?_
  ·obtain ⟨b25,u24⟩:=gh;refine jI<|oN mv<|jB h λv27 cv27 h=>oN (Jf.invS 28 Z Z (MethT.of (off:=0)<|by kernel_rfl) Z Z (nu (s9.2.2.getD (d0.toNat) default) cv27) Z)<|oN (Jf.lenL lg Z)<|oN mv<|jA<|jE ?_;refine jO (S:=(List<|ByteArray×Bool)×(List ak)×Int) (G:=Nat) (fP s9 s19 v27) (λs31 gh=>True) (λs31 gh=>[(42,I s31.2.2),(41,I (v27.length:Int)),(40,eL cI v27),(5,hS b25 1 u24 1 s19.length),(6,hS false 2 gh 1 s31.2.1.length),(7,.ifc 126<|.fp (ak.c<|s9.2.2.getD (d0.toNat) default) 0),(4,.mp 0 2)]) (λs31 gh=>[(some<|mB 1 1 p5 cB s31.1),bE b25 u24 1 41 (s19.map<|cL cI),bE false gh 1 91 (s31.2.1.map λx=>[AV.ifc 126 (.fp (ak.c x) 0)])]) (s0:=(s9.1,((s9.2.2.drop U.toNat).take<|d0.toNat-U.toNat),U)) (u14+1) h trivial (kw Z Z) λs31 u33 ws31 h hg=>?_;refine jI<|oN (Jf.ilt Z Z)<|jA<|jH ?_;refine jN Z h (λq34 h=>?_) λq34 h=>?_
   ·refine jG ?_;refine T.jF (G:=Nat) h (λs35 gh=>True) (λs35 gh=>[(6,hS false 2 gh 1 s35.2.length),(42,I s31.2.2),(41,I (v27.length:Int)),(40,eL cI v27),(5,hS b25 1 u24 1 s19.length),(7,.ifc 126<|.fp (ak.c<|s9.2.2.getD (d0.toNat) default) 0),(4,.mp 0 2)]) (λs35 gh=>[(some<|mB 1 1 p5 cB s35.1),bE b25 u24 1 41 (s19.map<|cL cI),bE false gh 1 91 (s35.2.map λx=>[AV.ifc 126 (.fp (ak.c x) 0)])]) (λs35 u41 h hg=>?_) λs35 h=>?_
    ·refine jC<|jW h λg42 h=>oN (Jf.add Z Z g42)<|oN mv<|jA ?_;obtain rfl:=Jh h;exact ⟨(s35.1,s35.2,(s31.2.2+V)),u41,Z,trivial,kw Z Z⟩
    refine jE<|jI<|jD h λg36 h=>oN (Jf.ixL lg Z Z g36 qD)<|oN (lf (I<|J v27 s31.2.2) Jo Z)<|oN as'<|jA<|jI<|oN mv<|oN mv<|jB h λv37 cv37 h=>oN (Jf.invS 28 Z Z (MethT.of (off:=0)<|by kernel_rfl) Z Z (nz (s9.2.2.getD (d0.toNat) default) (J v27 s31.2.2) cv37) Z)<|oN as'<|jA<|jI<|oN mv ?_;refine jB h λv38 cv38 h=>oN (Jf.invS 28 Z Z (MethT.of (off:=0)<|by kernel_rfl) Z Z (kF v37 cv38) Z)<|oN as'<|jA<|jI<|oN mv<|oN mv<|oA (EvA.lookB (l:=s31.1) vC Tryz.underlying109 (by kernel_rfl) v38 Z Z Z)<|oN (Jf.not Z)<|jA ?_;refine jN Z h (λq39 h=>?_) λq39 h=>?_
    ·refine jI<|oN mv<|oN mv<|oV (EvA.msetB (l:=s31.1) vC Tryz.underlying109 v38 true Z Z Z Z)<|jA<|T.clean (H0:=[(some<|mB 1 1 p5 cB<|qL s31.1 v38 true),bE b25 u24 1 41 (s19.map<|cL cI),bE false u33 1 91 (s31.2.1.map λx=>[AV.ifc 126 (.fp (ak.c x) 0)])]) (e0:=ax [(10,.ifc 126<|.fp (ak.c v37) 0),(42,I s31.2.2),(41,I (v27.length:Int)),(40,eL cI v27),(5,hS b25 1 u24 1 s19.length),(6,hS false 2 u33 1 s31.2.1.length),(7,.ifc 126<|.fp (ak.c<|s9.2.2.getD (d0.toNat) default) 0),(4,.mp 0 2)]) Z (Je Z<|Je Z<|Je Z<|Je Z<|Je Z<|Je Z<|Je Z<|Je Z Jd)<|jC<|oN mv<|oN mv<|oN (Jf.mkF (c:=(λx=>[AV.ifc 126 (.fp (ak.c x) 0)])) ([v37]:List ak) [[.ifc 126 (.fp (ak.c v37) 0)]] kL Z Z Z qD qD Z)<|jL h λg40 h=>oA (EvA.app1 (g:=false) (l:=s31.2.1) v37 kL (by kernel_rfl) Z Z Z nofun (bV.fz (c:=(λx=>[AV.ifc 126 (.fp (ak.c x) 0)])) (l:=([v37]:List ak)) Z qD) g40)<|oN (Jf.asg (hS false 2 (u33+1) 1<|(s31.2.1++[v37]).length) Z)<|jA ?_
     cases h
     exact ⟨u33+1,trivial,kw Z Z⟩
    refine jG ?_
    cases h
    exact ⟨u33,trivial,kw Z Z⟩
   refine jM<|lX h λh=>?_;obtain rfl:=Jh h;exact ⟨(s31.1,s19,s31.2.1),((b25,u24),u33),Z,n26,kw Z Z⟩
  refine jI<|oN mv<|jB h λv20 cv20 h=>oN (Jf.invS 28 Z Z (MethT.of (off:=0)<|by kernel_rfl) Z Z (nV (s9.2.2.getD (d0.toNat) default) cv20) Z)<|jA ?_;refine jN Z h (λq21 h=>?_) λq21 h=>?_
  ·refine T.clean (H0:=[(some<|mB 1 1 p5 cB s9.1),bE b12 u11 1 41 (s9.2.1.map<|cL cI),bE false (u14+1) 1 91 (((s9.2.2.drop U.toNat).take<|d0.toNat-U.toNat).map λx=>[AV.ifc 126 (.fp (ak.c x) 0)])]) (e0:=ax [(6,hS false 2 (u14+1) 1<|((s9.2.2.drop U.toNat).take<|d0.toNat-U.toNat).length),(7,.ifc 126<|.fp (ak.c<|s9.2.2.getD (d0.toNat) default) 0),(5,hS b12 1 u11 1 s9.2.1.length),(4,.mp 0 2)]) Z (Je Z<|Je Z<|Je Z<|Je Z Jd)<|jC<|oN mv<|oN mv<|jB h λv22 cv22 h=>oN (Jf.invS 28 Z Z (MethT.of (off:=0)<|by kernel_rfl) Z Z (l5 (s9.2.2.getD (d0.toNat) default) cv22) Z)<|oN (Jf.mkF (c:=(cL cI)) ([v22]:LL) [[eL cI v22]] qj Z Z Z qD qD Z)<|jL h λg23 h=>oA (EvA.app1 (g:=b12) (l:=s9.2.1) v22 qj (by kernel_rfl) Z Z Z n13 (bV.fz (l:=([v22]:LL)) Z qD) g23)<|oN (Jf.asg (hS false 1 (u11+1) 1<|(s9.2.1++[v22]).length) Z)<|jA ?_
   cases h
   exact ⟨(false,u11+1),nofun,kw Z Z⟩
  refine jG ?_
  cases h
  exact ⟨(b12,u11),n13,kw Z Z⟩
 refine jM<|lX h λh=>?_;obtain rfl:=Jh h;exact ⟨(b12,u11),n13,ww Z (.cons (.mp qD)<|.cons (.list (g:=b12) (ver:=u11) (l:=s9.2.1) qD) .nil)<|aF (.hS (g:=b12) (b:=1) (ver:=u11) (s:=1) (n:=s9.2.1.length) Z)<|aF (.mp<|nlb Z) fU⟩
theorem tZ (p:List<|List Ji) {q} (h:iq p=some q):aX Tryz.prog 63 [eL (cL Ji.c) p] (eL (cL cI) q):=by
 refine pM Tryz.func63 Z (by kernel_rfl) Z<|jI<|oN as'<|jA<|jH<|jI<|oN mv<|oC h (λ_=>dO _) Z Z Z Z λv1 _ h=>oN (Jf.not Z)<|jA ?_;refine jN Z h (λq2 h=>?_) λq2 h=>?_
 ·refine jI<|oN as'<|jA<|jK ?_;obtain rfl:=Jh h
  repeat (first|refine iZ ?_|refine i9 ?_)
  exact jQ (vs:=[.nil]) (.cons (.tmp Z) .nil) .nil0
 refine jG<|jI<|oN mv<|oC h (λ_=>qp _) Z Z Z Z λv3 _ h=>oC h (λ_=>ku _) Z Z Z Z λv4 _ h=>oN mv<|oN (Jf.ext (eL (cL cI) v4.1) Z Z)<|oN (Jf.ext (I v4.2) Z Z)<|oN as'<|oN as'<|jA<|jI<|oN mv<|oN as'<|jA<|jK ?_
 cases h
 exact f9 Z Z Z
theorem cT (p:List<|List Ji) (name:ByteArray) {q} (h:aV p name=some q):aX Tryz.prog 20 [eL (cL Ji.c) p,St name] (eL (cL cI) q):=by
 refine pM Tryz.func20 Z (by kernel_rfl) Z<|jI<|oN as'<|jA<|jH<|jI<|oN mv<|jA<|jE<|jI<|oN (Jf.seq Z Z)<|oN as'<|jA ?_;refine jN Z h (λq1 h=>?_) λq1 h=>?_
 ·refine jI<|oN mv<|oC h (λ_=>tu _) Z Z Z Z λv2 _ h=>oN as'<|jA<|jK ?_
  cases h
  exact f9 Z Z Z
 refine jI<|oN (Jf.seq Z Z)<|oN as'<|jA ?_;refine jN Z h (λq3 h=>?_) λq3 h=>?_
 ·refine jI<|oN mv<|oC h (λ_=>tv _) Z Z Z Z λv4 _ h=>oN as'<|jA<|jK ?_
  cases h
  exact f9 Z Z Z
 refine jI<|oN (Jf.seq Z Z)<|oN as'<|jA ?_;refine jN Z h (λq5 h=>?_) λq5 h=>?_
 ·refine jI<|oN mv<|oC h (λ_=>tz _) Z Z Z Z λv6 _ h=>oN as'<|jA<|jK ?_
  cases h
  exact f9 Z Z Z
 refine jI<|oN (Jf.seq Z Z)<|oN as'<|jA ?_;refine jN Z h (λq7 h=>?_) λq7 h=>?_
 ·refine jI<|oN mv<|oC h (λ_=>tZ _) Z Z Z Z λv8 _ h=>oN as'<|jA<|jK ?_
  cases h
  exact f9 Z Z Z
 refine jG<|jI<|oN as'<|jA<|jK ?_;obtain rfl:=Jh h
 repeat (first|refine iZ ?_|refine i9 ?_)
 exact jQ (vs:=[.nil]) (.cons (.tmp Z) .nil) .nil0
theorem gH (s1_:List Ji) (s2_:List Ji) {q} (h:bg s1_ s2_=some q):aX Tryz.prog 54 [eL Ji.c s1_,eL Ji.c s2_] (Bo q):=by
 refine pM Tryz.func54 Z (by kernel_rfl) Z<|jI<|oN as'<|jA<|jH<|jI<|oN mv<|oN (Jf.lenL sP Z)<|oN mv<|oN (Jf.lenL sP Z)<|oN (Jf.ine Z Z)<|jA ?_;refine jN Z h (λq1 h=>?_) λq1 h=>?_
 ·refine jI<|oN as'<|jA<|jK ?_
  cases h
  exact f9 Z Z Z
 refine jG ?_;obtain ⟨Ks2,es2,ws2,h,ks2⟩:=Ag h;refine T.join (S:=Unit) (G:=Unit) (λs2=>Ks2 s2=some q) (λs2 gh=>True) (λs2 gh=>[]) (λs2 gh=>[]) (λs2 gh h hg=>?_) ?_
 ·clear ks2;subst es2;refine jI<|oN as'<|jA<|jK ?_
  cases h
  exact f9 Z Z Z
 refine jI<|oN mv<|oN (Jf.lenL sP Z)<|oN mv<|jA<|jE ?_;refine T.lU h (λs5=>[(13,I s5),(12,I (s1_.length:Int)),(0,eL Ji.c s1_),(1,eL Ji.c s2_)]) (λs5=>[]) (kw Z Z) λs5 ws5 h=>?_;refine jI<|oN (Jf.ilt Z Z)<|jA<|jH ?_;refine jN Z h (λq7 h=>?_) λq7 h=>?_
 ·refine jG<|jH<|jE<|jI<|oN mv<|oN as'<|jA<|jH<|jP (λ_=>([],false)) (by kernel_rfl) (by kernel_rfl)<|fN Z mv<|fN Z mv<|jD h λg8 h=>fN Z (Jf.ixL sP Z Z g8 qD)<|fN Z (lf (.agg<|Ji.c<|J s1_ s5) qi Z)<|fN Z mv<|fN Z mv ?_;refine jD h λg9 h=>fN Z (Jf.ixL sP Z Z g9 qD)<|fN Z (lf (.agg<|Ji.c<|J s2_ s5) qi Z)<|fN Z (Jf.ane (((J s1_ s5).Op)==((J s2_ s5).Op)&&(((J s1_ s5).Loc)==((J s2_ s5).Loc)&&(((J s1_ s5).Reg)==((J s2_ s5).Reg)&&(((J s1_ s5).Val)==((J s2_ s5).Val)&&true)))) (cs:=[I ((J s1_ s5).Op),I ((J s1_ s5).Loc),I ((J s1_ s5).Reg),I ((J s1_ s5).Val)]) (ds:=[I ((J s2_ s5).Op),I ((J s2_ s5).Loc),I ((J s2_ s5).Reg),I ((J s2_ s5).Val)]) I8 Z Z<|by kernel_rfl)<|jR ?_;refine jN Z h (λq10 h=>?_) λq10 h=>?_
  ·refine jH<|T.clean (H0:=[]) (e0:=ax []) Z Jd<|jC<|oN as'<|jA<|jK<|lX h λh=>?_;obtain rfl:=Jh h;replace h:=congrArg some (show _=_ from ks2)
   cases h
   exact f9 Z Z Z
  refine jG<|jC<|jW h λg11 h=>oN (Jf.add Z Z g11)<|oN mv<|jA ?_;exact lE h<|kw Z Z
 refine jM<|lX h λh=>?_
 cases h
 exact ⟨(),(),ks2,trivial,kw Z Z⟩
theorem l6 (x:List Ji) (y:List Ji) {q} (h:gP x y=some q):aX Tryz.prog 53 [eL Ji.c x,eL Ji.c y] (Bo q):=by
 refine pM Tryz.func53 Z (by kernel_rfl) Z<|jI<|oN as'<|jA<|jI<|oN mv<|oN mv<|oC h (λ_=>gH _ _) Z Z Z Z λv1 _ h=>oN as'<|jA<|jK ?_
 cases h
 exact f9 Z Z Z
theorem bi (s1_:List<|List Ji) (s2_:List<|List Ji) {q} (h:aC s1_ s2_=some q):aX Tryz.prog 52 [eL (cL Ji.c) s1_,eL (cL Ji.c) s2_,.fn (.func 53) []] (Bo q):=by
 refine pM Tryz.func52 Z (by kernel_rfl) Z<|jI<|oN as'<|jA<|jH<|jI<|oN mv<|oN (Jf.lenL sO Z)<|oN mv<|oN (Jf.lenL sO Z)<|oN (Jf.ine Z Z)<|jA ?_;refine jN Z h (λq1 h=>?_) λq1 h=>?_
 ·refine jI<|oN as'<|jA<|jK ?_
  cases h
  exact f9 Z Z Z
 refine jG ?_;obtain ⟨Ks2,es2,ws2,h,ks2⟩:=Ag h;refine T.join (S:=Unit) (G:=Unit) (λs2=>Ks2 s2=some q) (λs2 gh=>True) (λs2 gh=>[]) (λs2 gh=>[]) (λs2 gh h hg=>?_) ?_
 ·clear ks2;subst es2;refine jI<|oN as'<|jA<|jK ?_
  cases h
  exact f9 Z Z Z
 refine jI<|oN mv<|oN (Jf.lenL sO Z)<|oN mv<|jA<|jE ?_;refine T.lU h (λs5=>[(17,I s5),(16,I (s1_.length:Int)),(15,eL (cL Ji.c) s1_),(1,eL (cL Ji.c) s2_),(2,.fn (.func 53) [])]) (λs5=>[]) (kw Z Z) λs5 ws5 h=>?_;refine jI<|oN (Jf.ilt Z Z)<|jA<|jH ?_;refine jN Z h (λq7 h=>?_) λq7 h=>?_
 ·refine jG<|jH<|jE<|jI<|oN mv<|jD h λg8 h=>oN (Jf.ixL sO Z Z g8 qD)<|oN (lf (eL Ji.c<|J s1_ s5) FQ Z)<|oN as'<|oN as'<|jA<|jI<|oN mv<|oN mv<|jD h λg9 h=>oN (Jf.ixL sO Z Z g9 qD) ?_;refine oN (lf (eL Ji.c<|J s2_ s5) FQ Z)<|oN as'<|jA<|jI<|oN mv<|oN mv<|oN mv<|oC h (λ_=>l6 _ _) Z Z Z Z λv10 _ h=>oN (Jf.not Z)<|jA ?_;refine jN Z h (λq11 h=>?_) λq11 h=>?_
  ·refine jH<|T.clean (H0:=[]) (e0:=ax []) Z Jd<|jC<|oN as'<|jA<|jK<|lX h λh=>?_;obtain rfl:=Jh h;replace h:=congrArg some (show _=_ from ks2)
   cases h
   exact f9 Z Z Z
  refine jG<|T.clean (H0:=[]) (e0:=ax [(17,I s5),(16,I (s1_.length:Int)),(15,eL (cL Ji.c) s1_),(1,eL (cL Ji.c) s2_),(2,.fn (.func 53) [])]) Z (Je Z<|Je Z<|Je Z<|Je Z<|Je Z Jd)<|jC<|jW h λg12 h=>oN (Jf.add Z Z g12)<|oN mv<|jA ?_;exact lE h<|kw Z Z
 refine jM<|lX h λh=>?_
 cases h
 exact ⟨(),(),ks2,trivial,kw Z Z⟩
theorem jp (a:List<|List Ji) (b:List<|List Ji) {q} (h:dN a b=some q):aX Tryz.prog 15 [eL (cL Ji.c) a,eL (cL Ji.c) b] (Bo q):=by
 refine pM Tryz.func15 Z (by kernel_rfl) Z<|jI<|oN as'<|jA<|jI<|oN mv<|oN mv<|oC h (λ_=>bi _ _) Z Z Z Z λv1 _ h=>oN as'<|jA<|jK ?_
 cases h
 exact f9 Z Z Z
theorem qV (code:LI) {q} (h:gY code=some q):fg Tryz.prog 44 [eL cY code] [] (.hp 0 0 2 0 0) [some ⟨0,2,99,[(au.c q)]⟩]:=by
 refine aM Tryz.func44 Z (by kernel_rfl) Z<|jI<|oN as'<|jA ?_;refine T.jU h (λs1=>[(0,eL cY s1)]) (λs1=>[]) (λs1 h=>?_) λs1 h=>?_
 ·refine jI<|oN mv<|oN (Jf.build [eL cY s1,I U] Tryz.underlying99 Ja Ai Z Z)<|oA (EvA.bx (cs:=[eL cY s1,I U]) Z Z Z)<|oN as'<|jA<|jK ?_;obtain rfl:=Jh h
  repeat (first|refine iZ ?_|refine i9 ?_)
  exact ⟨ax [(2,.hp 0 0 2 0 0)],[some ⟨0,2,99,[(au.c (⟨s1,U⟩:au))]⟩],kw Z Z,jQ (vs:=[.hp 0 0 2 0 0]) (.cons (.tmp Z) .nil) ⟨Z,Z⟩⟩
 refine jI<|oN mv<|oN (Jf.lenL mZ Z)<|oN (Jf.igt Z Z)<|jA ?_;refine jN Z h (λq2 h=>?_) λq2 h=>?_
 ·refine jC<|oN mv<|jD h λg3 h=>oN (Jf.slL mZ Z .no (.yes Z) g3 qD)<|oN as'<|jA ?_
  cases h
  exact ⟨(),trivial,kw Z Z⟩
 refine jG ?_
 cases h
 exact ⟨(),trivial,kw Z Z⟩
theorem dA (r_:au) (n:Int) (fe:Nat) {q} (h:bD r_ n=some q):fg Tryz.prog 45 [.hp 0 fe 2 0 0,I n] [some ⟨fe,2,99,[(au.c r_)]⟩] (I q.2) [some ⟨fe,2,99,[(au.c q.1)]⟩]:=by
 let d0:=((r_.p+V)-V);refine aM Tryz.func45 Z (by kernel_rfl) Z<|jI<|oN as'<|jA<|jI<|oN mv<|oN mv<|oN (nl Z)<|oN (fa Ai Z)<|oA (lh (I r_.p) Jo Z Z Z)<|jW h λg1 h=>oN (Jf.add Z Z g1)<|oN (nl Z)<|oN (fa Ai Z)<|oV (sr [eL cY r_.b,I (r_.p+V)] Jo Z Z Z Z)<|jA ?_;refine jH<|jI<|oN mv<|oN (Jf.ilt Z Z)<|oN mv ?_;refine TO.jB h 7 (λs2=>[(24,Bo s2),(0,.hp 0 fe 2 0 0),(1,I n)]) (λs2=>[some ⟨fe,2,99,[[eL cY r_.b,I (r_.p+V)]]⟩]) (λs2 q3 h js2=>?_) (λs2 q3 h js2=>?_) λs2 h=>?_
 ·refine gS Z q3<|gS Z q3<|gS Z q3<|gS Z q3<|gS Z q3<|gS Z q3<|oN (Jf.pickT Z q3 (Bo true) Z) ?_
  cases h
  exact js2 _ _<|kw Z Z
 ·refine gN Z q3 mv<|gN Z q3 (nl Z)<|gN Z q3 (fa Ai Z)<|gA Z q3 (lh (eL cY r_.b) vL Z Z Z)<|gN Z q3 (Jf.lenL mZ Z)<|gN Z q3 (Jf.ieq Z Z)<|oN (Jf.pickF Z q3 (Bo<|(r_.b.length:Int)==U) Z) ?_
  cases h
  exact js2 _ _<|kw Z Z
 refine jA ?_;refine jN Z h (λq4 h=>?_) λq4 h=>?_
 ·refine jI<|oN as'<|jA<|jK ?_;obtain rfl:=Jh h
  repeat (first|refine iZ ?_|refine i9 ?_)
  exact ⟨ax [(4,I U)],[some ⟨fe,2,99,[(au.c (⟨r_.b,(r_.p+V)⟩:au))]⟩],kw Z Z,jQ (vs:=[I U]) (.cons (.tmp Z) .nil) ⟨Z,Z⟩⟩
 refine jG<|jI<|oN mv<|oN (nl Z)<|oN (fa Ai Z)<|oA (lh (I<|r_.p+V) Jo Z Z Z)<|jW h λg5 h=>oN (Jf.sub Z Z g5)<|oN as'<|jA<|jH<|jI<|oN mv<|oN mv<|oN (nl Z)<|oN (fa Ai Z) ?_;refine oA (lh (eL cY r_.b) vL Z Z Z)<|oN (Jf.lenL mZ Z)<|oN (Jf.ilt Z Z)<|jA ?_;refine jN Z h (λq6 h=>?_) λq6 h=>?_
 ·refine jI<|oN mv<|oN (nl Z)<|oN (fa Ai Z)<|oA (lh (eL cY r_.b) vL Z Z Z)<|oN mv<|jD h λg7 h=>oN (Jf.ixL mZ Z Z g7 qD)<|oN (lf (Y<|J r_.b d0) Jp Z)<|jW h λg8 h=>oN (Jf.iconv Jp.und Tryz.underlying3 Z g8)<|oN mv<|jD h λg9 h=>oN (Jf.rem Z Z g9)<|oN as'<|jA ?_;refine jK ?_;obtain rfl:=Jh h
  repeat (first|refine iZ ?_|refine i9 ?_)
  exact ⟨ax [(4,I<|(J r_.b d0).tmod n)],[some ⟨fe,2,99,[(au.c (⟨r_.b,(r_.p+V)⟩:au))]⟩],kw Z Z,jQ (vs:=[I ((J r_.b d0).tmod n)]) (.cons (.tmp Z) .nil) ⟨Z,Z⟩⟩
 refine jG<|jH<|jP (dG [dF,dF,dF,([0],false),dF,dF,dF,dF,([0],false),dF,dF,dF,dF,dF,dF,dF,dF,dF,([0],false),dF,dF,dF,dF,dF,dF,([0],false),dF,dF,dF,dF,dF,dF,dF,dF,dF,dF,dF,dF,dF,dF,([0],false),dF,dF,dF,dF,dF]) (by kernel_rfl) (by kernel_rfl)<|fN Z mv<|fN Z (nl Z)<|fN Z (fa Ai Z)<|fR [0] Z (λG hG=>EvA.loadhp (eL cY r_.b) vL Z (hG.a0 Z) Z Z Z Z)<|fN Z mv<|fN Z mv<|fN Z (nl Z)<|fN Z (fa Ai Z)<|fR [0] Z (λG hG=>EvA.loadhp (eL cY r_.b) vL Z (hG.a0 Z) Z Z Z Z)<|fN Z (Jf.lenL mZ Z)<|jD h λg10 h=>fN Z (Jf.rem Z Z g10)<|jD h λg11 h=>?_;refine fN Z (Jf.ixL mZ Z Z g11 qD)<|fN Z (lf (Y<|J r_.b<|d0.tmod (r_.b.length:Int)) Jp Z)<|jW h λg12 h=>fN Z (Jf.iconv Jp.und Tryz.underlying3 Z g12)<|jW h λg13 h=>fN Z (Jf.mul Z Z g13)<|fN Z mv<|fN Z (nl Z)<|fN Z (fa Ai Z)<|fR [0] Z (λG hG=>EvA.loadhp (eL cY r_.b) vL Z (hG.a0 Z) Z Z Z Z)<|fN Z mv<|jW h λg14 h=>fN Z (Jf.mul Z Z g14)<|jW h λg15 h=>fN Z (Jf.add Z Z g15)<|fN Z mv ?_;refine fN Z (nl Z)<|fN Z (fa Ai Z)<|fR [0] Z (λG hG=>EvA.loadhp (eL cY r_.b) vL Z (hG.a0 Z) Z Z Z Z)<|fN Z (Jf.lenL mZ Z)<|fN Z (Jf.rem Z Z g10)<|jD h λg16 h=>fN Z (Jf.ixL mZ Z Z g16 qD)<|fN Z (lf (Y<|J r_.b<|((d0*(7:Int))+(3:Int)).tmod (r_.b.length:Int)) Jp Z)<|jW h λg17 h=>fN Z (Jf.iconv Jp.und Tryz.underlying3 Z g17)<|jW h λg18 h=>fN Z (Jf.mul Z Z g18)<|jW h λg19 h=>fN Z (Jf.add Z Z g19)<|fN Z mv<|jW h λg20 h=>?_;refine fN Z (Jf.mul Z Z g20)<|jW h λg21 h=>fN Z (Jf.add Z Z g21)<|fN Z mv<|fN Z mv<|fN Z (nl Z)<|fN Z (fa Ai Z)<|fR [0] Z (λG hG=>EvA.loadhp (eL cY r_.b) vL Z (hG.a0 Z) Z Z Z Z)<|fN Z (Jf.lenL mZ Z)<|jW h λg22 h=>fN Z (Jf.quo Z Z g10 g22)<|jW h λg23 h=>fN Z (Jf.mul Z Z g23)<|jW h λg24 h=>fN Z (Jf.add Z Z g24)<|fN Z as' ?_;refine jR<|jH<|T.clean (H0:=[some ⟨fe,2,99,[[eL cY r_.b,I (r_.p+V)]]⟩]) (e0:=ax [(6,I<|((((J r_.b<|d0.tmod (r_.b.length:Int))*(131:Int))+((J r_.b<|((d0*(7:Int))+(3:Int)).tmod (r_.b.length:Int))*(1117:Int)))+(d0*(29:Int)))+((d0.tdiv (r_.b.length:Int))*(53:Int))),(1,I n)]) Z (Je Z<|Je Z Jd)<|jC<|oN mv<|oN mv<|jD h λg25 h=>jW h λg26 h=>oN (Jf.quo Z Z g25 g26)<|jB h λw27 ew27 h=>?_;replace ew27:=osi ew27;refine oN (Jf.res (Jf.bxor Z Z) (r':=I w27) λ_ _ hr=>by rw [<- ew27];exact hr)<|oN as'<|jA<|jI<|oN mv<|oN mv<|jD h λg28 h=>oN (Jf.rem Z Z g28)<|oN as'<|jA<|jK ?_;obtain rfl:=Jh h
 repeat (first|refine iZ ?_|refine i9 ?_)
 exact ⟨ax [(4,I<|w27.tmod n)],[some ⟨fe,2,99,[(au.c (⟨r_.b,(r_.p+V)⟩:au))]⟩],kw Z Z,jQ (vs:=[I (w27.tmod n)]) (.cons (.tmp Z) .nil) ⟨Z,Z⟩⟩
theorem pz (r_:au) (list:LI) (fe:Nat) {q} (h:fq r_ list=some q):fg Tryz.prog 46 [.hp 0 fe 2 0 0,eL cI list] [some ⟨fe,2,99,[(au.c r_)]⟩] (I q.2) [some ⟨fe,2,99,[(au.c q.1)]⟩]:=by
 refine aM Tryz.func46 Z (by kernel_rfl) Z<|jI<|oN as'<|jA<|jI<|oN mv<|oN mv<|oN mv<|oN (Jf.lenL lg Z)<|jB h λv1 cv1 h=>oA (EvA.call Z Z Z<|(dA (⟨r_.b,r_.p⟩:au) (list.length:Int) fe cv1).one 0 Z (.cons (.hp Z)<|.cons (.pF Z) .nil) (bF Z) (bF Z) Z)<|jD h λg2 h=>oN (Jf.ixL lg Z Z g2 qD)<|oN (lf (I<|J list v1.2) Jo Z)<|oN as'<|jA ?_;refine jK ?_;obtain rfl:=Jh h
 repeat (first|refine iZ ?_|refine i9 ?_)
 exact ⟨ax [(4,I<|J list v1.2)],[some ⟨fe,2,99,[(au.c (⟨v1.1.b,v1.1.p⟩:au))]⟩],kw Z Z,jQ (vs:=[I (J list v1.2)]) (.cons (.tmp Z) .nil) ⟨Z,Z⟩⟩
theorem kX (r_:au) (list:List ByteArray) (fe:Nat) {q} (h:gu r_ list=some q):fg Tryz.prog 76 [.hp 0 fe 2 0 0,eL cS list] [some ⟨fe,2,99,[(au.c r_)]⟩] (St q.2) [some ⟨fe,2,99,[(au.c q.1)]⟩]:=by
 refine aM Tryz.func76 Z (by kernel_rfl) Z<|jI<|oN as'<|jA<|jI<|oN mv<|oN mv<|oN mv<|oN (Jf.lenL H5 Z)<|jB h λv1 cv1 h=>oA (EvA.call Z Z Z<|(dA (⟨r_.b,r_.p⟩:au) (list.length:Int) fe cv1).one 0 Z (.cons (.hp Z)<|.cons (.pF Z) .nil) (bF Z) (bF Z) Z)<|jD h λg2 h=>oN (Jf.ixL H5 Z Z g2 qD)<|oN (lf (St<|J list v1.2) ty9 Z)<|oN as'<|jA ?_;refine jK ?_;obtain rfl:=Jh h
 repeat (first|refine iZ ?_|refine i9 ?_)
 exact ⟨ax [(4,St<|J list v1.2)],[some ⟨fe,2,99,[(au.c (⟨v1.1.b,v1.1.p⟩:au))]⟩],kw Z Z,jQ (vs:=[St (J list v1.2)]) (.cons (.tmp Z) .nil) ⟨Z,Z⟩⟩
theorem nW {q} (h:gB=some q):aX Tryz.prog 48 [] (I q):=by
 refine aX.mkT Tryz.func48 Z (by kernel_rfl) Z (by kernel_rfl) (e0:=ax []) Jd<|jI<|oN as'<|jA<|jI<|oN as'<|jA<|jK ?_
 cases h
 exact f9 Z Z Z
theorem tC (x:Int) (low:Int) (high:Int) {q} (h:jv x low high=some q):aX Tryz.prog 47 [I x,I low,I high] (Bo q):=by
 refine pM Tryz.func47 Z (by kernel_rfl) Z<|jI<|oN as'<|jA<|jI<|oN mv<|oN mv<|oN (Jf.ige Z Z)<|oN mv ?_;refine TO.jB h 4 (λs1=>[(14,Bo s1)]) (λs1=>[]) (λs1 q2 h js1=>?_) (λs1 q2 h js1=>?_) λs1 h=>?_
 ·refine gN Z q2 mv<|gN Z q2 mv<|gN Z q2 (Jf.ile Z Z)<|oN (Jf.pickT Z q2 (Bo<|decide<|x<=high) Z) ?_
  cases h
  exact js1 _ _<|kw Z Z
 ·refine gS Z q2<|gS Z q2<|gS Z q2<|oN (Jf.pickF Z q2 (Bo false) Z) ?_
  cases h
  exact js1 _ _<|kw Z Z
 refine oN as'<|jA<|jK ?_
 cases h
 exact f9 Z Z Z
theorem nA {q} (h:fS=some q):aX Tryz.prog 92 [] (eL Ji.c q):=by
 refine aX.mkT Tryz.func92 Z (by kernel_rfl) Z (by kernel_rfl) (e0:=ax []) Jd<|jI<|oN as'<|jA<|jI<|oN (Jf.build [I (2:Int),I U,I U,I V] Tryz.underlying69 tF ko Z Z)<|oN (Jf.build [I (2:Int),I V,I U,I V] Tryz.underlying69 tF ko Z Z)<|oN (Jf.build [I V,I U,I U,I U] Tryz.underlying69 tF ko Z Z)<|oN (Jf.build [I V,I V,I V,I U] Tryz.underlying69 tF ko Z Z)<|oN (Jf.build [I (4:Int),I U,I U,I U] Tryz.underlying69 tF ko Z Z)<|oN (Jf.build [I (5:Int),I U,I (2:Int),I (2:Int)] Tryz.underlying69 tF ko Z Z)<|oN (Jf.mkF (c:=Ji.c) ([(⟨(2:Int),U,U,V⟩:Ji),(⟨(2:Int),V,U,V⟩:Ji),(⟨V,U,U,U⟩:Ji),(⟨V,V,V,U⟩:Ji),(⟨(4:Int),U,U,U⟩:Ji),(⟨(5:Int),U,(2:Int),(2:Int)⟩:Ji)]:List Ji) [[I (2:Int),I U,I U,I V],[I (2:Int),I V,I U,I V],[I V,I U,I U,I U],[I V,I V,I V,I U],[I (4:Int),I U,I U,I U],[I (5:Int),I U,I (2:Int),I (2:Int)]] sP Z Z Z qD Ji.isF Z)<|oN as'<|jA<|jK ?_
 cases h
 exact f9 Z Z Z
theorem pE (n:Int) {q} (h:ia n=some q):aX Tryz.prog 49 [I n] (eL (cL Ji.c) q):=by
 refine pM Tryz.func49 Z (by kernel_rfl) Z<|jI<|oN as'<|jA<|jI<|oC h (λ_=>nA) Z Z Z Z λv1 _ h=>oN as'<|jA<|jH<|jP (λ_=>([],false)) (by kernel_rfl) (by kernel_rfl)<|fN Z mv<|fN Z mv<|jD h λg2 h=>jW h λg3 h=>fN Z (Jf.quo Z Z g2 g3)<|jD h λg4 h=>?_;refine fN Z (Jf.ixL sP Z Z g4 qD)<|fN Z (lf (.agg<|Ji.c<|J v1<|n.tdiv (216:Int)) qi Z)<|fN Z mv<|fN Z mv<|jD h λg5 h=>jW h λg6 h=>fN Z (Jf.quo Z Z g5 g6)<|jD h λg7 h=>fN Z (Jf.rem Z Z g7)<|jD h λg8 h=>fN Z (Jf.ixL sP Z Z g8 qD)<|fN Z (lf (.agg<|Ji.c<|J v1<|(n.tdiv (36:Int)).tmod (6:Int)) qi Z)<|fN Z (Jf.mkF (c:=Ji.c) ([(J v1<|n.tdiv (216:Int)),(J v1<|(n.tdiv (36:Int)).tmod (6:Int))]:List Ji) [(Ji.c<|J v1<|n.tdiv (216:Int)),(Ji.c<|J v1<|(n.tdiv (36:Int)).tmod (6:Int))] sP Z Z Z qD Ji.isF Z)<|fN Z mv<|fN Z mv<|jW h λg9 h=>?_;refine fN Z (Jf.quo Z Z g7 g9)<|fN Z (Jf.rem Z Z g7)<|jD h λg10 h=>fN Z (Jf.ixL sP Z Z g10 qD)<|fN Z (lf (.agg<|Ji.c<|J v1<|(n.tdiv (6:Int)).tmod (6:Int)) qi Z)<|fN Z mv<|fN Z mv<|fN Z (Jf.rem Z Z g7)<|jD h λg11 h=>fN Z (Jf.ixL sP Z Z g11 qD)<|fN Z (lf (.agg<|Ji.c<|J v1<|n.tmod (6:Int)) qi Z)<|fN Z (Jf.mkF (c:=Ji.c) ([(J v1<|(n.tdiv (6:Int)).tmod (6:Int)),(J v1<|n.tmod (6:Int))]:List Ji) [(Ji.c<|J v1<|(n.tdiv (6:Int)).tmod (6:Int)),(Ji.c<|J v1<|n.tmod (6:Int))] sP Z Z Z qD Ji.isF Z)<|fN Z (Jf.mkF (c:=(cL Ji.c)) ([([(J v1<|n.tdiv (216:Int)),(J v1<|(n.tdiv (36:Int)).tmod (6:Int))]:List Ji),([(J v1<|(n.tdiv (6:Int)).tmod (6:Int)),(J v1<|n.tmod (6:Int))]:List Ji)]:List<|List Ji) [[eL Ji.c ([(J v1<|n.tdiv (216:Int)),(J v1<|(n.tdiv (36:Int)).tmod (6:Int))]:List Ji)],[eL Ji.c ([(J v1<|(n.tdiv (6:Int)).tmod (6:Int)),(J v1<|n.tmod (6:Int))]:List Ji)]] sO Z Z Z qD qD Z)<|fN Z as'<|jR<|jK ?_
 cases h
 exact f9 Z Z Z
theorem pG (n:Int) {q} (h:fu n=some q):aX Tryz.prog 13 [I n] (.tup [eL (cL Ji.c) q.1,Bo q.2]):=by
 refine pM Tryz.func13 Z (by kernel_rfl) Z<|jI<|oN as'<|oN as'<|jA<|jH<|jI<|oN mv<|oC h (λ_=>nW) Z Z Z Z λv1 _ h=>jW h λg2 h=>oN (Jf.sub Z Z g2)<|oC h (λ_=>tC _ _ _) Z Z Z Z λv3 _ h=>oN (Jf.not Z)<|jA ?_;refine jN Z h (λq4 h=>?_) λq4 h=>?_
 ·refine jI<|oN as'<|oN as'<|jA<|jK ?_;obtain rfl:=Jh h
  repeat (first|refine iZ ?_|refine i9 ?_)
  exact jQ (vs:=[.nil,Bo false]) (.cons (.tmp Z)<|.cons (.tmp Z) .nil)<|.tupL<|.cons .nil0<|.cons (qC Z) .nil
 refine jG<|jI<|oN mv<|oC h (λ_=>pE _) Z Z Z Z λv5 _ h=>oN as'<|oN as'<|jA<|jK ?_;obtain rfl:=Jh h
 repeat (first|refine iZ ?_|refine i9 ?_)
 exact jQ (vs:=[eL (cL Ji.c) v5,Bo true]) (.cons (.tmp Z)<|.cons (.tmp Z) .nil)<|.tupL<|.cons (qC Z)<|.cons (qC Z) .nil
theorem kG {q} (h:fA=some q):aX Tryz.prog 93 [] (eL Ji.c q):=by
 refine aX.mkT Tryz.func93 Z (by kernel_rfl) Z (by kernel_rfl) (e0:=ax []) Jd<|jI<|oN as'<|jA<|jI<|oN (Jf.build [I (2:Int),I U,I U,I V] Tryz.underlying69 tF ko Z Z)<|oN (Jf.build [I (2:Int),I V,I U,I V] Tryz.underlying69 tF ko Z Z)<|oN (Jf.build [I V,I U,I U,I U] Tryz.underlying69 tF ko Z Z)<|oN (Jf.build [I V,I V,I V,I U] Tryz.underlying69 tF ko Z Z)<|oN (Jf.build [I (4:Int),I U,I U,I U] Tryz.underlying69 tF ko Z Z)<|oN (Jf.build [I (5:Int),I U,I (2:Int),I (2:Int)] Tryz.underlying69 tF ko Z Z)<|oN (Jf.mkF (c:=Ji.c) ([(⟨(2:Int),U,U,V⟩:Ji),(⟨(2:Int),V,U,V⟩:Ji),(⟨V,U,U,U⟩:Ji),(⟨V,V,V,U⟩:Ji),(⟨(4:Int),U,U,U⟩:Ji),(⟨(5:Int),U,(2:Int),(2:Int)⟩:Ji)]:List Ji) [[I (2:Int),I U,I U,I V],[I (2:Int),I V,I U,I V],[I V,I U,I U,I U],[I V,I V,I V,I U],[I (4:Int),I U,I U,I U],[I (5:Int),I U,I (2:Int),I (2:Int)]] sP Z Z Z qD Ji.isF Z)<|oN as'<|jA<|jK ?_
 cases h
 exact f9 Z Z Z
theorem nX {q} (h:gD=some q):aX Tryz.prog 50 [] (I q):=by
 refine aX.mkT Tryz.func50 Z (by kernel_rfl) Z (by kernel_rfl) (e0:=ax []) Jd<|jI<|oN as'<|jA<|jI<|oC h (λ_=>kG) Z Z Z Z λv1 _ h=>oN (Jf.lenL sP Z)<|oN as'<|jA<|jI<|oN mv<|oN mv<|jW h λg2 h=>oN (Jf.mul Z Z g2)<|oN mv<|jW h λg3 h=>?_;refine oN (Jf.mul Z Z g3)<|oN mv<|jW h λg4 h=>oN (Jf.mul Z Z g4)<|oN as'<|jA<|jK ?_
 cases h
 exact f9 Z Z Z
theorem qW (n:Int) {q} (h:ja n=some q):aX Tryz.prog 51 [I n] (eL (cL Ji.c) q):=by
 refine pM Tryz.func51 Z (by kernel_rfl) Z<|jI<|oN as'<|jA<|jI<|oC h (λ_=>kG) Z Z Z Z λv1 _ h=>oN as'<|jA<|jI<|oN (Jf.mkF (c:=Ji.c) ([]:List Ji) [] sP Z Z Z qD Ji.isF Z)<|oN (Jf.mkF (c:=Ji.c) ([]:List Ji) [] sP Z Z Z qD Ji.isF Z)<|oA (EvA.mkO (c:=(cL Ji.c)) ([([]:List Ji),([]:List Ji)]:List<|List Ji) [[eL Ji.c ([]:List Ji)],[eL Ji.c ([]:List Ji)]] sO Z Z Z qD Z Z)<|oN (Jf.asg (hS false 0 0 1<|([([]:List Ji),([]:List Ji)]:List<|List Ji).length) Z)<|jA ?_;refine T.jF (G:=Nat) h (λs2 gh=>True) (λs2 gh=>[(4,hS false 0 gh 1 s2.length)]) (λs2 gh=>[bE false gh 1 66 (s2.map<|cL Ji.c)]) (λs2 u18 h hg=>?_) λs2 h=>?_
 ·refine jI<|oN mv<|oN (Jf.asg (hS false 0 u18 1 s2.length) Z)<|jA<|jK ?_;obtain rfl:=Jh h
  repeat (first|refine iZ ?_|refine i9 ?_)
  exact jQ (vs:=[hS false 0 u18 1 s2.length]) (.cons (.tmp Z) .nil)<|Fz.own (g:=false) (ver:=u18) (l:=s2) Z Z Z nofun qD
 refine jI<|oN as'<|jA<|jE ?_;refine jO (S:=(List<|List Ji)×Int×Int) (G:=Nat) (gF v1) (λs6 gh=>True) (λs6 gh=>[(5,I s6.2.1),(4,hS false 0 gh 1 s6.1.length),(3,eL Ji.c v1),(0,I s6.2.2)]) (λs6 gh=>[bE false gh 1 66 (s6.1.map<|cL Ji.c)]) (s0:=(([([]:List Ji),([]:List Ji)]:List<|List Ji),(3:Int),n)) 0 h trivial (kw Z Z) λs6 u8 ws6 h hg=>?_;refine jH<|jI<|oN mv<|oN (Jf.ige Z Z)<|jA ?_;refine jN Z h (λq9 h=>?_) λq9 h=>?_
 ·refine jG<|jH<|jE<|jH<|T.reserve<|jP (dG [dF,dF,dF,dF,dF,dF,dF,dF,dF,dF,([1],true),dF,dF,dF,dF,([0],false),([1],true),dF,([0],true)]) (by kernel_rfl) (by kernel_rfl)<|fN Z mv<|fN Z mv<|jD h λg10 h=>jW h λg11 h=>fN Z (Jf.quo Z Z g10 g11)<|fN Z mv<|fN Z mv<|fN Z mv<|fN Z (Jf.lenL sP Z)<|jD h λg12 h=>?_;refine fN Z (Jf.rem Z Z g12)<|jD h λg13 h=>fN Z (Jf.ixL sP Z Z g13 qD)<|fN Z (lf (.agg<|Ji.c<|J v1<|s6.2.2.tmod (v1.length:Int)) qi Z)<|fW 1 [] Z Z (λG hG=>EvA.mkOR (c:=Ji.c) 1 ([(J v1<|s6.2.2.tmod (v1.length:Int))]:List Ji) [(Ji.c<|J v1<|s6.2.2.tmod (v1.length:Int))] sP Z Z Z qD Ji.isF Z<|hG.a0 Z)<|fN Z mv<|fN Z mv<|fN Z (Jf.quo Z Z g10 g11)<|jD h λg14 h=>fN Z (Jf.ixO (g:=false) sO Z Z nofun g14)<|fR [0] Z (λG hG=>EvA.ldO (g:=false) (l:=s6.1) (eL Ji.c<|s6.1.getD ((s6.2.1.tdiv (2:Int)).toNat) default) FQ Z (hG.a0 Z) nofun (bu Z g14) Z)<|jL h λg15 h=>fW 1 [] Z Z (λG hG=>EvA.appF (l:=([(J v1<|s6.2.2.tmod (v1.length:Int))]:List Ji)) (s6.1.getD ((s6.2.1.tdiv (2:Int)).toNat) default) sP (by kernel_rfl) Z Z (hG.a0 Z) (bV.fz (l:=(s6.1.getD ((s6.2.1.tdiv (2:Int)).toNat) default)) Z qD) g15)<|fN Z (Jf.ixO (g:=false) sO Z Z nofun g14)<|fV 0 [] Z Z (λG hG=>EvA.stS (g:=false) (xs:=s6.1) (cs:=[hS false 1 (0+1) 4 ((([(J v1<|s6.2.2.tmod (v1.length:Int))]:List Ji)++(s6.1.getD ((s6.2.1.tdiv (2:Int)).toNat) default)).length)]) FQ Z Z (hG.a0 Z) nofun (bu Z g14) qD Z Z)<|jR ?_;refine T.cut (e0:=ax [(5,I s6.2.1),(4,hS false 0 u8 1<|(s6.1.set ((s6.2.1.tdiv (2:Int)).toNat)<|([(J v1<|s6.2.2.tmod (v1.length:Int))]:List Ji)++(s6.1.getD ((s6.2.1.tdiv (2:Int)).toNat) default)).length),(3,eL Ji.c v1),(0,I s6.2.2)]) (H0:=[bE false u8 1 66 ((s6.1.set ((s6.2.1.tdiv (2:Int)).toNat)<|([(J v1<|s6.2.2.tmod (v1.length:Int))]:List Ji)++(s6.1.getD ((s6.2.1.tdiv (2:Int)).toNat) default)).map<|cL Ji.c)]) (ww Z (.cons (.rows<|.setM (f:=(cL Ji.c)) (v:=(([(J v1<|s6.2.2.tmod (v1.length:Int))]:List Ji)++(s6.1.getD ((s6.2.1.tdiv (2:Int)).toNat) default))) qD (.cons (.fz<|Fz.own (g:=false) (ver:=0+1) (l:=(([(J v1<|s6.2.2.tmod (v1.length:Int))]:List Ji)++(s6.1.getD ((s6.2.1.tdiv (2:Int)).toNat) default))) Z Z Z nofun Ji.isF) .nil) s6.1<|(s6.2.1.tdiv (2:Int)).toNat) .nil)<|aF (.fz<|qC Z)<|aF (.eqv (congrArg (hS false 0 u8 1) (by simp:s6.1.length=(s6.1.set ((s6.2.1.tdiv (2:Int)).toNat)<|([(J v1<|s6.2.2.tmod (v1.length:Int))]:List Ji)++(s6.1.getD ((s6.2.1.tdiv (2:Int)).toNat) default)).length))<|.hS (g:=false) (b:=0) (ver:=u8) (s:=1) (n:=(s6.1.set ((s6.2.1.tdiv (2:Int)).toNat)<|([(J v1<|s6.2.2.tmod (v1.length:Int))]:List Ji)++(s6.1.getD ((s6.2.1.tdiv (2:Int)).toNat) default)).length) Z)<|aF (.fz<|qC Z)<|aF (.fz<|qC Z) fU)<|jC<|oN mv<|oN mv<|oN (Jf.lenL sP Z)<|jW h λg16 h=>oN (Jf.quo Z Z g12 g16)<|oN as'<|jA<|jC<|oN mv<|jW h λg17 h=>oN (Jf.sub Z Z g17)<|oN as'<|jA ?_;obtain rfl:=Jh h;exact ⟨((s6.1.set ((s6.2.1.tdiv (2:Int)).toNat)<|([(J v1<|s6.2.2.tmod (v1.length:Int))]:List Ji)++(s6.1.getD ((s6.2.1.tdiv (2:Int)).toNat) default)),(s6.2.1-V),(s6.2.2.tdiv (v1.length:Int))),u8,Z,trivial,kw Z Z⟩
 refine jM<|lX h λh=>?_
 cases h
 exact ⟨u8,trivial,kw Z Z⟩
theorem pI (n:Int) {q} (h:fB n=some q):aX Tryz.prog 14 [I n] (.tup [eL (cL Ji.c) q.1,Bo q.2]):=by
 refine pM Tryz.func14 Z (by kernel_rfl) Z<|jI<|oN as'<|oN as'<|jA<|jH<|jI<|oN mv<|oN (Jf.ilt Z Z)<|oN mv ?_;refine TO.jB h 4 (λs1=>[(10,Bo s1),(0,I n)]) (λs1=>[]) (λs1 q2 h js1=>?_) (λs1 q2 h js1=>?_) λs1 h=>?_
 ·refine gS Z q2<|gS Z q2<|gS Z q2<|oN (Jf.pickT Z q2 (Bo true) Z) ?_
  cases h
  exact js1 _ _<|kw Z Z
 ·refine gN Z q2 mv<|jB h λv3 cv3 h=>gN Z q2 (Jf.call Z Z Z (nX cv3) Z)<|gN Z q2 (Jf.ige Z Z)<|oN (Jf.pickF Z q2 (Bo<|decide<|v3<=n) Z) ?_
  cases h
  exact js1 _ _<|kw Z Z
 refine jA ?_;refine jN Z h (λq4 h=>?_) λq4 h=>?_
 ·refine jI<|oN (Jf.mkF (c:=(cL Ji.c)) ([]:List<|List Ji) [] sO Z Z Z qD qD Z)<|oN as'<|oN as'<|jA<|jK ?_;obtain rfl:=Jh h
  repeat (first|refine iZ ?_|refine i9 ?_)
  exact jQ (vs:=[eL (cL Ji.c) ([]:List<|List Ji),Bo false]) (.cons (.tmp Z)<|.cons (.tmp Z) .nil)<|.tupL<|.cons (qC Z)<|.cons (qC Z) .nil
 refine jG<|jI<|oN mv<|oC h (λ_=>qW _) Z Z Z Z λv5 _ h=>oN as'<|oN as'<|jA<|jK ?_;obtain rfl:=Jh h
 repeat (first|refine iZ ?_|refine i9 ?_)
 exact jQ (vs:=[eL (cL Ji.c) v5,Bo true]) (.cons (.tmp Z)<|.cons (.tmp Z) .nil)<|.tupL<|.cons (qC Z)<|.cons (qC Z) .nil
theorem kH (name:ByteArray) {q} (h:ib name=some q):aX Tryz.prog 57 [St name] (Bo q):=by
 refine pM Tryz.func57 Z (by kernel_rfl) Z<|jI<|oN as'<|jA<|jI<|oN mv<|oN (Jf.seq Z Z)<|oN mv ?_;refine TO.jB h 3 (λs1=>[(8,Bo s1),(0,St name)]) (λs1=>[]) (λs1 q2 h js1=>?_) (λs1 q2 h js1=>?_) λs1 h=>?_
 ·refine gS Z q2<|gS Z q2<|oN (Jf.pickT Z q2 (Bo true) Z) ?_
  cases h
  exact js1 _ _<|kw Z Z
 ·refine gN Z q2 mv<|gN Z q2 (Jf.seq Z Z)<|oN (Jf.pickF Z q2 (Bo<|decide<|name=(⟨#[116,115,111]⟩:ByteArray)) Z) ?_
  cases h
  exact js1 _ _<|kw Z Z
 refine oN mv ?_;refine TO.jB h 3 (λs3=>[(12,Bo s3),(0,St name)]) (λs3=>[]) (λs3 q4 h js3=>?_) (λs3 q4 h js3=>?_) λs3 h=>?_
 ·refine gS Z q4<|gS Z q4<|oN (Jf.pickT Z q4 (Bo true) Z) ?_
  cases h
  exact js3 _ _<|kw Z Z
 ·refine gN Z q4 mv<|gN Z q4 (Jf.seq Z Z)<|oN (Jf.pickF Z q4 (Bo<|decide<|name=(⟨#[112,115,111]⟩:ByteArray)) Z) ?_
  cases h
  exact js3 _ _<|kw Z Z
 refine oN mv ?_;refine TO.jB h 3 (λs5=>[(16,Bo s5)]) (λs5=>[]) (λs5 q6 h js5=>?_) (λs5 q6 h js5=>?_) λs5 h=>?_
 ·refine gS Z q6<|gS Z q6<|oN (Jf.pickT Z q6 (Bo true) Z) ?_
  cases h
  exact js5 _ _<|kw Z Z
 ·refine gN Z q6 mv<|gN Z q6 (Jf.seq Z Z)<|oN (Jf.pickF Z q6 (Bo<|decide<|name=(⟨#[114,97]⟩:ByteArray)) Z) ?_
  cases h
  exact js5 _ _<|kw Z Z
 refine oN as'<|jA<|jK ?_
 cases h
 exact f9 Z Z Z
theorem nY (x:LI) (a1:LI) {q} (h:iS x a1=some q):aX Tryz.prog 97 [eL cI x,.fp ((cL cI) a1) 0] (Bo q):=by
 refine pM Tryz.func97 Z (by kernel_rfl) Z<|jI<|oN as'<|jA<|jI<|oN mv<|oN (lf (eL cI a1) wW Z)<|oC h (λ_=>iw _ _) Z Z Z Z λv1 _ h=>oN as'<|jA<|jK ?_
 cases h
 exact f9 Z Z Z
theorem ez (s:LL) (f0:LI) {q} (h:bq s f0=some q):aX Tryz.prog 117 [eL (cL cI) s,.fn (.func 97) [.fp ((cL cI) f0) 0]] (I q):=by
 refine pM Tryz.func117 Z (by kernel_rfl) Z<|jI<|oN as'<|jA ?_;obtain ⟨Ks1,es1,ws1,h,ks1⟩:=Ag h;refine T.join (S:=Unit) (G:=Unit) (λs1=>Ks1 s1=some q) (λs1 gh=>True) (λs1 gh=>[]) (λs1 gh=>[]) (λs1 gh h hg=>?_) ?_
 ·clear ks1;subst es1;refine jI<|oN as'<|jA<|jK ?_
  cases h
  exact f9 Z Z Z
 refine jI<|oN mv<|oN (Jf.lenL qj Z)<|oN mv<|jA<|jE ?_;refine T.lU h (λs4=>[(8,I s4),(7,I (s.length:Int)),(0,eL (cL cI) s),(1,.fn (.func 97) [.fp ((cL cI) f0) 0])]) (λs4=>[]) (kw Z Z) λs4 ws4 h=>?_;refine jI<|oN (Jf.ilt Z Z)<|jA<|jH ?_;refine jN Z h (λq6 h=>?_) λq6 h=>?_
 ·refine jG<|jH<|jE<|jI<|oN mv<|oN as'<|jA<|jI<|oN mv<|oN mv<|oN mv<|jD h λg7 h=>oN (Jf.ixL qj Z Z g7 qD)<|oN (lf (eL cI<|J s s4) wW Z)<|oC h (λ_=>nY _ _) Z Z Z Z λv8 _ h=>jA ?_;refine jN Z h (λq9 h=>?_) λq9 h=>?_
  ·refine jI<|oN mv<|oN as'<|jA<|jK<|lX h λh=>?_;obtain rfl:=Jh h;replace h:=congrArg some (show _=_ from ks1)
   cases h
   exact f9 Z Z Z
  refine jG<|jC<|jW h λg10 h=>oN (Jf.add Z Z g10)<|oN mv<|jA ?_;exact lE h<|kw Z Z
 refine jM<|lX h λh=>?_
 cases h
 exact ⟨(),(),ks1,trivial,kw Z Z⟩
theorem dP (s:LL) (f0:LI) {q} (h:aP s f0=some q):aX Tryz.prog 96 [eL (cL cI) s,.fn (.func 97) [.fp ((cL cI) f0) 0]] (Bo q):=by
 refine pM Tryz.func96 Z (by kernel_rfl) Z<|jI<|oN as'<|jA<|jI<|oN mv<|oN mv<|oC h (λ_=>ez _ _) Z Z Z Z λv1 _ h=>oN (Jf.ige Z Z)<|oN as'<|jA<|jK ?_
 cases h
 exact f9 Z Z Z
theorem kY (a:LL) (b:LL) {q} (h:gy a b=some q):aX Tryz.prog 59 [eL (cL cI) a,eL (cL cI) b] (Bo q):=by
 refine pM Tryz.func59 Z (by kernel_rfl) Z<|jI<|oN as'<|jA ?_;obtain ⟨Ks1,es1,ws1,h,ks1⟩:=Ag h;refine T.join (S:=Unit) (G:=Unit) (λs1=>Ks1 s1=some q) (λs1 gh=>True) (λs1 gh=>[]) (λs1 gh=>[]) (λs1 gh h hg=>?_) ?_
 ·clear ks1;subst es1;refine jI<|oN as'<|jA<|jK ?_
  cases h
  exact f9 Z Z Z
 refine jI<|oN mv<|oN (Jf.lenL qj Z)<|oN mv<|jA<|jE ?_;refine T.lU h (λs4=>[(9,I s4),(8,I (a.length:Int)),(7,eL (cL cI) a),(1,eL (cL cI) b)]) (λs4=>[]) (kw Z Z) λs4 ws4 h=>?_;refine jI<|oN (Jf.ilt Z Z)<|jA<|jH ?_;refine jN Z h (λq6 h=>?_) λq6 h=>?_
 ·refine jG<|jH<|jE<|jI<|jD h λg7 h=>oN (Jf.ixL qj Z Z g7 qD)<|oN (lf (eL cI<|J a s4) wW Z)<|oA (EvA.al IU Z Z)<|oV (sr [eL cI (J a s4)] wW Z Z Z Z)<|TO.cut (e0:=ax [(6,.fp ((cL cI)<|J a s4) 0),(9,I s4),(8,I (a.length:Int)),(7,eL (cL cI) a),(1,eL (cL cI) b)]) (H0:=[]) (ww Z .nil<|aF (.fz<|Fz.fpL (ver:=0) (s:=1) (ty:=41) (rows:=[[eL cI (J a s4)]]) Z Z Z<|.cons (qC Z) .nil)<|aF (.fz<|qC Z)<|aF (.fz<|qC Z)<|aF (.fz<|qC Z)<|aF (.fz<|qC Z) fU)<|jA<|jI<|oN mv<|oN (Jf.mkfn [.fp ((cL cI)<|J a s4) 0] Z Z)<|oC h (λ_=>dP _ _) Z Z Z Z λv8 _ h=>oN (Jf.not Z) ?_;refine jA ?_;refine jN Z h (λq9 h=>?_) λq9 h=>?_
  ·refine jI<|oN as'<|jA<|jK<|lX h λh=>?_;obtain rfl:=Jh h;replace h:=congrArg some (show _=_ from ks1)
   cases h
   exact f9 Z Z Z
  refine jG<|jC<|jW h λg10 h=>oN (Jf.add Z Z g10)<|oN mv<|jA ?_;exact lE h<|kw Z Z
 refine jM<|lX h λh=>?_
 cases h
 exact ⟨(),(),ks1,trivial,kw Z Z⟩
theorem kZ (a:LL) (b:LL) {q} (h:dC a b=some q):aX Tryz.prog 58 [eL (cL cI) a,eL (cL cI) b] (I q):=by
 refine pM Tryz.func58 Z (by kernel_rfl) Z<|jI<|oN as'<|jA<|jI<|oN mv<|oN mv<|oC h (λ_=>kY _ _) Z Z Z Z λv1 _ h=>oN mv<|oN mv<|oC h (λ_=>kY _ _) Z Z Z Z λv2 _ h=>oN as'<|oN as'<|jA<|jH<|jE ?_;refine jI<|oN mv<|oN mv ?_;refine TO.jB h 2 (λs3=>[(17,Bo s3),(6,Bo v2),(5,Bo v1)]) (λs3=>[]) (λs3 q4 h js3=>?_) (λs3 q4 h js3=>?_) λs3 h=>?_
 ·refine gN Z q4 mv<|oN (Jf.pickT Z q4 (Bo v2) Z) ?_
  cases h
  exact js3 _ _<|kw Z Z
 ·refine gS Z q4<|oN (Jf.pickF Z q4 (Bo false) Z) ?_
  cases h
  exact js3 _ _<|kw Z Z
 refine oN as'<|jA ?_;refine jN Z h (λq5 h=>?_) λq5 h=>?_
 ·refine jI<|oN as'<|jA<|jK ?_
  cases h
  exact f9 Z Z Z
 refine jI<|oN mv<|oN as'<|jA ?_;refine jN Z h (λq6 h=>?_) λq6 h=>?_
 ·refine jI<|oN as'<|jA<|jK ?_
  cases h
  exact f9 Z Z Z
 refine jI<|oN mv<|oN as'<|jA ?_;refine jN Z h (λq7 h=>?_) λq7 h=>?_
 ·refine jI<|oN as'<|jA<|jK ?_
  cases h
  exact f9 Z Z Z
 refine jG<|jI<|oN as'<|jA<|jK ?_
 cases h
 exact f9 Z Z Z
theorem nZ (p:List<|List Ji) (a:ByteArray) (b:ByteArray) {q} (h:gG p a b=some q):aX Tryz.prog 17 [eL (cL Ji.c) p,St a,St b] (Bo q):=by
 refine pM Tryz.func17 Z (by kernel_rfl) Z<|jI<|oN as'<|jA<|jI<|oN mv<|oC h (λ_=>dO _) Z Z Z Z λv1 _ h=>oN mv ?_;refine TO.jB h 3 (λs2=>[(12,Bo s2),(0,eL (cL Ji.c) p),(1,St a),(2,St b)]) (λs2=>[]) (λs2 q3 h js2=>?_) (λs2 q3 h js2=>?_) λs2 h=>?_
 ·refine gN Z q3 mv<|jB h λv4 cv4 h=>gN Z q3 (Jf.call Z Z Z (kH a cv4) Z)<|oN (Jf.pickT Z q3 (Bo v4) Z) ?_
  cases h
  exact js2 _ _<|kw Z Z
 ·refine gS Z q3<|gS Z q3<|oN (Jf.pickF Z q3 (Bo false) Z) ?_
  cases h
  exact js2 _ _<|kw Z Z
 refine oN mv ?_;refine TO.jB h 3 (λs5=>[(16,Bo s5),(0,eL (cL Ji.c) p),(1,St a),(2,St b)]) (λs5=>[]) (λs5 q6 h js5=>?_) (λs5 q6 h js5=>?_) λs5 h=>?_
 ·refine gN Z q6 mv<|jB h λv7 cv7 h=>gN Z q6 (Jf.call Z Z Z (kH b cv7) Z)<|oN (Jf.pickT Z q6 (Bo v7) Z) ?_
  cases h
  exact js5 _ _<|kw Z Z
 ·refine gS Z q6<|gS Z q6<|oN (Jf.pickF Z q6 (Bo false) Z) ?_
  cases h
  exact js5 _ _<|kw Z Z
 refine oN mv ?_;refine TO.jB h 9 (λs8=>[(26,Bo s8)]) (λs8=>[]) (λs8 q9 h js8=>?_) (λs8 q9 h js8=>?_) λs8 h=>?_
 ·refine gN Z q9 mv<|gN Z q9 mv<|jB h λv10 cv10 h=>gN Z q9 (Jf.call Z Z Z (cT p a cv10) Z)<|gN Z q9 mv<|gN Z q9 mv<|jB h λv11 cv11 h=>gN Z q9 (Jf.call Z Z Z (cT p b cv11) Z)<|jB h λv12 cv12 h=>gN Z q9 (Jf.call Z Z Z (kZ v10 v11 cv12) Z)<|gN Z q9 (Jf.ine Z Z)<|oN (Jf.pickT Z q9 (Bo<|v12 != U) Z) ?_
  cases h
  exact js8 _ _<|kw Z Z
 ·refine gS Z q9<|gS Z q9<|gS Z q9<|gS Z q9<|gS Z q9<|gS Z q9<|gS Z q9<|gS Z q9<|oN (Jf.pickF Z q9 (Bo false) Z) ?_
  cases h
  exact js8 _ _<|kw Z Z
 refine oN as'<|jA<|jK ?_
 cases h
 exact f9 Z Z Z
theorem nB (r_:au) (fe:Nat) {q} (h:iI r_=some q):fg Tryz.prog 60 [.hp 0 fe 2 0 0] [some ⟨fe,2,99,[(au.c r_)]⟩] (.tup [St q.2.1,St q.2.2]) [some ⟨fe,2,99,[(au.c q.1)]⟩]:=by
 refine aM Tryz.func60 Z (by kernel_rfl) Z<|jI<|oN as'<|oN as'<|jA<|jI<|oN mv<|oN (Jf.mkF (c:=cS) ([(⟨#[115,101,113]⟩:ByteArray),(⟨#[116,115,111]⟩:ByteArray),(⟨#[112,115,111]⟩:ByteArray),(⟨#[114,97]⟩:ByteArray),(⟨#[120]⟩:ByteArray)]:List ByteArray) [[St (⟨#[115,101,113]⟩:ByteArray)],[St (⟨#[116,115,111]⟩:ByteArray)],[St (⟨#[112,115,111]⟩:ByteArray)],[St (⟨#[114,97]⟩:ByteArray)],[St (⟨#[120]⟩:ByteArray)]] H5 Z Z Z qD qD Z)<|jB h λv1 cv1 h=>oA (EvA.call Z Z Z<|(kX (⟨r_.b,r_.p⟩:au) ([(⟨#[115,101,113]⟩:ByteArray),(⟨#[116,115,111]⟩:ByteArray),(⟨#[112,115,111]⟩:ByteArray),(⟨#[114,97]⟩:ByteArray),(⟨#[120]⟩:ByteArray)]:List ByteArray) fe cv1).one 0 Z (.cons (.hp Z)<|.cons (.pF Z) .nil) (bF Z) (bF Z) Z)<|oN as'<|jA<|jI<|oN mv<|oN mv<|oN (Jf.mkF (c:=cS) ([(⟨#[116,115,111]⟩:ByteArray),(⟨#[112,115,111]⟩:ByteArray),(⟨#[114,97]⟩:ByteArray),(⟨#[115,101,113]⟩:ByteArray),(⟨#[]⟩:ByteArray)]:List ByteArray) [[St (⟨#[116,115,111]⟩:ByteArray)],[St (⟨#[112,115,111]⟩:ByteArray)],[St (⟨#[114,97]⟩:ByteArray)],[St (⟨#[115,101,113]⟩:ByteArray)],[St (⟨#[]⟩:ByteArray)]] H5 Z Z Z qD qD Z) ?_;refine jB h λv2 cv2 h=>oA (EvA.call Z Z Z<|(kX (⟨v1.1.b,v1.1.p⟩:au) ([(⟨#[116,115,111]⟩:ByteArray),(⟨#[112,115,111]⟩:ByteArray),(⟨#[114,97]⟩:ByteArray),(⟨#[115,101,113]⟩:ByteArray),(⟨#[]⟩:ByteArray)]:List ByteArray) fe cv2).one 0 Z (.cons (.hp Z)<|.cons (.pF Z) .nil) (bF Z) (bF Z) Z)<|oN as'<|oN as'<|jA<|jK ?_;obtain rfl:=Jh h
 repeat (first|refine iZ ?_|refine i9 ?_)
 exact ⟨ax [(2,St v1.2),(3,St v2.2)],[some ⟨fe,2,99,[(au.c (⟨v2.1.b,v2.1.p⟩:au))]⟩],kw Z Z,jQ (vs:=[St v1.2,St v2.2]) (.cons (.tmp Z)<|.cons (.tmp Z) .nil) ⟨Z,Z⟩⟩
theorem l7 (code:LI) {q} (h:dV code=some q):aX Tryz.prog 19 [eL cY code] (.tup [I q.1,St q.2.1,St q.2.2]):=by
 refine pM Tryz.func19 Z (by kernel_rfl) Z<|jI<|oN as'<|oN as'<|oN as'<|jA<|jI<|oN mv<|jB h λv1 cv1 h=>oA (EvA.call Z Z Z<|(qV code cv1).fresh Z (bF Z) 0 Z)<|oN as'<|jA<|jI<|oN mv<|jB h λv2 cv2 h=>oA (EvA.call Z Z Z<|(dA (⟨v1.b,v1.p⟩:au) (36:Int) 0 cv2).one 0 Z (.cons (.hp Z)<|.cons (.pF Z) .nil) (bF Z) (bF Z) Z) ?_;refine jW h λg3 h=>oN (Jf.mul Z Z g3)<|oN mv<|jB h λv4 cv4 h=>oA (EvA.call Z Z Z<|(dA (⟨v2.1.b,v2.1.p⟩:au) (36:Int) 0 cv4).one 0 Z (.cons (.hp Z)<|.cons (.pF Z) .nil) (bF Z) (bF Z) Z)<|jW h λg5 h=>oN (Jf.add Z Z g5)<|oN as'<|jA ?_;refine T.jU h (λs6=>[(6,I s6.2.2),(5,.hp 0 0 2 0 0)]) (λs6=>[some ⟨0,2,99,[[eL cY s6.1,I s6.2.1]]⟩]) (λs6 h=>?_) λs6 h=>?_
 ·refine jI<|oN mv<|jB h λv10 cv10 h=>oA (EvA.call Z Z Z<|(nB (⟨s6.1,s6.2.1⟩:au) 0 cv10).one 0 Z (.cons (.hp Z) .nil) (bF Z) (bF Z) Z)<|oN mv<|oN (Jf.ext (St v10.2.1) Z Z)<|oN (Jf.ext (St v10.2.2) Z Z)<|oN as'<|oN as'<|jA<|jI<|oN mv<|oN mv<|oN mv<|oN as'<|oN as' ?_;refine oN as'<|jA<|jK ?_;obtain rfl:=Jh h
  repeat (first|refine iZ ?_|refine i9 ?_)
  exact jQ (vs:=[I s6.2.2,St v10.2.1,St v10.2.2]) (.cons (.tmp Z)<|.cons (.tmp Z)<|.cons (.tmp Z) .nil)<|.tupL<|.cons (qC Z)<|.cons (qC Z)<|.cons (qC Z) .nil
 refine jI<|oN mv<|jB h λv7 cv7 h=>oA (EvA.call Z Z Z<|(dA (⟨v4.1.b,v4.1.p⟩:au) (10:Int) 0 cv7).one 0 Z (.cons (.hp Z)<|.cons (.pF Z) .nil) (bF Z) (bF Z) Z)<|oN (Jf.ieq Z Z)<|jA ?_;refine jN Z h (λq8 h=>?_) λq8 h=>?_
 ·refine T.clean (H0:=[some ⟨0,2,99,[(au.c v7.1)]⟩]) (e0:=ax [(5,.hp 0 0 2 0 0)]) Z (Je Z Jd)<|jC<|oN mv<|oN (Jf.mkF (c:=cI) ([(-1:Int),(1296:Int),(1290:Int)]:LI) [[I (-1:Int)],[I (1296:Int)],[I (1290:Int)]] lg Z Z Z qD qD Z)<|jB h λv9 cv9 h=>oA (EvA.call Z Z Z<|(pz (⟨v7.1.b,v7.1.p⟩:au) ([(-1:Int),(1296:Int),(1290:Int)]:LI) 0 cv9).one 0 Z (.cons (.hp Z)<|.cons (.pF Z) .nil) (bF Z) (bF Z) Z)<|oN as'<|jA ?_
  cases h
  exact ⟨(),trivial,kw Z Z⟩
 refine jG ?_
 cases h
 exact ⟨(),trivial,kw Z Z⟩
theorem tE (a:LI) (b:LI) {q} (h:jw a b=some q):aX Tryz.prog 64 [eL cI a,eL cI b] (Bo q):=by
 refine pM Tryz.func64 Z (by kernel_rfl) Z<|jI<|oN as'<|jA<|jH<|jI<|oN mv<|oN (Jf.lenL lg Z)<|oN mv<|oN (Jf.lenL lg Z)<|oN (Jf.ine Z Z)<|jA ?_;refine jN Z h (λq1 h=>?_) λq1 h=>?_
 ·refine jI<|oN as'<|jA<|jK ?_
  cases h
  exact f9 Z Z Z
 refine jG ?_;obtain ⟨Ks2,es2,ws2,h,ks2⟩:=Ag h;refine T.join (S:=Unit) (G:=Unit) (λs2=>Ks2 s2=some q) (λs2 gh=>True) (λs2 gh=>[]) (λs2 gh=>[]) (λs2 gh h hg=>?_) ?_
 ·clear ks2;subst es2;refine jI<|oN as'<|jA<|jK ?_
  cases h
  exact f9 Z Z Z
 refine jI<|oN as'<|jA<|jE ?_;refine T.lU h (λs5=>[(5,I s5),(0,eL cI a),(1,eL cI b)]) (λs5=>[]) (kw Z Z) λs5 ws5 h=>?_;refine jH<|jI<|oN mv<|oN mv<|oN (Jf.lenL lg Z)<|oN (Jf.ilt Z Z)<|jA ?_;refine jN Z h (λq7 h=>?_) λq7 h=>?_
 ·refine jG<|jH<|jE<|jH<|jP (λ_=>([],false)) (by kernel_rfl) (by kernel_rfl)<|fN Z mv<|fN Z mv<|jD h λg8 h=>fN Z (Jf.ixL lg Z Z g8 qD)<|fN Z (lf (I<|J a s5) Jo Z)<|fN Z mv<|fN Z mv<|jD h λg9 h=>fN Z (Jf.ixL lg Z Z g9 qD)<|fN Z (lf (I<|J b s5) Jo Z)<|fN Z (Jf.ine Z Z) ?_;refine jR ?_;refine jN Z h (λq10 h=>?_) λq10 h=>?_
  ·refine jH<|T.clean (H0:=[]) (e0:=ax []) Z Jd<|jC<|oN as'<|jA<|jK<|lX h λh=>?_;obtain rfl:=Jh h;replace h:=congrArg some (show _=_ from ks2)
   cases h
   exact f9 Z Z Z
  refine jG<|jC<|oN mv<|jW h λg11 h=>oN (Jf.add Z Z g11)<|oN as'<|jA ?_;exact lE h<|kw Z Z
 refine jM<|lX h λh=>?_
 cases h
 exact ⟨(),(),ks2,trivial,kw Z Z⟩
theorem qX (a:LL) (b:LL) {q} (h:jb a b=some q):aX Tryz.prog 21 [eL (cL cI) a,eL (cL cI) b] (Bo q):=by
 refine pM Tryz.func21 Z (by kernel_rfl) Z<|jI<|oN as'<|jA<|jH<|jI<|oN mv<|oN (Jf.lenL qj Z)<|oN mv<|oN (Jf.lenL qj Z)<|oN (Jf.ine Z Z)<|jA ?_;refine jN Z h (λq1 h=>?_) λq1 h=>?_
 ·refine jI<|oN as'<|jA<|jK ?_
  cases h
  exact f9 Z Z Z
 refine jG ?_;obtain ⟨Ks2,es2,ws2,h,ks2⟩:=Ag h;refine T.join (S:=Unit) (G:=Unit) (λs2=>Ks2 s2=some q) (λs2 gh=>True) (λs2 gh=>[]) (λs2 gh=>[]) (λs2 gh h hg=>?_) ?_
 ·clear ks2;subst es2;refine jI<|oN as'<|jA<|jK ?_
  cases h
  exact f9 Z Z Z
 refine jI<|oN as'<|jA<|jE ?_;refine T.lU h (λs5=>[(5,I s5),(0,eL (cL cI) a),(1,eL (cL cI) b)]) (λs5=>[]) (kw Z Z) λs5 ws5 h=>?_;refine jH<|jI<|oN mv<|oN mv<|oN (Jf.lenL qj Z)<|oN (Jf.ilt Z Z)<|jA ?_;refine jN Z h (λq7 h=>?_) λq7 h=>?_
 ·refine jG<|jH<|jE<|jH<|jP (λ_=>([],false)) (by kernel_rfl) (by kernel_rfl)<|fN Z mv<|fN Z mv<|jD h λg8 h=>fN Z (Jf.ixL qj Z Z g8 qD)<|fN Z (lf (eL cI<|J a s5) wW Z)<|fN Z mv<|fN Z mv<|jD h λg9 h=>fN Z (Jf.ixL qj Z Z g9 qD)<|fN Z (lf (eL cI<|J b s5) wW Z)<|fC h (λ_=>tE _ _) Z Z Z Z Z λv10 _ h=>?_;refine fN Z (Jf.not Z)<|jR ?_;refine jN Z h (λq11 h=>?_) λq11 h=>?_
  ·refine jH<|T.clean (H0:=[]) (e0:=ax []) Z Jd<|jC<|oN as'<|jA<|jK<|lX h λh=>?_;obtain rfl:=Jh h;replace h:=congrArg some (show _=_ from ks2)
   cases h
   exact f9 Z Z Z
  refine jG<|jC<|oN mv<|jW h λg12 h=>oN (Jf.add Z Z g12)<|oN as'<|jA ?_;exact lE h<|kw Z Z
 refine jM<|lX h λh=>?_
 cases h
 exact ⟨(),(),ks2,trivial,kw Z Z⟩
theorem lN (code:LI) {q} (h:cK code=some q):aX Tryz.prog 4 [eL cY code] (Bo q):=by
 refine pM Tryz.func4 Z (by kernel_rfl) Z<|jI<|oN as'<|jA<|jH<|jI<|oN mv<|oN (Jf.lenL mZ Z)<|oN (Jf.igt Z Z)<|jA ?_;refine jN Z h (λq1 h=>?_) λq1 h=>?_
 ·refine jI<|oN as'<|jA<|jK ?_
  cases h
  exact f9 Z Z Z
 refine jG<|jI<|oN mv<|oC h (λ_=>l7 _) Z Z Z Z λv2 _ h=>oN mv<|oN (Jf.ext (I v2.1) Z Z)<|oN (Jf.ext (St v2.2.1) Z Z)<|oN (Jf.ext (St v2.2.2) Z Z)<|oN as'<|oN as'<|oN as'<|jA<|jI<|oN mv<|oC h (λ_=>pG _) Z Z Z Z λv3 _ h=>oN mv ?_;refine oN (Jf.ext (eL (cL Ji.c) v3.1) Z Z)<|oN (Jf.ext (Bo v3.2) Z Z)<|oN as'<|oN as'<|jA<|jH<|T.clean (H0:=[]) (e0:=ax [(7,Bo v3.2),(6,eL (cL Ji.c) v3.1),(5,St v2.2.2),(4,St v2.2.1),(3,I v2.1)]) Z (Je Z<|Je Z<|Je Z<|Je Z<|Je Z Jd)<|jC<|oN mv<|oC h (λ_=>pI _) Z Z Z Z λv4 _ h=>oN mv<|oN (Jf.ext (eL (cL Ji.c) v4.1) Z Z)<|oN (Jf.ext (Bo v4.2) Z Z)<|oN as'<|oN as'<|jA ?_;refine jH<|jI<|oN mv<|oN mv<|oN (Jf.bne bt4 Z Z)<|oN mv ?_;refine TO.jB h 5 (λs5=>[(39,Bo s5),(9,Bo v4.2),(8,eL (cL Ji.c) v4.1),(7,Bo v3.2),(6,eL (cL Ji.c) v3.1),(5,St v2.2.2),(4,St v2.2.1)]) (λs5=>[]) (λs5 q6 h js5=>?_) (λs5 q6 h js5=>?_) λs5 h=>?_
 ·refine gS Z q6<|gS Z q6<|gS Z q6<|gS Z q6<|oN (Jf.pickT Z q6 (Bo true) Z) ?_
  cases h
  exact js5 _ _<|kw Z Z
 ·refine gN Z q6 mv<|gN Z q6 mv<|jB h λv7 cv7 h=>gN Z q6 (Jf.call Z Z Z (jp v3.1 v4.1 cv7) Z)<|gN Z q6 (Jf.not Z)<|oN (Jf.pickF Z q6 (Bo<|!v7) Z) ?_
  cases h
  exact js5 _ _<|kw Z Z
 refine oN mv ?_;refine TO.jB h 3 (λs8=>[(43,Bo s8),(9,Bo v4.2),(8,eL (cL Ji.c) v4.1),(7,Bo v3.2),(6,eL (cL Ji.c) v3.1),(5,St v2.2.2),(4,St v2.2.1)]) (λs8=>[]) (λs8 q9 h js8=>?_) (λs8 q9 h js8=>?_) λs8 h=>?_
 ·refine gS Z q9<|gS Z q9<|oN (Jf.pickT Z q9 (Bo true) Z) ?_
  cases h
  exact js8 _ _<|kw Z Z
 ·refine gN Z q9 mv<|gN Z q9 (Jf.not Z)<|oN (Jf.pickF Z q9 (Bo<|!v3.2) Z) ?_
  cases h
  exact js8 _ _<|kw Z Z
 refine jA ?_;refine jN Z h (λq10 h=>?_) λq10 h=>?_
 ·refine jI<|oN mv<|oN mv<|oN (Jf.beq bt4 Z Z)<|oN mv ?_;refine TO.jB h 4 (λs11=>[(51,Bo s11)]) (λs11=>[]) (λs11 q12 h js11=>?_) (λs11 q12 h js11=>?_) λs11 h=>?_
  ·refine gN Z q12 mv<|gN Z q12 mv<|jB h λv13 cv13 h=>gN Z q12 (Jf.call Z Z Z (jp v3.1 v4.1 cv13) Z)<|oN (Jf.pickT Z q12 (Bo v13) Z) ?_
   cases h
   exact js11 _ _<|kw Z Z
  ·refine gS Z q12<|gS Z q12<|gS Z q12<|oN (Jf.pickF Z q12 (Bo false) Z) ?_
   cases h
   exact js11 _ _<|kw Z Z
  refine oN as'<|jA<|jK ?_
  cases h
  exact f9 Z Z Z
 refine jG<|jI<|oN mv<|oN mv<|oC h (λ_=>cT _ _) Z Z Z Z λv14 _ h=>oN as'<|jA<|jI<|oN mv<|oN mv<|oC h (λ_=>cT _ _) Z Z Z Z λv15 _ h=>oN as'<|jA<|jI<|oN mv<|oN (Jf.lenL qj Z) ?_;refine oN (Jf.ieq Z Z)<|oN mv ?_;refine TO.jB h 4 (λs16=>[(65,Bo s16),(11,eL (cL cI) v15),(10,eL (cL cI) v14),(6,eL (cL Ji.c) v3.1),(5,St v2.2.2),(4,St v2.2.1)]) (λs16=>[]) (λs16 q17 h js16=>?_) (λs16 q17 h js16=>?_) λs16 h=>?_
 ·refine gS Z q17<|gS Z q17<|gS Z q17<|oN (Jf.pickT Z q17 (Bo true) Z) ?_
  cases h
  exact js16 _ _<|kw Z Z
 ·refine gN Z q17 mv<|gN Z q17 (Jf.lenL qj Z)<|gN Z q17 (Jf.ieq Z Z)<|oN (Jf.pickF Z q17 (Bo<|(v15.length:Int)==U) Z) ?_
  cases h
  exact js16 _ _<|kw Z Z
 refine oN mv ?_;refine TO.jB h 10 (λs18=>[(76,Bo s18)]) (λs18=>[]) (λs18 q19 h js18=>?_) (λs18 q19 h js18=>?_) λs18 h=>?_
 ·refine gS Z q19<|gS Z q19<|gS Z q19<|gS Z q19<|gS Z q19<|gS Z q19<|gS Z q19<|gS Z q19<|gS Z q19<|oN (Jf.pickT Z q19 (Bo true) Z) ?_
  cases h
  exact js18 _ _<|kw Z Z
 ·refine gN Z q19 mv<|gN Z q19 mv<|gN Z q19 mv<|jB h λv20 cv20 h=>gN Z q19 (Jf.call Z Z Z (nZ v3.1 v2.2.1 v2.2.2 cv20) Z)<|gN Z q19 mv<|gN Z q19 mv<|jB h λv21 cv21 h=>gN Z q19 (Jf.call Z Z Z (qX v14 v15 cv21) Z)<|gN Z q19 (Jf.not Z)<|gN Z q19 (Jf.beq bt4 Z Z)<|oN (Jf.pickF Z q19 (Bo<|v20==(!v21)) Z) ?_
  cases h
  exact js18 _ _<|kw Z Z
 refine oN as'<|jA<|jK ?_
 cases h
 exact f9 Z Z Z
end
end Go.Proofs.YtjcmfddobaplbaaGreat
