/- Texts joined. No conditions. -/
import Derived.Test.YtjcmfddobaplbaaGreatZ14
namespace Go.Proofs.YtjcmfddobaplbaaGreat
noncomputable section
open _root_.List renaming eq_nil_of_length_eq_zero -> Ug
set_option maxHeartbeats 4000000
open Go.RowKit
set_option maxRecDepth 100000
theorem l5 (start:au) {q} (h:fB start=some q):aW Tryz.prog 82 [.ifc 126 (.fp (au.c start) 0)] (.tup [eL (cL cI) q.1,I q.2]):=by
 refine pM Tryz.func82 Z (by kernel_rfl) Z<|jI<|oN as'<|oN as'<|jA<|jI<|oA (EvA.mmkB (kn:=1) sM Z)<|oN mv<|jB h λv1 cv1 h=>oN (MF.invS 28 Z Z (MethT.of (off:=0)<|by kernel_rfl) Z Z (mE start cv1) Z)<|oV (EvA.minsB (l:=([]:List<|ByteArray×Bool)) yL Tryz.underlying109 v1 true Z Z Z Z)<|oN mv<|oN as'<|jA<|jH<|T.reserve ?_;refine jC<|oN (MF.asg (hS true 1 0 1<|([]:LL).length) Z)<|jA ?_;refine T.jF (G:=(Bool×Nat)) h (λs2 gh=>(gh.1=true->s2.2=[])) (λs2 gh=>[(5,hS gh.1 1 gh.2 1 s2.2.length),(4,.mp 0 2)]) (λs2 gh=>[(some<|mB 1 1 sM cB s2.1),bE gh.1 gh.2 1 41 (s2.2.map<|cL cI)]) (λs2 gh h n45=>?_) λs2 h=>?_
 ·obtain ⟨b44,u43⟩:=gh;refine jI<|oN mv<|jB h λv46 cv46 h=>?_;refine oGW Z Z (gm s2.2 b44 u43 n45 cv46) Z (.cons (kR Z) .nil) (gp qD) (gp qD) iC λg47 v48 n49=>?_;refine oN mv<|oA (EvA.mlenB (l:=s2.1) Tryz.underlying109 Z Z)<|oN (MF.asg (hS g47 1 v48 1 v46.length) Z)<|oN as'<|jA<|jK ?_;obtain rfl:=MH h
  repeat (first|refine gY ?_|refine gZ ?_)
  exact jQ (vs:=[hS g47 1 v48 1 v46.length,I (s2.1.length:Int)]) (.cons (.tmp Z)<|.cons (.tmp Z) .nil)<|.tupL<|.cons (Fz.own (g:=g47) (ver:=v48) (l:=v46) Z Z Z (λx=>Ug<|n49 x) qD)<|.cons (qC Z) .nil
 refine jI<|oN mv<|oA (EvA.mkO (c:=(λx=>[AV.ifc 126 (.fp (au.c x) 0)])) ([start]:List au) [[.ifc 126 (.fp (au.c start) 0)]] mI Z Z Z qD Z Z)<|oN (MF.asg (hS false 2 0 1<|([start]:List au).length) Z)<|jA<|jE ?_;refine jO (S:=(List<|ByteArray×Bool)×(LL)×(List au)) (G:=(Bool×Nat)×Nat) gV (λs9 gh=>(gh.1.1=true->s9.2.1=[])) (λs9 gh=>[(6,hS false 2 gh.2 1 s9.2.2.length),(5,hS gh.1.1 1 gh.1.2 1 s9.2.1.length),(4,.mp 0 2)]) (λs9 gh=>[(some<|mB 1 1 sM cB s9.1),bE gh.1.1 gh.1.2 1 41 (s9.2.1.map<|cL cI),bE false gh.2 1 91 (s9.2.2.map λx=>[AV.ifc 126 (.fp (au.c x) 0)])]) (s0:=((um ([]:List<|ByteArray×Bool) v1 true),([]:LL),([start]:List au))) ((true,0),0) h qD (kw Z Z) λs9 gh ws9 h n13=>?_;let d0:=((s9.2.2.length:Int)-V);obtain ⟨⟨b12,u11⟩,u14⟩:=gh;refine jH<|jI<|oN mv<|oN (MF.lenO (g:=false) mI Z nofun)<|oN (MF.igt Z Z)<|jA ?_;refine jN Z h (λq15 h=>?_) λq15 h=>?_
 ·refine jG<|jE<|jI<|oN mv<|oN mv<|oN (MF.lenO (g:=false) mI Z nofun)<|jW h λg16 h=>oN (MF.sub Z Z g16)<|jD h λg17 h=>oN (MF.ixO (g:=false) mI Z Z nofun g17)<|oA (EvA.ldO (g:=false) (l:=s9.2.2) (.ifc 126<|.fp (au.c<|s9.2.2.getD (d0.toNat) default) 0) JH Z Z nofun (bB Z g17) Z)<|oN as'<|jA<|jI<|oN mv<|oN mv ?_;refine oN (MF.lenO (g:=false) mI Z nofun)<|oN (MF.sub Z Z g16)<|jD h λg18 h=>oA (EvA.cutO (l:=s9.2.2) (zl:=U) (zh:=d0) (MF.slhs Tryz.underlying110 JH (l:=U) (h:=d0) Z .no (.yes Z) g18) Z Z g18)<|oN (MF.asg (hS false 2 (u14+1) 1<|((s9.2.2.drop U.toNat).take<|d0.toNat-U.toNat).length) Z)<|jA ?_;refine T.jF (G:=(Bool×Nat)) h (λs19 gh=>(gh.1=true->s19=[])) (λs19 gh=>[(5,hS gh.1 1 gh.2 1 s19.length),(6,hS false 2 (u14+1) 1<|((s9.2.2.drop U.toNat).take<|d0.toNat-U.toNat).length),(7,.ifc 126<|.fp (au.c<|s9.2.2.getD (d0.toNat) default) 0),(4,.mp 0 2)]) (λs19 gh=>[(some<|mB 1 1 sM cB s9.1),bE gh.1 gh.2 1 41 (s19.map<|cL cI),bE false (u14+1) 1 91 (((s9.2.2.drop U.toNat).take<|d0.toNat-U.toNat).map λx=>[AV.ifc 126 (.fp (au.c x) 0)])]) (λs19 gh h n26=>?_) λs19 h=>?_
  ·obtain ⟨b25,u24⟩:=gh;refine jI<|oN mv<|jB h λv27 cv27 h=>oN (MF.invS 28 Z Z (MethT.of (off:=0)<|by kernel_rfl) Z Z (qj (s9.2.2.getD (d0.toNat) default) cv27) Z)<|oN (MF.lenL j3 Z)<|oN mv<|jA<|jE ?_;refine jO (S:=(List<|ByteArray×Bool)×(List au)×Int) (G:=Nat) (gT s9 s19 v27) (λs31 gh=>True) (λs31 gh=>[(42,I s31.2.2),(41,I (v27.length:Int)),(40,eL cI v27),(5,hS b25 1 u24 1 s19.length),(6,hS false 2 gh 1 s31.2.1.length),(7,.ifc 126<|.fp (au.c<|s9.2.2.getD (d0.toNat) default) 0),(4,.mp 0 2)]) (λs31 gh=>[(some<|mB 1 1 sM cB s31.1),bE b25 u24 1 41 (s19.map<|cL cI),bE false gh 1 91 (s31.2.1.map λx=>[AV.ifc 126 (.fp (au.c x) 0)])]) (s0:=(s9.1,((s9.2.2.drop U.toNat).take<|d0.toNat-U.toNat),U)) (u14+1) h trivial (kw Z Z) λs31 u33 ws31 h hg=>?_;refine jI<|oN (MF.ilt Z Z)<|jA<|jH ?_;refine jN Z h (λq34 h=>?_) λq34 h=>?_
   ·refine jG ?_;refine T.jF (G:=Nat) h (λs35 gh=>True) (λs35 gh=>[(6,hS false 2 gh 1 s35.2.length),(42,I s31.2.2),(41,I (v27.length:Int)),(40,eL cI v27),(5,hS b25 1 u24 1 s19.length),(7,.ifc 126<|.fp (au.c<|s9.2.2.getD (d0.toNat) default) 0),(4,.mp 0 2)]) (λs35 gh=>[(some<|mB 1 1 sM cB s35.1),bE b25 u24 1 41 (s19.map<|cL cI),bE false gh 1 91 (s35.2.map λx=>[AV.ifc 126 (.fp (au.c x) 0)])]) (λs35 u41 h hg=>?_) λs35 h=>?_
    ·refine jC<|jW h λg42 h=>oN (MF.add Z Z g42)<|oN mv<|jA ?_;obtain rfl:=MH h;exact ⟨(s35.1,s35.2,(s31.2.2+V)),u41,Z,trivial,kw Z Z⟩
    refine jE<|jI<|jD h λg36 h=>oN (MF.ixL j3 Z Z g36 qD)<|oN (lf (I<|J v27 s31.2.2) MR Z)<|oN as'<|jA<|jI<|oN mv<|oN mv<|jB h λv37 cv37 h=>oN (MF.invS 28 Z Z (MethT.of (off:=0)<|by kernel_rfl) Z Z (qm (s9.2.2.getD (d0.toNat) default) (J v27 s31.2.2) cv37) Z)<|oN as'<|jA<|jI<|oN mv ?_;refine jB h λv38 cv38 h=>oN (MF.invS 28 Z Z (MethT.of (off:=0)<|by kernel_rfl) Z Z (mE v37 cv38) Z)<|oN as'<|jA<|jI<|oN mv<|oN mv<|oA (EvA.lookB (l:=s31.1) yL Tryz.underlying109 (by kernel_rfl) v38 Z Z Z)<|oN (MF.not Z)<|jA ?_;refine jN Z h (λq39 h=>?_) λq39 h=>?_
    ·refine jI<|oN mv<|oN mv<|oV (EvA.msetB (l:=s31.1) yL Tryz.underlying109 v38 true Z Z Z Z)<|jA<|T.clean (H0:=[(some<|mB 1 1 sM cB<|um s31.1 v38 true),bE b25 u24 1 41 (s19.map<|cL cI),bE false u33 1 91 (s31.2.1.map λx=>[AV.ifc 126 (.fp (au.c x) 0)])]) (e0:=ax [(10,.ifc 126<|.fp (au.c v37) 0),(42,I s31.2.2),(41,I (v27.length:Int)),(40,eL cI v27),(5,hS b25 1 u24 1 s19.length),(6,hS false 2 u33 1 s31.2.1.length),(7,.ifc 126<|.fp (au.c<|s9.2.2.getD (d0.toNat) default) 0),(4,.mp 0 2)]) Z (ME Z<|ME Z<|ME Z<|ME Z<|ME Z<|ME Z<|ME Z<|ME Z MC)<|jC<|oN mv<|oN mv<|oN (MF.mkF (c:=(λx=>[AV.ifc 126 (.fp (au.c x) 0)])) ([v37]:List au) [[.ifc 126 (.fp (au.c v37) 0)]] mI Z Z Z qD qD Z)<|jL h λg40 h=>oA (EvA.app1 (g:=false) (l:=s31.2.1) v37 mI (by kernel_rfl) Z Z Z nofun (bF.fz (c:=(λx=>[AV.ifc 126 (.fp (au.c x) 0)])) (l:=([v37]:List au)) Z qD) g40)<|oN (MF.asg (hS false 2 (u33+1) 1<|(s31.2.1++[v37]).length) Z)<|jA ?_
     cases h
     exact ⟨u33+1,trivial,kw Z Z⟩
    refine jG ?_
    cases h
    exact ⟨u33,trivial,kw Z Z⟩
   refine jM<|lX h λh=>?_;obtain rfl:=MH h;exact ⟨(s31.1,s19,s31.2.1),((b25,u24),u33),Z,n26,kw Z Z⟩
  refine jI<|oN mv<|jB h λv20 cv20 h=>oN (MF.invS 28 Z Z (MethT.of (off:=0)<|by kernel_rfl) Z Z (qX (s9.2.2.getD (d0.toNat) default) cv20) Z)<|jA ?_;refine jN Z h (λq21 h=>?_) λq21 h=>?_
  ·refine T.clean (H0:=[(some<|mB 1 1 sM cB s9.1),bE b12 u11 1 41 (s9.2.1.map<|cL cI),bE false (u14+1) 1 91 (((s9.2.2.drop U.toNat).take<|d0.toNat-U.toNat).map λx=>[AV.ifc 126 (.fp (au.c x) 0)])]) (e0:=ax [(6,hS false 2 (u14+1) 1<|((s9.2.2.drop U.toNat).take<|d0.toNat-U.toNat).length),(7,.ifc 126<|.fp (au.c<|s9.2.2.getD (d0.toNat) default) 0),(5,hS b12 1 u11 1 s9.2.1.length),(4,.mp 0 2)]) Z (ME Z<|ME Z<|ME Z<|ME Z MC)<|jC<|oN mv<|oN mv<|jB h λv22 cv22 h=>oN (MF.invS 28 Z Z (MethT.of (off:=0)<|by kernel_rfl) Z Z (ou (s9.2.2.getD (d0.toNat) default) cv22) Z)<|oN (MF.mkF (c:=(cL cI)) ([v22]:LL) [[eL cI v22]] wK Z Z Z qD qD Z)<|jL h λg23 h=>oA (EvA.app1 (g:=b12) (l:=s9.2.1) v22 wK (by kernel_rfl) Z Z Z n13 (bF.fz (l:=([v22]:LL)) Z qD) g23)<|oN (MF.asg (hS false 1 (u11+1) 1<|(s9.2.1++[v22]).length) Z)<|jA ?_
   cases h
   exact ⟨(false,u11+1),nofun,kw Z Z⟩
  refine jG ?_
  cases h
  exact ⟨(b12,u11),n13,kw Z Z⟩
 refine jM<|lX h λh=>?_;obtain rfl:=MH h;exact ⟨(b12,u11),n13,p8 Z (.cons (.mp qD)<|.cons (.list (g:=b12) (ver:=u11) (l:=s9.2.1) qD) .nil)<|ay (.hS (g:=b12) (b:=1) (ver:=u11) (s:=1) (n:=s9.2.1.length) Z)<|ay (.mp<|nlb Z) bS⟩
theorem xa (p:List<|List MI) {q} (h:mg p=some q):aW Tryz.prog 63 [eL (cL MI.c) p] (eL (cL cI) q):=by
 refine pM Tryz.func63 Z (by kernel_rfl) Z<|jI<|oN as'<|jA<|jH<|jI<|oN mv<|oC h (λ_=>dx _) Z Z Z Z λv1 _ h=>oN (MF.not Z)<|jA ?_;refine jN Z h (λq2 h=>?_) λq2 h=>?_
 ·refine jI<|oN as'<|jA<|jK ?_;obtain rfl:=MH h
  repeat (first|refine gY ?_|refine gZ ?_)
  exact jQ (vs:=[.nil]) (.cons (.tmp Z) .nil) .nil0
 refine jG<|jI<|oN mv<|oC h (λ_=>tT _) Z Z Z Z λv3 _ h=>oC h (λ_=>l5 _) Z Z Z Z λv4 _ h=>oN mv<|oN (MF.ext (eL (cL cI) v4.1) Z Z)<|oN (MF.ext (I v4.2) Z Z)<|oN as'<|oN as'<|jA<|jI<|oN mv<|oN as'<|jA<|jK ?_
 cases h
 exact fg Z Z Z
theorem jf (p:List<|List MI) (name:ByteArray) {q} (h:aK p name=some q):aW Tryz.prog 20 [eL (cL MI.c) p,St name] (eL (cL cI) q):=by
 refine pM Tryz.func20 Z (by kernel_rfl) Z<|jI<|oN as'<|jA<|jH<|jI<|oN mv<|jA<|jE<|jI<|oN (MF.seq Z Z)<|oN as'<|jA ?_;refine jN Z h (λq1 h=>?_) λq1 h=>?_
 ·refine jI<|oN mv<|oC h (λ_=>wB _) Z Z Z Z λv2 _ h=>oN as'<|jA<|jK ?_
  cases h
  exact fg Z Z Z
 refine jI<|oN (MF.seq Z Z)<|oN as'<|jA ?_;refine jN Z h (λq3 h=>?_) λq3 h=>?_
 ·refine jI<|oN mv<|oC h (λ_=>wD _) Z Z Z Z λv4 _ h=>oN as'<|jA<|jK ?_
  cases h
  exact fg Z Z Z
 refine jI<|oN (MF.seq Z Z)<|oN as'<|jA ?_;refine jN Z h (λq5 h=>?_) λq5 h=>?_
 ·refine jI<|oN mv<|oC h (λ_=>wE _) Z Z Z Z λv6 _ h=>oN as'<|jA<|jK ?_
  cases h
  exact fg Z Z Z
 refine jI<|oN (MF.seq Z Z)<|oN as'<|jA ?_;refine jN Z h (λq7 h=>?_) λq7 h=>?_
 ·refine jI<|oN mv<|oC h (λ_=>xa _) Z Z Z Z λv8 _ h=>oN as'<|jA<|jK ?_
  cases h
  exact fg Z Z Z
 refine jG<|jI<|oN as'<|jA<|jK ?_;obtain rfl:=MH h
 repeat (first|refine gY ?_|refine gZ ?_)
 exact jQ (vs:=[.nil]) (.cons (.tmp Z) .nil) .nil0
theorem iB (s1_:List MI) (s2_:List MI) {q} (h:bz s1_ s2_=some q):aW Tryz.prog 54 [eL MI.c s1_,eL MI.c s2_] (Bo q):=by
 refine pM Tryz.func54 Z (by kernel_rfl) Z<|jI<|oN as'<|jA<|jH<|jI<|oN mv<|oN (MF.lenL sD Z)<|oN mv<|oN (MF.lenL sD Z)<|oN (MF.ine Z Z)<|jA ?_;refine jN Z h (λq1 h=>?_) λq1 h=>?_
 ·refine jI<|oN as'<|jA<|jK ?_
  cases h
  exact fg Z Z Z
 refine jG ?_;obtain ⟨Ks2,es2,ws2,h,ks2⟩:=Aw h;refine T.join (S:=Unit) (G:=Unit) (λs2=>Ks2 s2=some q) (λs2 gh=>True) (λs2 gh=>[]) (λs2 gh=>[]) (λs2 gh h hg=>?_) ?_
 ·clear ks2;subst es2;refine jI<|oN as'<|jA<|jK ?_
  cases h
  exact fg Z Z Z
 refine jI<|oN mv<|oN (MF.lenL sD Z)<|oN mv<|jA<|jE ?_;refine T.lU h (λs5=>[(13,I s5),(12,I (s1_.length:Int)),(0,eL MI.c s1_),(1,eL MI.c s2_)]) (λs5=>[]) (kw Z Z) λs5 ws5 h=>?_;refine jI<|oN (MF.ilt Z Z)<|jA<|jH ?_;refine jN Z h (λq7 h=>?_) λq7 h=>?_
 ·refine jG<|jH<|jE<|jI<|oN mv<|oN as'<|jA<|jH<|jP (λ_=>([],false)) (by kernel_rfl) (by kernel_rfl)<|fN Z mv<|fN Z mv<|jD h λg8 h=>fN Z (MF.ixL sD Z Z g8 qD)<|fN Z (lf (.agg<|MI.c<|J s1_ s5) lS Z)<|fN Z mv<|fN Z mv ?_;refine jD h λg9 h=>fN Z (MF.ixL sD Z Z g9 qD)<|fN Z (lf (.agg<|MI.c<|J s2_ s5) lS Z)<|fN Z (MF.ane (((J s1_ s5).Op)==((J s2_ s5).Op)&&(((J s1_ s5).Loc)==((J s2_ s5).Loc)&&(((J s1_ s5).Reg)==((J s2_ s5).Reg)&&(((J s1_ s5).Val)==((J s2_ s5).Val)&&true)))) (cs:=[I ((J s1_ s5).Op),I ((J s1_ s5).Loc),I ((J s1_ s5).Reg),I ((J s1_ s5).Val)]) (ds:=[I ((J s2_ s5).Op),I ((J s2_ s5).Loc),I ((J s2_ s5).Reg),I ((J s2_ s5).Val)]) Mv Z Z<|by kernel_rfl)<|jR ?_;refine jN Z h (λq10 h=>?_) λq10 h=>?_
  ·refine jH<|T.clean (H0:=[]) (e0:=ax []) Z MC<|jC<|oN as'<|jA<|jK<|lX h λh=>?_;obtain rfl:=MH h;replace h:=congrArg some (show _=_ from ks2)
   cases h
   exact fg Z Z Z
  refine jG<|jC<|jW h λg11 h=>oN (MF.add Z Z g11)<|oN mv<|jA ?_;exact lE h<|kw Z Z
 refine jM<|lX h λh=>?_
 cases h
 exact ⟨(),(),ks2,trivial,kw Z Z⟩
theorem oz (x:List MI) (y:List MI) {q} (h:iI x y=some q):aW Tryz.prog 53 [eL MI.c x,eL MI.c y] (Bo q):=by
 refine pM Tryz.func53 Z (by kernel_rfl) Z<|jI<|oN as'<|jA<|jI<|oN mv<|oN mv<|oC h (λ_=>iB _ _) Z Z Z Z λv1 _ h=>oN as'<|jA<|jK ?_
 cases h
 exact fg Z Z Z
theorem bD (s1_:List<|List MI) (s2_:List<|List MI) {q} (h:aG s1_ s2_=some q):aW Tryz.prog 52 [eL (cL MI.c) s1_,eL (cL MI.c) s2_,.fn (.func 53) []] (Bo q):=by
 refine pM Tryz.func52 Z (by kernel_rfl) Z<|jI<|oN as'<|jA<|jH<|jI<|oN mv<|oN (MF.lenL kD Z)<|oN mv<|oN (MF.lenL kD Z)<|oN (MF.ine Z Z)<|jA ?_;refine jN Z h (λq1 h=>?_) λq1 h=>?_
 ·refine jI<|oN as'<|jA<|jK ?_
  cases h
  exact fg Z Z Z
 refine jG ?_;obtain ⟨Ks2,es2,ws2,h,ks2⟩:=Aw h;refine T.join (S:=Unit) (G:=Unit) (λs2=>Ks2 s2=some q) (λs2 gh=>True) (λs2 gh=>[]) (λs2 gh=>[]) (λs2 gh h hg=>?_) ?_
 ·clear ks2;subst es2;refine jI<|oN as'<|jA<|jK ?_
  cases h
  exact fg Z Z Z
 refine jI<|oN mv<|oN (MF.lenL kD Z)<|oN mv<|jA<|jE ?_;refine T.lU h (λs5=>[(17,I s5),(16,I (s1_.length:Int)),(15,eL (cL MI.c) s1_),(1,eL (cL MI.c) s2_),(2,.fn (.func 53) [])]) (λs5=>[]) (kw Z Z) λs5 ws5 h=>?_;refine jI<|oN (MF.ilt Z Z)<|jA<|jH ?_;refine jN Z h (λq7 h=>?_) λq7 h=>?_
 ·refine jG<|jH<|jE<|jI<|oN mv<|jD h λg8 h=>oN (MF.ixL kD Z Z g8 qD)<|oN (lf (eL MI.c<|J s1_ s5) zV Z)<|oN as'<|oN as'<|jA<|jI<|oN mv<|oN mv<|jD h λg9 h=>oN (MF.ixL kD Z Z g9 qD) ?_;refine oN (lf (eL MI.c<|J s2_ s5) zV Z)<|oN as'<|jA<|jI<|oN mv<|oN mv<|oN mv<|oC h (λ_=>oz _ _) Z Z Z Z λv10 _ h=>oN (MF.not Z)<|jA ?_;refine jN Z h (λq11 h=>?_) λq11 h=>?_
  ·refine jH<|T.clean (H0:=[]) (e0:=ax []) Z MC<|jC<|oN as'<|jA<|jK<|lX h λh=>?_;obtain rfl:=MH h;replace h:=congrArg some (show _=_ from ks2)
   cases h
   exact fg Z Z Z
  refine jG<|T.clean (H0:=[]) (e0:=ax [(17,I s5),(16,I (s1_.length:Int)),(15,eL (cL MI.c) s1_),(1,eL (cL MI.c) s2_),(2,.fn (.func 53) [])]) Z (ME Z<|ME Z<|ME Z<|ME Z<|ME Z MC)<|jC<|jW h λg12 h=>oN (MF.add Z Z g12)<|oN mv<|jA ?_;exact lE h<|kw Z Z
 refine jM<|lX h λh=>?_
 cases h
 exact ⟨(),(),ks2,trivial,kw Z Z⟩
theorem kX (a:List<|List MI) (b:List<|List MI) {q} (h:eH a b=some q):aW Tryz.prog 15 [eL (cL MI.c) a,eL (cL MI.c) b] (Bo q):=by
 refine pM Tryz.func15 Z (by kernel_rfl) Z<|jI<|oN as'<|jA<|jI<|oN mv<|oN mv<|oC h (λ_=>bD _ _) Z Z Z Z λv1 _ h=>oN as'<|jA<|jK ?_
 cases h
 exact fg Z Z Z
theorem lW (x:Int) (low:Int) (high:Int) {q} (h:fT x low high=some q):aW Tryz.prog 47 [I x,I low,I high] (Bo q):=by
 refine pM Tryz.func47 Z (by kernel_rfl) Z<|jI<|oN as'<|jA<|jI<|oN mv<|oN mv<|oN (MF.ige Z Z)<|oN mv ?_;refine TO.jB h 4 (λs1=>[(14,Bo s1)]) (λs1=>[]) (λs1 q2 h js1=>?_) (λs1 q2 h js1=>?_) λs1 h=>?_
 ·refine gN Z q2 mv<|gN Z q2 mv<|gN Z q2 (MF.ile Z Z)<|oN (MF.pickT Z q2 (Bo<|decide<|x<=high) Z) ?_
  cases h
  exact js1 _ _<|kw Z Z
 ·refine gS Z q2<|gS Z q2<|gS Z q2<|oN (MF.pickF Z q2 (Bo false) Z) ?_
  cases h
  exact js1 _ _<|kw Z Z
 refine oN as'<|jA<|jK ?_
 cases h
 exact fg Z Z Z
theorem wF (a:LI) (b:LI) {q} (h:lj a b=some q):aW Tryz.prog 64 [eL cI a,eL cI b] (Bo q):=by
 refine pM Tryz.func64 Z (by kernel_rfl) Z<|jI<|oN as'<|jA<|jH<|jI<|oN mv<|oN (MF.lenL j3 Z)<|oN mv<|oN (MF.lenL j3 Z)<|oN (MF.ine Z Z)<|jA ?_;refine jN Z h (λq1 h=>?_) λq1 h=>?_
 ·refine jI<|oN as'<|jA<|jK ?_
  cases h
  exact fg Z Z Z
 refine jG ?_;obtain ⟨Ks2,es2,ws2,h,ks2⟩:=Aw h;refine T.join (S:=Unit) (G:=Unit) (λs2=>Ks2 s2=some q) (λs2 gh=>True) (λs2 gh=>[]) (λs2 gh=>[]) (λs2 gh h hg=>?_) ?_
 ·clear ks2;subst es2;refine jI<|oN as'<|jA<|jK ?_
  cases h
  exact fg Z Z Z
 refine jI<|oN as'<|jA<|jE ?_;refine T.lU h (λs5=>[(5,I s5),(0,eL cI a),(1,eL cI b)]) (λs5=>[]) (kw Z Z) λs5 ws5 h=>?_;refine jH<|jI<|oN mv<|oN mv<|oN (MF.lenL j3 Z)<|oN (MF.ilt Z Z)<|jA ?_;refine jN Z h (λq7 h=>?_) λq7 h=>?_
 ·refine jG<|jH<|jE<|jH<|jP (λ_=>([],false)) (by kernel_rfl) (by kernel_rfl)<|fN Z mv<|fN Z mv<|jD h λg8 h=>fN Z (MF.ixL j3 Z Z g8 qD)<|fN Z (lf (I<|J a s5) MR Z)<|fN Z mv<|fN Z mv<|jD h λg9 h=>fN Z (MF.ixL j3 Z Z g9 qD)<|fN Z (lf (I<|J b s5) MR Z)<|fN Z (MF.ine Z Z) ?_;refine jR ?_;refine jN Z h (λq10 h=>?_) λq10 h=>?_
  ·refine jH<|T.clean (H0:=[]) (e0:=ax []) Z MC<|jC<|oN as'<|jA<|jK<|lX h λh=>?_;obtain rfl:=MH h;replace h:=congrArg some (show _=_ from ks2)
   cases h
   exact fg Z Z Z
  refine jG<|jC<|oN mv<|jW h λg11 h=>oN (MF.add Z Z g11)<|oN as'<|jA ?_;exact lE h<|kw Z Z
 refine jM<|lX h λh=>?_
 cases h
 exact ⟨(),(),ks2,trivial,kw Z Z⟩
theorem uC {q} (h:gz=some q):aW Tryz.prog 126 [] (eL cS q):=by
 refine aW.mkT Tryz.func126 Z (by kernel_rfl) Z (by kernel_rfl) (e0:=ax []) MC<|jI<|oN as'<|jA<|jI<|oN (MF.mkF (c:=cS) ([(⟨#[120,61,49,59,97,61,121,124,121,61,49,59,97,61,120]⟩:ByteArray),(⟨#[120,61,49,59,102,101,110,99,101,59,97,61,121,124,121,61,49,59,102,101,110,99,101,59,97,61,120]⟩:ByteArray),(⟨#[120,61,49,59,121,61,49,124,97,61,121,59,98,61,120]⟩:ByteArray),(⟨#[120,61,49,59,121,61,49,124,97,61,121,59,102,101,110,99,101,59,98,61,120]⟩:ByteArray),(⟨#[120,61,49,59,102,101,110,99,101,59,121,61,49,124,97,61,121,59,98,61,120]⟩:ByteArray),(⟨#[97,61,120,59,121,61,49,124,97,61,121,59,120,61,49]⟩:ByteArray),(⟨#[97,61,120,59,121,61,97,124,97,61,121,59,120,61,97]⟩:ByteArray),(⟨#[120,61,49,124,120,61,50,124,97,61,120,59,98,61,120]⟩:ByteArray),(⟨#[120,61,49,124,121,61,49,124,97,61,120,59,98,61,121,124,97,61,121,59,98,61,120]⟩:ByteArray),(⟨#[120,61,49,124,97,61,120,59,121,61,49,124,97,61,121,59,98,61,120]⟩:ByteArray),(⟨#[120,61,49,124,121,61,49,124,97,61,120,59,98,61,121]⟩:ByteArray),(⟨#[97,61,120,58,49,124,97,61,120,58,50,124,120,61,51]⟩:ByteArray),(⟨#[120,61,49,59,97,61,120,59,98,61,121,124,121,61,49,59,97,61,121,59,98,61,120]⟩:ByteArray),(⟨#[120,61,50,59,121,61,49,124,121,61,50,59,120,61,49]⟩:ByteArray),(⟨#[97,61,120,58,49,59,98,61,121,124,97,61,121,58,49,59,98,61,120]⟩:ByteArray),(⟨#[120,61,49,59,120,61,50,124,97,61,120,59,98,61,120]⟩:ByteArray),(⟨#[120,61,49,59,121,61,49,59,97,61,122,124,122,61,49,59,97,61,121,59,98,61,120]⟩:ByteArray),(⟨#[97,61,120,58,49,124,98,61,120,58,49]⟩:ByteArray),(⟨#[102,101,110,99,101]⟩:ByteArray),(⟨#[]⟩:ByteArray),(⟨#[120,61,49,59,97,61,121,124,121,61,49,59,102,101,110,99,101,59,97,61,120]⟩:ByteArray)]:List ByteArray) [[St (⟨#[120,61,49,59,97,61,121,124,121,61,49,59,97,61,120]⟩:ByteArray)],[St (⟨#[120,61,49,59,102,101,110,99,101,59,97,61,121,124,121,61,49,59,102,101,110,99,101,59,97,61,120]⟩:ByteArray)],[St (⟨#[120,61,49,59,121,61,49,124,97,61,121,59,98,61,120]⟩:ByteArray)],[St (⟨#[120,61,49,59,121,61,49,124,97,61,121,59,102,101,110,99,101,59,98,61,120]⟩:ByteArray)],[St (⟨#[120,61,49,59,102,101,110,99,101,59,121,61,49,124,97,61,121,59,98,61,120]⟩:ByteArray)],[St (⟨#[97,61,120,59,121,61,49,124,97,61,121,59,120,61,49]⟩:ByteArray)],[St (⟨#[97,61,120,59,121,61,97,124,97,61,121,59,120,61,97]⟩:ByteArray)],[St (⟨#[120,61,49,124,120,61,50,124,97,61,120,59,98,61,120]⟩:ByteArray)],[St (⟨#[120,61,49,124,121,61,49,124,97,61,120,59,98,61,121,124,97,61,121,59,98,61,120]⟩:ByteArray)],[St (⟨#[120,61,49,124,97,61,120,59,121,61,49,124,97,61,121,59,98,61,120]⟩:ByteArray)],[St (⟨#[120,61,49,124,121,61,49,124,97,61,120,59,98,61,121]⟩:ByteArray)],[St (⟨#[97,61,120,58,49,124,97,61,120,58,50,124,120,61,51]⟩:ByteArray)],[St (⟨#[120,61,49,59,97,61,120,59,98,61,121,124,121,61,49,59,97,61,121,59,98,61,120]⟩:ByteArray)],[St (⟨#[120,61,50,59,121,61,49,124,121,61,50,59,120,61,49]⟩:ByteArray)],[St (⟨#[97,61,120,58,49,59,98,61,121,124,97,61,121,58,49,59,98,61,120]⟩:ByteArray)],[St (⟨#[120,61,49,59,120,61,50,124,97,61,120,59,98,61,120]⟩:ByteArray)],[St (⟨#[120,61,49,59,121,61,49,59,97,61,122,124,122,61,49,59,97,61,121,59,98,61,120]⟩:ByteArray)],[St (⟨#[97,61,120,58,49,124,98,61,120,58,49]⟩:ByteArray)],[St (⟨#[102,101,110,99,101]⟩:ByteArray)],[St (⟨#[]⟩:ByteArray)],[St (⟨#[120,61,49,59,97,61,121,124,121,61,49,59,102,101,110,99,101,59,97,61,120]⟩:ByteArray)]] Bm Z Z Z qD qD Z) ?_;refine oN as'<|jA<|jK ?_
 cases h
 exact fg Z Z Z
theorem pI (s:ByteArray) (c:Int) {q} (h:jr s c=some q):aW Tryz.prog 128 [St s,Y c] (eL cS q):=by
 refine pM Tryz.func128 Z (by kernel_rfl) Z<|jI<|oN as'<|jA<|jI<|oA (EvA.mkO (c:=cS) ([]:List ByteArray) [] Bm Z Z Z qD Z Z)<|oN (MF.asg (hS false 0 0 1<|([]:List ByteArray).length) Z)<|jA<|jI<|oN as'<|jA ?_;refine T.jF (G:=Nat) h (λs1 gh=>True) (λs1 gh=>[(5,hS false 0 gh 1 s1.length)]) (λs1 gh=>[bE false gh 1 9 (s1.map cS)]) (λs1 u19 h hg=>?_) λs1 h=>?_
 ·refine jI<|oN mv<|oN (MF.asg (hS false 0 u19 1 s1.length) Z)<|jA<|jK ?_;obtain rfl:=MH h
  repeat (first|refine gY ?_|refine gZ ?_)
  exact jQ (vs:=[hS false 0 u19 1 s1.length]) (.cons (.tmp Z) .nil)<|Fz.own (g:=false) (ver:=u19) (l:=s1) Z Z Z nofun qD
 refine jI<|oN as'<|jA<|jE ?_;refine jO (S:=(List ByteArray)×Int×Int) (G:=Nat) (iV s c) (λs5 gh=>True) (λs5 gh=>[(7,I s5.2.1),(6,I s5.2.2),(5,hS false 0 gh 1 s5.1.length),(0,St s),(1,Y c)]) (λs5 gh=>[bE false gh 1 9 (s5.1.map cS)]) (s0:=(([]:List ByteArray),U,U)) 0 h trivial (kw Z Z) λs5 u7 ws5 h hg=>?_;refine jH<|jI<|oN mv<|oN mv<|oN (MF.lenst Tryz.underlying9 Z)<|oN (MF.ile Z Z)<|jA ?_;refine jN Z h (λq8 h=>?_) λq8 h=>?_
 ·refine jG ?_;refine T.jF (G:=Nat) h (λs9 gh=>True) (λs9 gh=>[(6,I s9.2),(5,hS false 0 gh 1 s9.1.length),(7,I s5.2.1),(0,St s),(1,Y c)]) (λs9 gh=>[bE false gh 1 9 (s9.1.map cS)]) (λs9 u17 h hg=>?_) λs9 h=>?_
  ·refine jC<|oN mv<|jW h λg18 h=>oN (MF.add Z Z g18)<|oN as'<|jA ?_;obtain rfl:=MH h;exact ⟨(s9.1,(s5.2.1+V),s9.2),u17,Z,trivial,kw Z Z⟩
  refine jE<|jI<|oN mv<|oN mv<|oN (MF.lenst Tryz.underlying9 Z)<|oN (MF.ieq Z Z)<|oN mv ?_;refine TO.jB h 6 (λs10=>[(25,Bo s10),(7,I s5.2.1),(6,I s5.2.2),(5,hS false 0 u7 1 s5.1.length),(0,St s),(1,Y c)]) (λs10=>[bE false u7 1 9 (s5.1.map cS)]) (λs10 q11 h js10=>?_) (λs10 q11 h js10=>?_) λs10 h=>?_
  ·refine gS Z q11<|gS Z q11<|gS Z q11<|gS Z q11<|gS Z q11<|oN (MF.pickT Z q11 (Bo true) Z) ?_
   cases h
   exact js10 _ _<|kw Z Z
  ·refine gN Z q11 mv<|gN Z q11 mv<|jD h λg12 h=>gN Z q11 (MF.ixst Tryz.underlying9 Z Z g12)<|gN Z q11 mv<|gN Z q11 (MF.ieq Z Z)<|oN (MF.pickF Z q11 (Bo<|((s.data.getD s5.2.1.toNat 0).toNat:Int)==c) Z) ?_
   cases h
   exact js10 _ _<|kw Z Z
  refine jA ?_;refine jN Z h (λq13 h=>?_) λq13 h=>?_
  ·refine jI<|oN mv<|oN mv<|oN mv<|oN mv<|jD h λg14 h=>oN (MF.slst Tryz.underlying9 Z (.yes Z) (.yes Z) g14)<|oN (MF.mkF (c:=cS) ([(s.extract s5.2.2.toNat s5.2.1.toNat)]:List ByteArray) [[St (s.extract s5.2.2.toNat s5.2.1.toNat)]] Bm Z Z Z qD qD Z)<|jL h λg15 h=>oA (EvA.app1 (g:=false) (l:=s5.1) (s.extract s5.2.2.toNat s5.2.1.toNat) Bm (by kernel_rfl) Z Z Z nofun (bF.fz (l:=([(s.extract s5.2.2.toNat s5.2.1.toNat)]:List ByteArray)) Z qD) g15)<|oN (MF.asg (hS false 0 (u7+1) 1<|(s5.1++[(s.extract s5.2.2.toNat s5.2.1.toNat)]).length) Z)<|jA<|jC<|oN mv<|jW h λg16 h=>oN (MF.add Z Z g16) ?_;refine oN as'<|jA ?_
   cases h
   exact ⟨u7+1,trivial,kw Z Z⟩
  refine jG ?_
  cases h
  exact ⟨u7,trivial,kw Z Z⟩
 refine jM<|lX h λh=>?_
 cases h
 exact ⟨u7,trivial,kw Z Z⟩
theorem cO (s:ByteArray) (at_:Int) (from_:Int) (most:Int) {q} (h:bZ s at_ from_ most=some q):aW Tryz.prog 139 [St s,I at_,Y from_,I most] (I q):=by
 refine pM Tryz.func139 Z (by kernel_rfl) Z<|jI<|oN as'<|jA<|jH<|jI<|oN mv<|oN mv<|oN (MF.lenst Tryz.underlying9 Z)<|oN (MF.ige Z Z)<|oN mv ?_;refine TO.jB h 6 (λs1=>[(19,Bo s1),(0,St s),(1,I at_),(2,Y from_),(3,I most)]) (λs1=>[]) (λs1 q2 h js1=>?_) (λs1 q2 h js1=>?_) λs1 h=>?_
 ·refine gS Z q2<|gS Z q2<|gS Z q2<|gS Z q2<|gS Z q2<|oN (MF.pickT Z q2 (Bo true) Z) ?_
  cases h
  exact js1 _ _<|kw Z Z
 ·refine gN Z q2 mv<|gN Z q2 mv<|jD h λg3 h=>gN Z q2 (MF.ixst Tryz.underlying9 Z Z g3)<|gN Z q2 mv<|gN Z q2 (MF.ilt Z Z)<|oN (MF.pickF Z q2 (Bo<|decide<|((s.data.getD at_.toNat 0).toNat:Int)<from_) Z) ?_
  cases h
  exact js1 _ _<|kw Z Z
 refine oN mv ?_;refine TO.jB h 9 (λs4=>[(29,Bo s4),(0,St s),(1,I at_),(2,Y from_)]) (λs4=>[]) (λs4 q5 h js4=>?_) (λs4 q5 h js4=>?_) λs4 h=>?_
 ·refine gS Z q5<|gS Z q5<|gS Z q5<|gS Z q5<|gS Z q5<|gS Z q5<|gS Z q5<|gS Z q5<|oN (MF.pickT Z q5 (Bo true) Z) ?_
  cases h
  exact js4 _ _<|kw Z Z
 ·refine gN Z q5 mv<|gN Z q5 mv<|jD h λg6 h=>gN Z q5 (MF.ixst Tryz.underlying9 Z Z g6)<|gN Z q5 mv<|jW h λg7 h=>gN Z q5 (MF.sub Z Z g7)<|jW h λg8 h=>gN Z q5 (MF.iconv MS.und Tryz.underlying3 Z g8)<|gN Z q5 mv<|gN Z q5 (MF.igt Z Z)<|oN (MF.pickF Z q5 (Bo<|decide<|most<(((s.data.getD at_.toNat 0).toNat:Int)-from_)) Z) ?_
  cases h
  exact js4 _ _<|kw Z Z
 refine jA ?_;refine jN Z h (λq9 h=>?_) λq9 h=>?_
 ·refine jI<|oN as'<|jA<|jK ?_
  cases h
  exact fg Z Z Z
 refine jG<|jI<|oN mv<|oN mv<|jD h λg10 h=>oN (MF.ixst Tryz.underlying9 Z Z g10)<|oN mv<|jW h λg11 h=>oN (MF.sub Z Z g11)<|jW h λg12 h=>oN (MF.iconv MS.und Tryz.underlying3 Z g12)<|oN as'<|jA<|jK ?_
 cases h
 exact fg Z Z Z
theorem uD (s:ByteArray) {q} (h:ku s=some q):aW Tryz.prog 129 [St s] (.agg<|MI.c q):=by
 refine pM Tryz.func129 Z (by kernel_rfl) Z<|jI<|oA (EvA.al ul Z Z)<|jA<|jH<|jI<|oN mv<|oN (MF.seq Z Z)<|jA ?_;refine jN Z h (λq1 h=>?_) λq1 h=>?_
 ·refine jI<|oN (MF.build [I (4:Int),I U,I U,I U] Tryz.underlying69 ul jY Z Z)<|oV (sr [I (4:Int),I U,I U,I U] lS Z Z Z Z)<|jA<|jK ?_;obtain rfl:=MH h
  repeat (first|refine gY ?_|refine gZ ?_)
  exact jQ (vs:=[.agg [I (4:Int),I U,I U,I U]]) (.cons (.cell (.agg [I (4:Int),I U,I U,I U]) lS Z Z Z Z Z Z) .nil)<|qC Z
 refine jG<|jI<|oN mv<|oC h (λ_=>cO _ _ _ _) Z Z Z Z λv2 _ h=>oN as'<|jA<|jI<|oN mv<|oC h (λ_=>cO _ _ _ _) Z Z Z Z λv3 _ h=>oN as'<|jA<|jH<|jI<|oN mv<|oN (MF.ige Z Z)<|oN mv ?_;refine TO.jB h 4 (λs4=>[(18,Bo s4),(4,I v3),(3,I v2),(2,.hp 0 0 4 0 0),(0,St s)]) (λs4=>[some ⟨0,4,69,[[I U,I U,I U,I U]]⟩]) (λs4 q5 h js4=>?_) (λs4 q5 h js4=>?_) λs4 h=>?_
 ·refine gN Z q5 mv<|gN Z q5 (MF.lenst Tryz.underlying9 Z)<|gN Z q5 (MF.ieq Z Z)<|oN (MF.pickT Z q5 (Bo<|(s.size:Int)==(3:Int)) Z) ?_
  cases h
  exact js4 _ _<|kw Z Z
 ·refine gS Z q5<|gS Z q5<|gS Z q5<|oN (MF.pickF Z q5 (Bo false) Z) ?_
  cases h
  exact js4 _ _<|kw Z Z
 refine jA ?_;refine jN Z h (λq6 h=>?_) λq6 h=>?_
 ·refine jI<|oN mv<|oN mv<|oC h (λ_=>cO _ _ _ _) Z Z Z Z λv7 _ h=>oN (MF.build [I V,I v7,I v2,I U] Tryz.underlying69 ul jY Z Z)<|oV (sr [I V,I v7,I v2,I U] lS Z Z Z Z)<|jA<|jK ?_;obtain rfl:=MH h
  repeat (first|refine gY ?_|refine gZ ?_)
  exact jQ (vs:=[.agg [I V,I v7,I v2,I U]]) (.cons (.cell (.agg [I V,I v7,I v2,I U]) lS Z Z Z Z Z Z) .nil)<|qC Z
 refine jG<|jH<|jI<|oN mv<|oN (MF.ige Z Z)<|oN mv ?_;refine TO.jB h 4 (λs8=>[(29,Bo s8),(4,I v3),(3,I v2),(2,.hp 0 0 4 0 0),(0,St s)]) (λs8=>[some ⟨0,4,69,[[I U,I U,I U,I U]]⟩]) (λs8 q9 h js8=>?_) (λs8 q9 h js8=>?_) λs8 h=>?_
 ·refine gN Z q9 mv<|gN Z q9 (MF.lenst Tryz.underlying9 Z)<|gN Z q9 (MF.ieq Z Z)<|oN (MF.pickT Z q9 (Bo<|(s.size:Int)==(5:Int)) Z) ?_
  cases h
  exact js8 _ _<|kw Z Z
 ·refine gS Z q9<|gS Z q9<|gS Z q9<|oN (MF.pickF Z q9 (Bo false) Z) ?_
  cases h
  exact js8 _ _<|kw Z Z
 refine jA ?_;refine jN Z h (λq10 h=>?_) λq10 h=>?_
 ·refine jI<|oN mv<|oN mv<|oC h (λ_=>cO _ _ _ _) Z Z Z Z λv11 _ h=>oN mv<|oC h (λ_=>cO _ _ _ _) Z Z Z Z λv12 _ h=>oN (MF.build [I (5:Int),I v11,I v2,I v12] Tryz.underlying69 ul jY Z Z)<|oV (sr [I (5:Int),I v11,I v2,I v12] lS Z Z Z Z)<|jA<|jK ?_;obtain rfl:=MH h
  repeat (first|refine gY ?_|refine gZ ?_)
  exact jQ (vs:=[.agg [I (5:Int),I v11,I v2,I v12]]) (.cons (.cell (.agg [I (5:Int),I v11,I v2,I v12]) lS Z Z Z Z Z Z) .nil)<|qC Z
 refine jG<|jH<|jI<|oN mv<|oN (MF.ige Z Z)<|oN mv ?_;refine TO.jB h 4 (λs13=>[(42,Bo s13),(4,I v3),(2,.hp 0 0 4 0 0),(0,St s)]) (λs13=>[some ⟨0,4,69,[[I U,I U,I U,I U]]⟩]) (λs13 q14 h js13=>?_) (λs13 q14 h js13=>?_) λs13 h=>?_
 ·refine gN Z q14 mv<|jB h λv15 cv15 h=>gN Z q14 (MF.call Z Z Z (cO s (2:Int) (97:Int) (2:Int) cv15) Z)<|gN Z q14 (MF.ige Z Z)<|oN (MF.pickT Z q14 (Bo<|decide<|U<=v15) Z) ?_
  cases h
  exact js13 _ _<|kw Z Z
 ·refine gS Z q14<|gS Z q14<|gS Z q14<|oN (MF.pickF Z q14 (Bo false) Z) ?_
  cases h
  exact js13 _ _<|kw Z Z
 refine jA ?_;refine jN Z h (λq16 h=>?_) λq16 h=>?_
 ·refine jI<|oN mv<|oN mv<|oC h (λ_=>cO _ _ _ _) Z Z Z Z λv17 _ h=>oN (MF.build [I (3:Int),I v3,I v17,I U] Tryz.underlying69 ul jY Z Z)<|oV (sr [I (3:Int),I v3,I v17,I U] lS Z Z Z Z)<|jA<|jK ?_;obtain rfl:=MH h
  repeat (first|refine gY ?_|refine gZ ?_)
  exact jQ (vs:=[.agg [I (3:Int),I v3,I v17,I U]]) (.cons (.cell (.agg [I (3:Int),I v3,I v17,I U]) lS Z Z Z Z Z Z) .nil)<|qC Z
 refine jG<|jI<|oN mv<|oN mv<|oC h (λ_=>cO _ _ _ _) Z Z Z Z λv18 _ h=>oN (MF.build [I (2:Int),I v3,I U,I v18] Tryz.underlying69 ul jY Z Z)<|oV (sr [I (2:Int),I v3,I U,I v18] lS Z Z Z Z)<|jA<|jK ?_;obtain rfl:=MH h
 repeat (first|refine gY ?_|refine gZ ?_)
 exact jQ (vs:=[.agg [I (2:Int),I v3,I U,I v18]]) (.cons (.cell (.agg [I (2:Int),I v3,I U,I v18]) lS Z Z Z Z Z Z) .nil)<|qC Z
theorem m5 (from_:Int) (n:Int) {q} (h:ik from_ n=some q):aW Tryz.prog 171 [Y from_,I n] (St q):=by
 refine pM Tryz.func171 Z (by kernel_rfl) Z<|jI<|oN as'<|jA<|jI<|oN mv<|oN mv<|jW h λg1 h=>oN (MF.iconv MR.und Tryz.underlying5 Z g1)<|jW h λg2 h=>oN (MF.add Z Z g2)<|oN (MF.mkF (c:=cY) ([(from_+n)]:LI) [[Y (from_+n)]] oh Z Z Z qD qD Z)<|oA (EvA.b2s (l:=([(from_+n)]:LI)) Tryz.underlying22 Tryz.underlying5 Tryz.underlying9 (Ep Z)<|bF.fz (l:=([(from_+n)]:LI)) Z qD)<|oN as'<|jA<|jK ?_
 cases h
 exact fg Z Z Z
theorem uE:∀ (nf:Nat) (n:Int) {q} (h:il nf n=some q),aW Tryz.prog 172 [I n] (St q):=by
 intro nf
 induction nf with
 | zero=>intros;rename_i h;cases h
 | succ nf ih=>
  intro n q h;replace h:ju (il nf) n=some q:=h;refine pM Tryz.func172 Z (by kernel_rfl) Z<|jI<|oN as'<|jA<|jH<|jI<|oN mv<|oN (MF.ilt Z Z)<|jA ?_;refine jN Z h (λq1 h=>?_) λq1 h=>?_
  ·refine jI<|oN as'<|jA<|jK ?_
   cases h
   exact fg Z Z Z
  refine jG<|jH<|jI<|oN mv<|oN (MF.ilt Z Z)<|jA ?_;refine jN Z h (λq2 h=>?_) λq2 h=>?_
  ·refine jI<|oN mv<|jW h λg3 h=>oN (MF.neg Z g3)<|oC h (λ_=>ih _) Z Z Z Z λv4 _ h=>jD h λg5 h=>oN (MF.cat Z Z g5)<|oN as'<|jA<|jK ?_
   cases h
   exact fg Z Z Z
  refine jG<|jI<|oN as'<|jA ?_;refine T.jU h (λs6=>[(3,St s6.1),(0,I s6.2)]) (λs6=>[]) (λs6 h=>?_) λs6 h=>?_
  ·refine jI<|oN mv<|jW h λg17 h=>oN (MF.add Z Z g17)<|jW h λg18 h=>oN (MF.iconv MR.und Tryz.underlying5 Z g18)<|oN (MF.mkF (c:=cY) ([((48:Int)+s6.2)]:LI) [[Y ((48:Int)+s6.2)]] oh Z Z Z qD qD Z)<|oA (EvA.b2s (l:=([((48:Int)+s6.2)]:LI)) Tryz.underlying22 Tryz.underlying5 Tryz.underlying9 (Ep Z)<|bF.fz (l:=([((48:Int)+s6.2)]:LI)) Z qD)<|oN mv<|jD h λg19 h=>oN (MF.cat Z Z g19)<|oN as'<|jA<|jK ?_
   cases h
   exact fg Z Z Z
  refine jE ?_;refine T.lU h (λs9=>[(3,St s9.1),(0,I s9.2)]) (λs9=>[]) (kw Z Z) λs9 ws9 h=>?_;refine jH<|jI<|oN mv<|oN (MF.igt Z Z)<|jA ?_;refine jN Z h (λq11 h=>?_) λq11 h=>?_
  ·refine jG<|jE<|jI<|oN mv<|jD h λg12 h=>oN (MF.rem Z Z g12)<|jW h λg13 h=>oN (MF.add Z Z g13)<|jW h λg14 h=>oN (MF.iconv MR.und Tryz.underlying5 Z g14)<|oN (MF.mkF (c:=cY) ([((48:Int)+(s9.2.tmod (10:Int)))]:LI) [[Y ((48:Int)+(s9.2.tmod (10:Int)))]] oh Z Z Z qD qD Z)<|oA (EvA.b2s (l:=([((48:Int)+(s9.2.tmod (10:Int)))]:LI)) Tryz.underlying22 Tryz.underlying5 Tryz.underlying9 (Ep Z)<|bF.fz (l:=([((48:Int)+(s9.2.tmod (10:Int)))]:LI)) Z qD)<|oN mv<|jD h λg15 h=>oN (MF.cat Z Z g15)<|oN as' ?_;refine jA<|jC<|oN mv<|jW h λg16 h=>oN (MF.quo Z Z g12 g16)<|oN as'<|jA ?_;exact lE h<|kw Z Z
  refine jM<|lX h λh=>?_
  cases h
  exact ⟨(),trivial,kw Z Z⟩
theorem pJ (n:Int) {q} (h:ll n=some q):aW Tryz.prog 172 [I n] (St q):=by
 obtain ⟨nf,h⟩:=IQ h;exact uE nf n h
theorem wG (x:MI) {q} (h:lm x=some q):aW Tryz.prog 140 [.agg (MI.c x)] (St q):=by
 refine pM Tryz.func140 Z (by kernel_rfl) Z<|jI<|oN (MF.bxF (MI.c x) Z Z Z)<|oN as'<|jA<|jI<|oN (fa jY Z)<|oN (lf (I x.Loc) MR Z)<|oC h (λ_=>m5 _ _) Z Z Z Z λv1 _ h=>oN as'<|jA<|jI<|oN (fa jY Z)<|oN (lf (I x.Reg) MR Z)<|oC h (λ_=>m5 _ _) Z Z Z Z λv2 _ h=>oN as' ?_;refine jA<|jH<|jI<|oN (fa jY Z)<|oN (lf (I x.Op) MR Z)<|jA<|jE<|jI<|oN (MF.ieq Z Z)<|oN as'<|jA ?_;refine jN Z h (λq3 h=>?_) λq3 h=>?_
 ·refine jI<|oN mv<|jD h λg4 h=>oN (MF.cat Z Z g4)<|oN mv<|jD h λg5 h=>oN (MF.cat Z Z g5)<|oN as'<|jA<|jK ?_
  cases h
  exact fg Z Z Z
 refine jI<|oN (MF.ieq Z Z)<|oN as'<|jA ?_;refine jN Z h (λq6 h=>?_) λq6 h=>?_
 ·refine jI<|oN mv<|jD h λg7 h=>oN (MF.cat Z Z g7)<|oN (fa jY Z)<|oN (lf (I x.Val) MR Z)<|oC h (λ_=>pJ _) Z Z Z Z λv8 _ h=>jD h λg9 h=>oN (MF.cat Z Z g9)<|oN as'<|jA<|jK ?_
  cases h
  exact fg Z Z Z
 refine jI<|oN (MF.ieq Z Z)<|oN as'<|jA ?_;refine jN Z h (λq10 h=>?_) λq10 h=>?_
 ·refine jH<|T.clean (H0:=[]) (e0:=ax [(4,St v2),(3,St v1)]) Z (ME Z<|ME Z MC)<|jC<|oN mv<|jD h λg11 h=>oN (MF.cat Z Z g11)<|oN mv<|jD h λg12 h=>oN (MF.cat Z Z g12)<|oN as'<|jA<|jK ?_
  cases h
  exact fg Z Z Z
 refine jI<|oN (MF.ieq Z Z)<|oN as'<|jA ?_;refine jN Z h (λq13 h=>?_) λq13 h=>?_
 ·refine jH<|T.clean (H0:=[]) (e0:=ax [(4,St v2),(3,St v1),(1,.fp (MI.c x) 0)]) Z (ME Z<|ME Z<|ME Z MC)<|jC<|oN mv<|jD h λg14 h=>oN (MF.cat Z Z g14)<|oN mv<|jD h λg15 h=>oN (MF.cat Z Z g15)<|jD h λg16 h=>oN (MF.cat Z Z g16)<|oN (fa jY Z)<|oN (lf (I x.Val) MR Z)<|oC h (λ_=>pJ _) Z Z Z Z λv17 _ h=>jD h λg18 h=>oN (MF.cat Z Z g18) ?_;refine oN as'<|jA<|jK ?_
  cases h
  exact fg Z Z Z
 refine jG<|jH<|T.clean (H0:=[]) (e0:=ax []) Z MC<|jC<|oN as'<|jA<|jK ?_
 cases h
 exact fg Z Z Z
theorem rZ (p:List<|List MI) {q} (h:iW p=some q):aW Tryz.prog 130 [eL (cL MI.c) p] (St q):=by
 refine pM Tryz.func130 Z (by kernel_rfl) Z<|jI<|oN as'<|jA<|jI<|oN as'<|jA ?_;refine T.jU h (λs1=>[(3,St s1)]) (λs1=>[]) (λs1 h=>?_) λs1 h=>?_
 ·refine jI<|oN mv<|oN as'<|jA<|jK ?_
  cases h
  exact fg Z Z Z
 refine jI<|oN as'<|jA<|jE ?_;refine T.lU h (λs4=>[(4,I s4.1),(3,St s4.2),(0,eL (cL MI.c) p)]) (λs4=>[]) (kw Z Z) λs4 ws4 h=>?_;refine jH<|jI<|oN mv<|oN mv<|oN (MF.lenL kD Z)<|oN (MF.ilt Z Z)<|jA ?_;refine jN Z h (λq6 h=>?_) λq6 h=>?_
 ·refine jG ?_;refine T.jU h (λs7=>[(3,St s7),(4,I s4.1),(0,eL (cL MI.c) p)]) (λs7=>[]) (λs7 h=>?_) λs7 h=>?_
  ·refine jC<|oN mv<|jW h λg24 h=>oN (MF.add Z Z g24)<|oN as'<|jA ?_;exact lE h<|kw Z Z
  refine jE ?_;refine T.jU h (λs8=>[(3,St s8),(4,I s4.1),(0,eL (cL MI.c) p)]) (λs8=>[]) (λs8 h=>?_) λs8 h=>?_
  ·refine jI<|oN as'<|jA<|jE ?_;refine T.lU h (λs13=>[(5,I s13.1),(3,St s13.2),(4,I s4.1),(0,eL (cL MI.c) p)]) (λs13=>[]) (kw Z Z) λs13 ws13 h=>?_;refine jH<|jI<|oN mv<|oN mv<|oN mv<|jD h λg15 h=>oN (MF.ixL kD Z Z g15 qD)<|oN (lf (eL MI.c<|J p s4.1) zV Z)<|oN (MF.lenL sD Z)<|oN (MF.ilt Z Z)<|jA ?_;refine jN Z h (λq16 h=>?_) λq16 h=>?_
   ·refine jG<|jH<|jE ?_;refine T.jU h (λs17=>[(3,St s17),(5,I s13.1),(4,I s4.1),(0,eL (cL MI.c) p)]) (λs17=>[]) (λs17 h=>?_) λs17 h=>?_
    ·refine jC<|oN mv<|oN mv<|oN mv<|oN (MF.ixL kD Z Z g15 qD)<|oN (lf (eL MI.c<|J p s4.1) zV Z)<|oN mv<|jD h λg20 h=>oN (MF.ixL sD Z Z g20 qD)<|oN (lf (.agg<|MI.c<|J (J p s4.1) s13.1) lS Z)<|oC h (λ_=>wG _) Z Z Z Z λv21 _ h=>jD h λg22 h=>oN (MF.cat Z Z g22)<|oN as'<|jA<|jC ?_;refine oN mv<|jW h λg23 h=>oN (MF.add Z Z g23)<|oN as'<|jA ?_;exact lE h<|kw Z Z
    refine jI<|oN mv<|oN (MF.igt Z Z)<|jA ?_;refine jN Z h (λq18 h=>?_) λq18 h=>?_
    ·refine jC<|oN mv<|jD h λg19 h=>oN (MF.cat Z Z g19)<|oN as'<|jA ?_
     cases h
     exact ⟨(),trivial,kw Z Z⟩
    refine jG ?_
    cases h
    exact ⟨(),trivial,kw Z Z⟩
   refine jM<|lX h λh=>?_
   cases h
   exact ⟨(),trivial,kw Z Z⟩
  refine jI<|oN mv<|oN (MF.igt Z Z)<|jA ?_;refine jN Z h (λq9 h=>?_) λq9 h=>?_
  ·refine jC<|oN mv<|jD h λg10 h=>oN (MF.cat Z Z g10)<|oN as'<|jA ?_
   cases h
   exact ⟨(),trivial,kw Z Z⟩
  refine jG ?_
  cases h
  exact ⟨(),trivial,kw Z Z⟩
 refine jM<|lX h λh=>?_
 cases h
 exact ⟨(),trivial,kw Z Z⟩
theorem kN (text:ByteArray) {q} (h:bO text=some q):aW Tryz.prog 109 [St text] (.tup [eL (cL MI.c) q.1,Bo q.2]):=by
 refine pM Tryz.func109 Z (by kernel_rfl) Z<|jI<|oN as'<|oN as'<|jA<|jI<|oA (EvA.mkO (c:=(cL MI.c)) ([]:List<|List MI) [] kD Z Z Z qD Z Z)<|oN (MF.asg (hS false 0 0 1<|([]:List<|List MI).length) Z)<|jA<|jI<|oN mv<|oC h (λ_=>pI _ _) Z Z Z Z λv1 _ h=>oN as'<|jA ?_;refine T.jF (G:=Nat) h (λs2 gh=>True) (λs2 gh=>[(4,hS false 0 gh 1 s2.length),(0,St text)]) (λs2 gh=>[bE false gh 1 66 (s2.map<|cL MI.c)]) (λs2 u35 h hg=>?_) λs2 h=>?_
 ·refine jH<|jI<|oN mv<|jB h λv36 cv36 h=>oA (EvA.callT Z Z (kM s2 cv36) (.cons (Fz.own (g:=false) (ver:=u35) (l:=s2) Z Z Z nofun qD) .nil) Z)<|oN (MF.not Z)<|oN mv ?_;refine TO.jB h 5 (λs37=>[(66,Bo s37),(4,hS false 0 u35 1 s2.length)]) (λs37=>[bE false u35 1 66 (s2.map<|cL MI.c)]) (λs37 q38 h js37=>?_) (λs37 q38 h js37=>?_) λs37 h=>?_
  ·refine gS Z q38<|gS Z q38<|gS Z q38<|gS Z q38<|oN (MF.pickT Z q38 (Bo true) Z) ?_
   cases h
   exact js37 _ _<|kw Z Z
  ·refine gN Z q38 mv<|jB h λv39 cv39 h=>gA Z q38 (EvA.callT Z Z (rZ s2 cv39) (.cons (Fz.own (g:=false) (ver:=u35) (l:=s2) Z Z Z nofun qD) .nil) Z)<|gN Z q38 mv<|gN Z q38 (MF.sne Z Z)<|oN (MF.pickF Z q38 (Bo<|!decide (v39=text)) Z) ?_
   cases h
   exact js37 _ _<|kw Z Z
  refine jA ?_;refine jN Z h (λq40 h=>?_) λq40 h=>?_
  ·refine jI<|oN (MF.mkF (c:=(cL MI.c)) ([]:List<|List MI) [] kD Z Z Z qD qD Z)<|oN as'<|oN as'<|jA<|jK ?_;obtain rfl:=MH h
   repeat (first|refine gY ?_|refine gZ ?_)
   exact jQ (vs:=[eL (cL MI.c) ([]:List<|List MI),Bo false]) (.cons (.tmp Z)<|.cons (.tmp Z) .nil)<|.tupL<|.cons (qC Z)<|.cons (qC Z) .nil
  refine jG<|jI<|oN mv<|oN (MF.asg (hS false 0 u35 1 s2.length) Z)<|oN as'<|jA<|jK ?_;obtain rfl:=MH h
  repeat (first|refine gY ?_|refine gZ ?_)
  exact jQ (vs:=[hS false 0 u35 1 s2.length,Bo true]) (.cons (.tmp Z)<|.cons (.tmp Z) .nil)<|.tupL<|.cons (Fz.own (g:=false) (ver:=u35) (l:=s2) Z Z Z nofun qD)<|.cons (qC Z) .nil
 refine jI<|oN as'<|jA<|jE ?_;refine jO (S:=(List<|List MI)×Int) (G:=Nat) (d9 v1) (λs6 gh=>True) (λs6 gh=>[(6,I s6.2),(5,eL cS v1),(4,hS false 0 gh 1 s6.1.length),(0,St text)]) (λs6 gh=>[bE false gh 1 66 (s6.1.map<|cL MI.c)]) (s0:=(([]:List<|List MI),U)) 0 h trivial (kw Z Z) λs6 u8 ws6 h hg=>?_;refine jH<|jI<|oN mv<|oN mv<|oN (MF.lenL Bm Z)<|oN (MF.ilt Z Z)<|oN mv ?_;refine TO.jB h 3 (λs9=>[(20,Bo s9),(6,I s6.2),(5,eL cS v1),(4,hS false 0 u8 1 s6.1.length),(0,St text)]) (λs9=>[bE false u8 1 66 (s6.1.map<|cL MI.c)]) (λs9 q10 h js9=>?_) (λs9 q10 h js9=>?_) λs9 h=>?_
 ·refine gN Z q10 mv<|gN Z q10 (MF.ile Z Z)<|oN (MF.pickT Z q10 (Bo<|decide<|s6.2<=(3:Int)) Z) ?_
  cases h
  exact js9 _ _<|kw Z Z
 ·refine gS Z q10<|gS Z q10<|oN (MF.pickF Z q10 (Bo false) Z) ?_
  cases h
  exact js9 _ _<|kw Z Z
 refine jA ?_;refine jN Z h (λq11 h=>?_) λq11 h=>?_
 ·refine jG ?_;refine T.jF (G:=Nat) h (λs12 gh=>True) (λs12 gh=>[(4,hS false 0 gh 1 s12.length),(6,I s6.2),(5,eL cS v1),(0,St text)]) (λs12 gh=>[bE false gh 1 66 (s12.map<|cL MI.c)]) (λs12 u33 h hg=>?_) λs12 h=>?_
  ·refine jC<|oN mv<|jW h λg34 h=>oN (MF.add Z Z g34)<|oN as'<|jA ?_;obtain rfl:=MH h;exact ⟨(s12,(s6.2+V)),u33,Z,trivial,kw Z Z⟩
  refine jE<|jI<|oA (EvA.mkO (c:=MI.c) ([]:List MI) [] sD Z Z Z qD Z Z)<|oN (MF.asg (hS false 1 0 4<|([]:List MI).length) Z)<|jA<|jI<|oN mv<|oN mv<|jD h λg13 h=>oN (MF.ixL Bm Z Z g13 qD)<|oN (lf (St<|J v1 s6.2) ty9 Z)<|oC h (λ_=>pI _ _) Z Z Z Z λv14 _ h=>oN as'<|jA ?_;refine T.jF (G:=Nat) h (λs15 gh=>True) (λs15 gh=>[(7,hS false 1 gh 4 s15.length),(6,I s6.2),(5,eL cS v1),(4,hS false 0 u8 1 s6.1.length),(0,St text)]) (λs15 gh=>[bE false u8 1 66 (s6.1.map<|cL MI.c),bE false gh 4 69 (s15.map MI.c)]) (λs15 u31 h hg=>?_) λs15 h=>?_
  ·refine jC<|oN mv<|oN mv<|oA (EvA.mkR [[hS false 1 u31 4 s15.length]] kD Z Z Z Z)<|jL h λg32 h=>oA (EvA.appR (g:=false) (rows:=s6.1.map<|cL MI.c) (rows':=s6.1.map (cL MI.c)++[[hS false 1 u31 4 s15.length]]) (n':=s6.1.length+1) kD (by kernel_rfl) Z Z (by simp) nofun (bF.raw (rows:=[[hS false 1 u31 4 s15.length]]) Z Z Z) g32 Z Z)<|oN (MF.asg (hS false 0 (u8+1) 1<|s6.1.length+1) Z)<|jA ?_;obtain rfl:=MH h;exact ⟨u8+1,trivial,p8 Z (.cons (.snoc qD<|.cons (.cons (.fz<|Fz.own (g:=false) (ver:=u31) (l:=s15) Z Z Z nofun MI.isF) .nil) .nil) .nil)<|ay (.eqv (congrArg (hS false 0 (u8+1) 1) (by simp:(s6.1.length+1)=(s6.1++[s15]).length))<|.hS (g:=false) (b:=0) (ver:=u8+1) (s:=1) (n:=(s6.1++[s15]).length) Z)<|ay (.fz<|qC Z)<|ay (.fz<|qC Z)<|ay (.fz<|qC Z) bS⟩
  refine jI<|oN as'<|jA<|jE ?_;refine jO (S:=(List MI)×Int) (G:=Nat) (dL v1 s6 v14) (λs19 gh=>True) (λs19 gh=>[(9,I s19.2),(8,eL cS v14),(7,hS false 1 gh 4 s19.1.length),(6,I s6.2),(5,eL cS v1),(4,hS false 0 u8 1 s6.1.length),(0,St text)]) (λs19 gh=>[bE false u8 1 66 (s6.1.map<|cL MI.c),bE false gh 4 69 (s19.1.map MI.c)]) (s0:=(([]:List MI),U)) 0 h trivial (kw Z Z) λs19 u21 ws19 h hg=>?_;refine jH<|jI<|oN mv<|oN mv<|oN (MF.lenL Bm Z)<|oN (MF.ilt Z Z)<|oN mv ?_;refine TO.jB h 3 (λs22=>[(36,Bo s22),(9,I s19.2),(8,eL cS v14),(7,hS false 1 u21 4 s19.1.length),(6,I s6.2),(5,eL cS v1),(4,hS false 0 u8 1 s6.1.length),(0,St text)]) (λs22=>[bE false u8 1 66 (s6.1.map<|cL MI.c),bE false u21 4 69 (s19.1.map MI.c)]) (λs22 q23 h js22=>?_) (λs22 q23 h js22=>?_) λs22 h=>?_
  ·refine gN Z q23 mv<|gN Z q23 (MF.ile Z Z)<|oN (MF.pickT Z q23 (Bo<|decide<|s19.2<=(7:Int)) Z) ?_
   cases h
   exact js22 _ _<|kw Z Z
  ·refine gS Z q23<|gS Z q23<|oN (MF.pickF Z q23 (Bo false) Z) ?_
   cases h
   exact js22 _ _<|kw Z Z
  refine oN mv ?_;refine TO.jB h 6 (λs24=>[(43,Bo s24),(9,I s19.2),(8,eL cS v14),(7,hS false 1 u21 4 s19.1.length),(6,I s6.2),(5,eL cS v1),(4,hS false 0 u8 1 s6.1.length),(0,St text)]) (λs24=>[bE false u8 1 66 (s6.1.map<|cL MI.c),bE false u21 4 69 (s19.1.map MI.c)]) (λs24 q25 h js24=>?_) (λs24 q25 h js24=>?_) λs24 h=>?_
  ·refine gN Z q25 mv<|gN Z q25 mv<|gN Z q25 (MF.ixL Bm Z Z g13 qD)<|gN Z q25 (lf (St<|J v1 s6.2) ty9 Z)<|gN Z q25 (MF.sne Z Z)<|oN (MF.pickT Z q25 (Bo<|!decide ((J v1 s6.2)=(⟨#[]⟩:ByteArray))) Z) ?_
   cases h
   exact js24 _ _<|kw Z Z
  ·refine gS Z q25<|gS Z q25<|gS Z q25<|gS Z q25<|gS Z q25<|oN (MF.pickF Z q25 (Bo false) Z) ?_
   cases h
   exact js24 _ _<|kw Z Z
  refine jA ?_;refine jN Z h (λq26 h=>?_) λq26 h=>?_
  ·refine jG<|jH<|jE<|jC<|oN mv<|oN mv<|oN mv<|jD h λg27 h=>oN (MF.ixL Bm Z Z g27 qD)<|oN (lf (St<|J v14 s19.2) ty9 Z)<|oC h (λ_=>uD _) Z Z Z Z λv28 _ h=>oN (MF.mkF (c:=MI.c) ([v28]:List MI) [(MI.c v28)] sD Z Z Z qD MI.isF Z)<|jL h λg29 h=>oA (EvA.app1 (g:=false) (l:=s19.1) v28 sD (by kernel_rfl) Z Z Z nofun (bF.fz (l:=([v28]:List MI)) Z qD) g29)<|oN (MF.asg (hS false 1 (u21+1) 4<|(s19.1++[v28]).length) Z)<|jA ?_;refine jC<|oN mv<|jW h λg30 h=>oN (MF.add Z Z g30)<|oN as'<|jA ?_;obtain rfl:=MH h;exact ⟨((s19.1++[v28]),(s19.2+V)),u21+1,Z,trivial,kw Z Z⟩
  refine jM<|lX h λh=>?_
  cases h
  exact ⟨u21,trivial,kw Z Z⟩
 refine jM<|lX h λh=>?_
 cases h
 exact ⟨u8,trivial,kw Z Z⟩
theorem nY (r_:ak) (bI:Nat) {q} (h:iR r_=some q):eX Tryz.prog 127 [.hp 0 bI 2 0 0] [some ⟨bI,2,99,[(ak.c r_)]⟩] (.agg<|MI.c q.2) [some ⟨bI,2,99,[(ak.c q.1)]⟩]:=by
 refine aM Tryz.func127 Z (by kernel_rfl) Z<|jI<|oA (EvA.al ul Z Z)<|jA<|jI<|oN mv<|jB h λv1 cv1 h=>oA (EvA.call Z Z Z<|(aT (⟨r_.b,r_.p⟩:ak) (2:Int) bI cv1).one 0 Z (.cons (.hp Z)<|.cons (.pF Z) .nil) (aF Z) (aF Z) Z)<|oN as'<|jA<|jH<|jI<|oN mv<|jB h λv2 cv2 h=>oA (EvA.call Z Z Z<|(aT (⟨v1.1.b,v1.1.p⟩:ak) (7:Int) bI cv2).one 0 Z (.cons (.hp Z)<|.cons (.pF Z) .nil) (aF Z) (aF Z) Z)<|jA ?_;refine jE<|jI<|oN (MF.ieq Z Z)<|oN as'<|jA ?_;refine jN Z h (λq3 h=>?_) λq3 h=>?_
 ·refine jI<|oN (MF.build [I (4:Int),I U,I U,I U] Tryz.underlying69 ul jY Z Z)<|oV (sr [I (4:Int),I U,I U,I U] lS Z Z Z Z)<|jA<|jK ?_;obtain rfl:=MH h
  repeat (first|refine gY ?_|refine gZ ?_)
  exact ⟨ax [(2,.fp (MI.c (⟨(4:Int),U,U,U⟩:MI)) 0)],[some ⟨bI,2,99,[(ak.c (⟨v2.1.b,v2.1.p⟩:ak))]⟩],p8 Z (.cons (.row<|.cons (.fz<|qC Z)<|.cons (.fz<|qC Z) .nil) .nil)<|ay (.fz<|Fz.fpL (ver:=0) (s:=4) (ty:=69) (rows:=[[I (4:Int),I U,I U,I U]]) Z Z Z<|.cons (qC Z)<|.cons (qC Z)<|.cons (qC Z)<|.cons (qC Z) .nil) bS,jQ (vs:=[.agg (MI.c (⟨(4:Int),U,U,U⟩:MI))]) (.cons (.cellF (.agg<|MI.c (⟨(4:Int),U,U,U⟩:MI)) lS Z Z) .nil) ⟨Z,Z⟩⟩
 refine jI<|oN (MF.ieq Z Z)<|oN as'<|jA ?_;refine jN Z h (λq4 h=>?_) λq4 h=>?_
 ·refine jI<|oN mv<|oN mv<|jB h λv5 cv5 h=>oA (EvA.call Z Z Z<|(aT (⟨v2.1.b,v2.1.p⟩:ak) (2:Int) bI cv5).one 0 Z (.cons (.hp Z)<|.cons (.pF Z) .nil) (aF Z) (aF Z) Z)<|oN (MF.build [I (3:Int),I v1.2,I v5.2,I U] Tryz.underlying69 ul jY Z Z)<|oV (sr [I (3:Int),I v1.2,I v5.2,I U] lS Z Z Z Z)<|jA<|jK ?_;obtain rfl:=MH h
  repeat (first|refine gY ?_|refine gZ ?_)
  exact ⟨ax [(2,.fp (MI.c (⟨(3:Int),v1.2,v5.2,U⟩:MI)) 0)],[some ⟨bI,2,99,[(ak.c (⟨v5.1.b,v5.1.p⟩:ak))]⟩],p8 Z (.cons (.row<|.cons (.fz<|qC Z)<|.cons (.fz<|qC Z) .nil) .nil)<|ay (.fz<|Fz.fpL (ver:=0) (s:=4) (ty:=69) (rows:=[[I (3:Int),I v1.2,I v5.2,I U]]) Z Z Z<|.cons (qC Z)<|.cons (qC Z)<|.cons (qC Z)<|.cons (qC Z) .nil) bS,jQ (vs:=[.agg (MI.c (⟨(3:Int),v1.2,v5.2,U⟩:MI))]) (.cons (.cellF (.agg<|MI.c (⟨(3:Int),v1.2,v5.2,U⟩:MI)) lS Z Z) .nil) ⟨Z,Z⟩⟩
 refine jI<|oN (MF.ieq Z Z)<|oN as'<|jA ?_;refine jN Z h (λq6 h=>?_) λq6 h=>?_
 ·refine jI<|oN mv<|oN mv<|jB h λv7 cv7 h=>oA (EvA.call Z Z Z<|(aT (⟨v2.1.b,v2.1.p⟩:ak) (2:Int) bI cv7).one 0 Z (.cons (.hp Z)<|.cons (.pF Z) .nil) (aF Z) (aF Z) Z)<|oN mv<|jB h λv8 cv8 h=>oA (EvA.call Z Z Z<|(aT (⟨v7.1.b,v7.1.p⟩:ak) (3:Int) bI cv8).one 0 Z (.cons (.hp Z)<|.cons (.pF Z) .nil) (aF Z) (aF Z) Z)<|jW h λg9 h=>oN (MF.add Z Z g9)<|oN (MF.build [I (5:Int),I v1.2,I v7.2,I (V+v8.2)] Tryz.underlying69 ul jY Z Z)<|oV (sr [I (5:Int),I v1.2,I v7.2,I (V+v8.2)] lS Z Z Z Z)<|jA<|jK ?_;obtain rfl:=MH h
  repeat (first|refine gY ?_|refine gZ ?_)
  exact ⟨ax [(2,.fp (MI.c (⟨(5:Int),v1.2,v7.2,(V+v8.2)⟩:MI)) 0)],[some ⟨bI,2,99,[(ak.c (⟨v8.1.b,v8.1.p⟩:ak))]⟩],p8 Z (.cons (.row<|.cons (.fz<|qC Z)<|.cons (.fz<|qC Z) .nil) .nil)<|ay (.fz<|Fz.fpL (ver:=0) (s:=4) (ty:=69) (rows:=[[I (5:Int),I v1.2,I v7.2,I (V+v8.2)]]) Z Z Z<|.cons (qC Z)<|.cons (qC Z)<|.cons (qC Z)<|.cons (qC Z) .nil) bS,jQ (vs:=[.agg (MI.c (⟨(5:Int),v1.2,v7.2,(V+v8.2)⟩:MI))]) (.cons (.cellF (.agg<|MI.c (⟨(5:Int),v1.2,v7.2,(V+v8.2)⟩:MI)) lS Z Z) .nil) ⟨Z,Z⟩⟩
 refine T.jU h (λs10=>[(26,Bo s10),(3,I v1.2),(2,.hp 1 0 4 0 0),(0,.hp 0 bI 2 0 0)]) (λs10=>[some ⟨bI,2,99,[(ak.c v2.1)]⟩,some ⟨0,4,69,[[I U,I U,I U,I U]]⟩]) (λs10 h=>?_) λs10 h=>?_
 ·refine jN Z h (λq12 h=>?_) λq12 h=>?_
  ·refine jI<|oN mv<|oN mv<|jB h λv13 cv13 h=>oA (EvA.call Z Z Z<|(aT (⟨v2.1.b,v2.1.p⟩:ak) (3:Int) bI cv13).one 0 Z (.cons (.hp Z)<|.cons (.pF Z) .nil) (aF Z) (aF Z) Z)<|jW h λg14 h=>oN (MF.add Z Z g14)<|oN (MF.build [I (2:Int),I v1.2,I U,I (V+v13.2)] Tryz.underlying69 ul jY Z Z)<|oV (sr [I (2:Int),I v1.2,I U,I (V+v13.2)] lS Z Z Z Z)<|jA<|jK ?_;obtain rfl:=MH h
   repeat (first|refine gY ?_|refine gZ ?_)
   exact ⟨ax [(2,.fp (MI.c (⟨(2:Int),v1.2,U,(V+v13.2)⟩:MI)) 0)],[some ⟨bI,2,99,[(ak.c (⟨v13.1.b,v13.1.p⟩:ak))]⟩],p8 Z (.cons (.row<|.cons (.fz<|qC Z)<|.cons (.fz<|qC Z) .nil) .nil)<|ay (.fz<|Fz.fpL (ver:=0) (s:=4) (ty:=69) (rows:=[[I (2:Int),I v1.2,I U,I (V+v13.2)]]) Z Z Z<|.cons (qC Z)<|.cons (qC Z)<|.cons (qC Z)<|.cons (qC Z) .nil) bS,jQ (vs:=[.agg (MI.c (⟨(2:Int),v1.2,U,(V+v13.2)⟩:MI))]) (.cons (.cellF (.agg<|MI.c (⟨(2:Int),v1.2,U,(V+v13.2)⟩:MI)) lS Z Z) .nil) ⟨Z,Z⟩⟩
  refine jG<|jI<|oN mv<|oN mv<|jB h λv15 cv15 h=>oA (EvA.call Z Z Z<|(aT (⟨v2.1.b,v2.1.p⟩:ak) (2:Int) bI cv15).one 0 Z (.cons (.hp Z)<|.cons (.pF Z) .nil) (aF Z) (aF Z) Z)<|oN (MF.build [I V,I v1.2,I v15.2,I U] Tryz.underlying69 ul jY Z Z)<|oV (sr [I V,I v1.2,I v15.2,I U] lS Z Z Z Z)<|jA<|jK ?_;obtain rfl:=MH h
  repeat (first|refine gY ?_|refine gZ ?_)
  exact ⟨ax [(2,.fp (MI.c (⟨V,v1.2,v15.2,U⟩:MI)) 0)],[some ⟨bI,2,99,[(ak.c (⟨v15.1.b,v15.1.p⟩:ak))]⟩],p8 Z (.cons (.row<|.cons (.fz<|qC Z)<|.cons (.fz<|qC Z) .nil) .nil)<|ay (.fz<|Fz.fpL (ver:=0) (s:=4) (ty:=69) (rows:=[[I V,I v1.2,I v15.2,I U]]) Z Z Z<|.cons (qC Z)<|.cons (qC Z)<|.cons (qC Z)<|.cons (qC Z) .nil) bS,jQ (vs:=[.agg (MI.c (⟨V,v1.2,v15.2,U⟩:MI))]) (.cons (.cellF (.agg<|MI.c (⟨V,v1.2,v15.2,U⟩:MI)) lS Z Z) .nil) ⟨Z,Z⟩⟩
 refine jI<|oN (MF.ieq Z Z)<|oN as'<|jA ?_;refine jN Z h (λq11 h=>?_) λq11 h=>?_
 ·refine jG ?_
  cases h
  exact ⟨(),trivial,kw Z Z⟩
 refine jC<|oN (MF.ieq Z Z)<|oN as'<|jA ?_
 cases h
 exact ⟨(),trivial,kw Z Z⟩
theorem wH (r_:ak) (bI:Nat) {q} (h:lq r_=some q):eX Tryz.prog 108 [.hp 0 bI 2 0 0] [some ⟨bI,2,99,[(ak.c r_)]⟩] (eL (cL MI.c) q.2) [some ⟨bI,2,99,[(ak.c q.1)]⟩]:=by
 refine aM Tryz.func108 Z (by kernel_rfl) Z<|jI<|oN as'<|jA<|jI<|oC h (λ_=>uC) Z Z Z Z λv1 _ h=>oN as'<|jA ?_;obtain ⟨Ks2,es2,ws2,h,ks2⟩:=Aw h;refine T.join (S:=(LI)×Int) (G:=Unit) (λs2=>Ks2 s2=some q) (λs2 gh=>True) (λs2 gh=>[(0,.hp 0 bI 2 0 0)]) (λs2 gh=>[some ⟨bI,2,99,[[eL cY s2.1,I s2.2]]⟩]) (λs2 gh h hg=>?_) ?_
 ·clear ks2;subst es2;refine jI<|oA (EvA.mkO (c:=(cL MI.c)) ([]:List<|List MI) [] kD Z Z Z qD Z Z)<|oN (MF.asg (hS false 1 0 1<|([]:List<|List MI).length) Z)<|jA ?_;refine T.jF (G:=Nat) h (λs9 gh=>True) (λs9 gh=>[(6,hS false 1 gh 1 s9.2.2.length),(0,.hp 0 bI 2 0 0)]) (λs9 gh=>[some ⟨bI,2,99,[[eL cY s9.1,I s9.2.1]]⟩,bE false gh 1 66 (s9.2.2.map<|cL MI.c)]) (λs9 u35 h hg=>?_) λs9 h=>?_
  ·refine jH<|jI<|oN mv<|jB h λv36 cv36 h=>oA (EvA.callT Z Z (kM s9.2.2 cv36) (.cons (Fz.own (g:=false) (ver:=u35) (l:=s9.2.2) Z Z Z nofun qD) .nil) Z)<|jA ?_;refine jN Z h (λq37 h=>?_) λq37 h=>?_
   ·refine jI<|oN mv<|oN (MF.asg (hS false 1 u35 1 s9.2.2.length) Z)<|jA<|jK ?_;obtain rfl:=MH h
    repeat (first|refine gY ?_|refine gZ ?_)
    exact ⟨ax [(2,eL (cL MI.c) s9.2.2)],[some ⟨bI,2,99,[(ak.c (⟨s9.1,s9.2.1⟩:ak))]⟩],p8 Z (.cons (.row<|.cons (.fz<|qC Z)<|.cons (.fz<|qC Z) .nil) .nil)<|ay (.fz<|Fz.own (g:=false) (ver:=u35) (l:=s9.2.2) Z Z Z nofun qD) bS,jQ (vs:=[eL (cL MI.c) s9.2.2]) (.cons (.tmp Z) .nil) ⟨Z,Z⟩⟩
   refine jG<|jI<|oN mv<|jB h λv38 cv38 h=>oA (EvA.call Z Z Z<|(nY (⟨s9.1,s9.2.1⟩:ak) bI cv38).one 0 Z (.cons (.hp Z) .nil) (aF Z) (aF Z) Z)<|oN (MF.mkF (c:=MI.c) ([v38.2]:List MI) [(MI.c v38.2)] sD Z Z Z qD MI.isF Z)<|oN (MF.mkF (c:=(cL MI.c)) ([([v38.2]:List MI)]:List<|List MI) [[eL MI.c ([v38.2]:List MI)]] kD Z Z Z qD qD Z)<|oN as'<|jA<|jK ?_;obtain rfl:=MH h
   repeat (first|refine gY ?_|refine gZ ?_)
   exact ⟨ax [(2,eL (cL MI.c) ([([v38.2]:List MI)]:List<|List MI))],[some ⟨bI,2,99,[(ak.c (⟨v38.1.b,v38.1.p⟩:ak))]⟩],p8 Z (.cons (.row<|.cons (.fz<|qC Z)<|.cons (.fz<|qC Z) .nil) .nil)<|ay (.fz<|qC Z) bS,jQ (vs:=[eL (cL MI.c) ([([v38.2]:List MI)]:List<|List MI)]) (.cons (.tmp Z) .nil) ⟨Z,Z⟩⟩
  refine jI<|oN mv<|oN (MF.mkF (c:=cI) ([(2:Int),(3:Int),V]:LI) [[I (2:Int)],[I (3:Int)],[I V]] j3 Z Z Z qD qD Z)<|jB h λv10 cv10 h=>oA (EvA.call Z Z Z<|(cG (⟨s2.1,s2.2⟩:ak) ([(2:Int),(3:Int),V]:LI) bI cv10).one 0 Z (.cons (.hp Z)<|.cons (.pF Z) .nil) (aF Z) (aF Z) Z)<|oN as'<|jA<|jE ?_;refine jO (S:=(LI)×Int×(List<|List MI)×Int) (G:=Nat) iA (λs14 gh=>True) (λs14 gh=>[(7,I s14.2.2.2),(6,hS false 1 gh 1 s14.2.2.1.length),(0,.hp 0 bI 2 0 0)]) (λs14 gh=>[some ⟨bI,2,99,[[eL cY s14.1,I s14.2.1]]⟩,bE false gh 1 66 (s14.2.2.1.map<|cL MI.c)]) (s0:=(v10.1.b,v10.1.p,([]:List<|List MI),v10.2)) 0 h trivial (kw Z Z) λs14 u16 ws14 h hg=>?_;refine jH<|jI<|oN mv<|oN (MF.igt Z Z)<|jA ?_;refine jN Z h (λq17 h=>?_) λq17 h=>?_
  ·refine jG ?_;refine T.jF (G:=Nat) h (λs18 gh=>True) (λs18 gh=>[(6,hS false 1 gh 1 s18.2.2.length),(7,I s14.2.2.2),(0,.hp 0 bI 2 0 0)]) (λs18 gh=>[some ⟨bI,2,99,[[eL cY s18.1,I s18.2.1]]⟩,bE false gh 1 66 (s18.2.2.map<|cL MI.c)]) (λs18 u33 h hg=>?_) λs18 h=>?_
   ·refine jC<|oN mv<|jW h λg34 h=>oN (MF.sub Z Z g34)<|oN as'<|jA ?_;obtain rfl:=MH h;exact ⟨(s18.1,s18.2.1,s18.2.2,(s14.2.2.2-V)),u33,Z,trivial,kw Z Z⟩
   refine jE<|jI<|oA (EvA.mkO (c:=MI.c) ([]:List MI) [] sD Z Z Z qD Z Z)<|oN (MF.asg (hS false 2 0 4<|([]:List MI).length) Z)<|jA ?_;refine T.jF (G:=Nat) h (λs19 gh=>True) (λs19 gh=>[(8,hS false 2 gh 4 s19.2.2.length),(7,I s14.2.2.2),(6,hS false 1 u16 1 s14.2.2.1.length),(0,.hp 0 bI 2 0 0)]) (λs19 gh=>[some ⟨bI,2,99,[[eL cY s19.1,I s19.2.1]]⟩,bE false u16 1 66 (s14.2.2.1.map<|cL MI.c),bE false gh 4 69 (s19.2.2.map MI.c)]) (λs19 u31 h hg=>?_) λs19 h=>?_
   ·refine jC<|oN mv<|oN mv<|oA (EvA.mkR [[hS false 2 u31 4 s19.2.2.length]] kD Z Z Z Z)<|jL h λg32 h=>oA (EvA.appR (g:=false) (rows:=s14.2.2.1.map<|cL MI.c) (rows':=s14.2.2.1.map (cL MI.c)++[[hS false 2 u31 4 s19.2.2.length]]) (n':=s14.2.2.1.length+1) kD (by kernel_rfl) Z Z (by simp) nofun (bF.raw (rows:=[[hS false 2 u31 4 s19.2.2.length]]) Z Z Z) g32 Z Z)<|oN (MF.asg (hS false 1 (u16+1) 1<|s14.2.2.1.length+1) Z)<|jA ?_;obtain rfl:=MH h;exact ⟨u16+1,trivial,p8 Z (.cons (.row<|.cons (.fz<|qC Z)<|.cons (.fz<|qC Z) .nil)<|.cons (.snoc qD<|.cons (.cons (.fz<|Fz.own (g:=false) (ver:=u31) (l:=s19.2.2) Z Z Z nofun MI.isF) .nil) .nil) .nil)<|ay (.eqv (congrArg (hS false 1 (u16+1) 1) (by simp:(s14.2.2.1.length+1)=(s14.2.2.1++[s19.2.2]).length))<|.hS (g:=false) (b:=1) (ver:=u16+1) (s:=1) (n:=(s14.2.2.1++[s19.2.2]).length) Z)<|ay (.fz<|qC Z)<|ay (.hp<|nlb Z) bS⟩
   refine jI<|oN mv<|oN (MF.mkF (c:=cI) ([(2:Int),V,(3:Int),(2:Int),U]:LI) [[I (2:Int)],[I V],[I (3:Int)],[I (2:Int)],[I U]] j3 Z Z Z qD qD Z)<|jB h λv20 cv20 h=>oA (EvA.call Z Z Z<|(cG (⟨s14.1,s14.2.1⟩:ak) ([(2:Int),V,(3:Int),(2:Int),U]:LI) bI cv20).one 0 Z (.cons (.hp Z)<|.cons (.pF Z) .nil) (aF Z) (aF Z) Z)<|oN as'<|jA<|jE ?_;refine jO (S:=(LI)×Int×(List MI)×Int) (G:=Nat) iz (λs24 gh=>True) (λs24 gh=>[(9,I s24.2.2.2),(8,hS false 2 gh 4 s24.2.2.1.length),(7,I s14.2.2.2),(6,hS false 1 u16 1 s14.2.2.1.length),(0,.hp 0 bI 2 0 0)]) (λs24 gh=>[some ⟨bI,2,99,[[eL cY s24.1,I s24.2.1]]⟩,bE false u16 1 66 (s14.2.2.1.map<|cL MI.c),bE false gh 4 69 (s24.2.2.1.map MI.c)]) (s0:=(v20.1.b,v20.1.p,([]:List MI),v20.2)) 0 h trivial (kw Z Z) λs24 u26 ws24 h hg=>?_;refine jH<|jI<|oN mv<|oN (MF.igt Z Z)<|jA ?_;refine jN Z h (λq27 h=>?_) λq27 h=>?_
   ·refine jG<|jH<|jE<|jC<|oN mv<|oN mv<|jB h λv28 cv28 h=>oA (EvA.call Z Z Z<|(nY (⟨s24.1,s24.2.1⟩:ak) bI cv28).one 0 Z (.cons (.hp Z) .nil) (aF Z) (aF Z) Z)<|oN (MF.mkF (c:=MI.c) ([v28.2]:List MI) [(MI.c v28.2)] sD Z Z Z qD MI.isF Z)<|jL h λg29 h=>oA (EvA.app1 (g:=false) (l:=s24.2.2.1) v28.2 sD (by kernel_rfl) Z Z Z nofun (bF.fz (l:=([v28.2]:List MI)) Z qD) g29)<|oN (MF.asg (hS false 2 (u26+1) 4<|(s24.2.2.1++[v28.2]).length) Z)<|jA<|jC<|oN mv<|jW h λg30 h=>?_;refine oN (MF.sub Z Z g30)<|oN as'<|jA ?_;obtain rfl:=MH h;exact ⟨(v28.1.b,v28.1.p,(s24.2.2.1++[v28.2]),(s24.2.2.2-V)),u26+1,Z,trivial,kw Z Z⟩
   refine jM<|lX h λh=>?_
   cases h
   exact ⟨u26,trivial,kw Z Z⟩
  refine jM<|lX h λh=>?_
  cases h
  exact ⟨u16,trivial,kw Z Z⟩
 refine jI<|oN mv<|jB h λv3 cv3 h=>oA (EvA.call Z Z Z<|(aT (⟨r_.b,r_.p⟩:ak) (3:Int) bI cv3).one 0 Z (.cons (.hp Z)<|.cons (.pF Z) .nil) (aF Z) (aF Z) Z)<|oN (MF.igt Z Z)<|jA ?_;refine jN Z h (λq4 h=>?_) λq4 h=>?_
 ·refine jI<|oN mv<|oN mv<|oN mv<|oN (MF.lenL Bm Z)<|jB h λv5 cv5 h=>oA (EvA.call Z Z Z<|(aT (⟨v3.1.b,v3.1.p⟩:ak) (v1.length:Int) bI cv5).one 0 Z (.cons (.hp Z)<|.cons (.pF Z) .nil) (aF Z) (aF Z) Z)<|jD h λg6 h=>oN (MF.ixL Bm Z Z g6 qD)<|oN (lf (St<|J v1 v5.2) ty9 Z)<|oC h (λ_=>kN _) Z Z Z Z λv7 _ h=>oN mv<|oN (MF.ext (eL (cL MI.c) v7.1) Z Z)<|oN (MF.ext (Bo v7.2) Z Z)<|oN as'<|oN as' ?_;refine jA<|jH<|T.clean (H0:=[some ⟨bI,2,99,[(ak.c v5.1)]⟩]) (e0:=ax [(5,Bo v7.2),(4,eL (cL MI.c) v7.1),(0,.hp 0 bI 2 0 0)]) Z (ME Z<|ME Z<|ME Z MC)<|jC<|oN mv<|jA ?_;refine jN Z h (λq8 h=>?_) λq8 h=>?_
  ·refine jI<|oN mv<|oN as'<|jA<|jK ?_;obtain rfl:=MH h;replace h:=congrArg some (show _=_ from ks2);obtain rfl:=MH h
   repeat (first|refine gY ?_|refine gZ ?_)
   exact ⟨ax [(2,eL (cL MI.c) v7.1)],[some ⟨bI,2,99,[(ak.c (⟨v5.1.b,v5.1.p⟩:ak))]⟩],kw Z Z,jQ (vs:=[eL (cL MI.c) v7.1]) (.cons (.tmp Z) .nil) ⟨Z,Z⟩⟩
  refine jG ?_;obtain rfl:=MH h;exact ⟨(v5.1.b,v5.1.p),(),ks2,trivial,kw Z Z⟩
 refine jG ?_;obtain rfl:=MH h;exact ⟨(v3.1.b,v3.1.p),(),ks2,trivial,kw Z Z⟩
theorem tV (x:MI) {q} (h:jv x=some q):aW Tryz.prog 135 [.agg (MI.c x)] (Bo q):=by
 refine pM Tryz.func135 Z (by kernel_rfl) Z<|jI<|oN (MF.bxF (MI.c x) Z Z Z)<|oN as'<|jA<|jI<|oN (fa jY Z)<|oN (lf (I x.Op) MR Z)<|oN (MF.ieq Z Z)<|oN mv ?_;refine TO.jB h 4 (λs1=>[(10,Bo s1),(1,.fp (MI.c x) 0)]) (λs1=>[]) (λs1 q2 h js1=>?_) (λs1 q2 h js1=>?_) λs1 h=>?_
 ·refine gS Z q2<|gS Z q2<|gS Z q2<|oN (MF.pickT Z q2 (Bo true) Z) ?_
  cases h
  exact js1 _ _<|kw Z Z
 ·refine gN Z q2 (fa jY Z)<|gN Z q2 (lf (I x.Op) MR Z)<|gN Z q2 (MF.ieq Z Z)<|oN (MF.pickF Z q2 (Bo<|x.Op==(3:Int)) Z) ?_
  cases h
  exact js1 _ _<|kw Z Z
 refine oN mv ?_;refine TO.jB h 4 (λs3=>[(15,Bo s3)]) (λs3=>[]) (λs3 q4 h js3=>?_) (λs3 q4 h js3=>?_) λs3 h=>?_
 ·refine gS Z q4<|gS Z q4<|gS Z q4<|oN (MF.pickT Z q4 (Bo true) Z) ?_
  cases h
  exact js3 _ _<|kw Z Z
 ·refine gN Z q4 (fa jY Z)<|gN Z q4 (lf (I x.Op) MR Z)<|gN Z q4 (MF.ieq Z Z)<|oN (MF.pickF Z q4 (Bo<|x.Op==(5:Int)) Z) ?_
  cases h
  exact js3 _ _<|kw Z Z
 refine oN as'<|jA<|jK ?_
 cases h
 exact fg Z Z Z
theorem uF (x:MI) {q} (h:kv x=some q):aW Tryz.prog 106 [.agg (MI.c x)] (Bo q):=by
 refine pM Tryz.func106 Z (by kernel_rfl) Z<|jI<|oN (MF.bxF (MI.c x) Z Z Z)<|oN as'<|jA<|jI<|oN (fa jY Z)<|oN (lf (I x.Op) MR Z)<|oN (MF.ieq Z Z)<|oN mv ?_;refine TO.jB h 4 (λs1=>[(10,Bo s1)]) (λs1=>[]) (λs1 q2 h js1=>?_) (λs1 q2 h js1=>?_) λs1 h=>?_
 ·refine gS Z q2<|gS Z q2<|gS Z q2<|oN (MF.pickT Z q2 (Bo true) Z) ?_
  cases h
  exact js1 _ _<|kw Z Z
 ·refine gN Z q2 (fa jY Z)<|gN Z q2 (lf (I x.Op) MR Z)<|gN Z q2 (MF.ieq Z Z)<|oN (MF.pickF Z q2 (Bo<|x.Op==(5:Int)) Z) ?_
  cases h
  exact js1 _ _<|kw Z Z
 refine oN as'<|jA<|jK ?_
 cases h
 exact fg Z Z Z
theorem nZ (p:List<|List MI) (loc:Int) (writes:Bool) {q} (h:iS p loc writes=some q):aW Tryz.prog 120 [eL (cL MI.c) p,I loc,Bo writes] (I q):=by
 refine pM Tryz.func120 Z (by kernel_rfl) Z<|jI<|oN as'<|jA<|jI<|oN as'<|jA ?_;refine T.jU h (λs1=>[(7,I s1)]) (λs1=>[]) (λs1 h=>?_) λs1 h=>?_
 ·refine jI<|oN mv<|oN as'<|jA<|jK ?_
  cases h
  exact fg Z Z Z
 refine jI<|oN as'<|jA<|jE ?_;refine T.lU h (λs4=>[(8,I s4.1),(7,I s4.2),(0,eL (cL MI.c) p),(1,I loc),(2,Bo writes)]) (λs4=>[]) (kw Z Z) λs4 ws4 h=>?_;refine jH<|jI<|oN mv<|oN mv<|oN (MF.lenL kD Z)<|oN (MF.ilt Z Z)<|jA ?_;refine jN Z h (λq6 h=>?_) λq6 h=>?_
 ·refine jG ?_;refine T.jU h (λs7=>[(8,I s4.1),(7,I s7),(0,eL (cL MI.c) p),(1,I loc),(2,Bo writes)]) (λs7=>[]) (λs7 h=>?_) λs7 h=>?_
  ·refine jC<|oN mv<|jW h λg29 h=>oN (MF.add Z Z g29)<|oN as'<|jA ?_;exact lE h<|kw Z Z
  refine jE<|jI<|oN as'<|jA<|jE ?_;refine T.lU h (λs10=>[(9,I s10.1),(8,I s4.1),(7,I s10.2),(0,eL (cL MI.c) p),(1,I loc),(2,Bo writes)]) (λs10=>[]) (kw Z Z) λs10 ws10 h=>?_;refine jH<|jI<|oN mv<|oN mv<|oN mv<|jD h λg12 h=>oN (MF.ixL kD Z Z g12 qD)<|oN (lf (eL MI.c<|J p s4.1) zV Z)<|oN (MF.lenL sD Z)<|oN (MF.ilt Z Z)<|jA ?_;refine jN Z h (λq13 h=>?_) λq13 h=>?_
  ·refine jG ?_;refine T.jU h (λs14=>[(7,I s14),(9,I s10.1),(8,I s4.1),(0,eL (cL MI.c) p),(1,I loc),(2,Bo writes)]) (λs14=>[]) (λs14 h=>?_) λs14 h=>?_
   ·refine jC<|oN mv<|jW h λg28 h=>oN (MF.add Z Z g28)<|oN as'<|jA ?_;exact lE h<|kw Z Z
   refine jE<|jI<|oN mv<|oN mv<|oN (MF.ixL kD Z Z g12 qD)<|oN (lf (eL MI.c<|J p s4.1) zV Z)<|oN mv<|jD h λg15 h=>oN (MF.ixL sD Z Z g15 qD)<|oN (lf (.agg<|MI.c<|J (J p s4.1) s10.1) lS Z)<|oA (EvA.al ul Z Z)<|oV (sr (MI.c<|J (J p s4.1) s10.1) lS Z Z Z Z)<|jA<|jI<|oN (fa jY Z)<|oA (lh (I<|(J (J p s4.1) s10.1).Loc) MR Z Z Z) ?_;refine oN mv<|oN (MF.ieq Z Z)<|oN mv ?_;refine TO.jB h 14 (λs16=>[(51,Bo s16),(9,I s10.1),(8,I s4.1),(7,I s10.2),(0,eL (cL MI.c) p),(1,I loc),(2,Bo writes)]) (λs16=>[some ⟨0,4,69,[(MI.c<|J (J p s4.1) s10.1)]⟩]) (λs16 q17 h js16=>?_) (λs16 q17 h js16=>?_) λs16 h=>?_
   ·refine gN Z q17 mv<|gN Z q17 mv ?_;refine TO.jB h 3 (λs18=>[(42,Bo s18),(39,Bo writes),(38,Bo writes),(37,Bo<|((J (J p s4.1) s10.1).Loc)==loc),(10,.hp 0 0 4 0 0),(9,I s10.1),(8,I s4.1),(7,I s10.2),(0,eL (cL MI.c) p),(1,I loc),(2,Bo writes)]) (λs18=>[some ⟨0,4,69,[(MI.c<|J (J p s4.1) s10.1)]⟩]) (λs18 q19 h js18=>?_) (λs18 q19 h js18=>?_) λs18 h=>?_
    ·refine gA Z q19 (lh (.agg<|MI.c<|J (J p s4.1) s10.1) lS Z Z Z)<|jB h λv20 cv20 h=>gN Z q19 (MF.call Z Z Z (tV (⟨(J (J p s4.1) s10.1).Op,(J (J p s4.1) s10.1).Loc,(J (J p s4.1) s10.1).Reg,(J (J p s4.1) s10.1).Val⟩:MI) cv20) Z)<|gN Z q17 (MF.pickT Z q19 (Bo v20) Z) ?_
     cases h
     exact js18 _ _<|kw Z Z
    ·refine gS Z q19<|gS Z q19<|gN Z q17 (MF.pickF Z q19 (Bo false) Z) ?_
     cases h
     exact js18 _ _<|kw Z Z
    refine gN Z q17 mv ?_;refine TO.jB h 7 (λs21=>[(50,Bo s21),(43,Bo s18),(42,Bo s18),(39,Bo writes),(38,Bo writes),(37,Bo<|((J (J p s4.1) s10.1).Loc)==loc),(9,I s10.1),(8,I s4.1),(7,I s10.2),(0,eL (cL MI.c) p),(1,I loc),(2,Bo writes)]) (λs21=>[some ⟨0,4,69,[(MI.c<|J (J p s4.1) s10.1)]⟩]) (λs21 q22 h js21=>?_) (λs21 q22 h js21=>?_) λs21 h=>?_
    ·refine gS Z q22<|gS Z q22<|gS Z q22<|gU Z<|gU Z<|gS Z q22<|gN Z q17 (MF.pickT Z q22 (Bo true) Z) ?_
     cases h
     exact js21 _ _<|kw Z Z
    ·refine gN Z q22 mv<|gN Z q22 (MF.not Z)<|gN Z q22 mv ?_;refine TO.jB h 3 (λs23=>[(49,Bo s23),(46,Bo<|!writes),(45,Bo<|!writes),(44,Bo writes),(43,Bo s18),(42,Bo s18),(39,Bo writes),(38,Bo writes),(37,Bo<|((J (J p s4.1) s10.1).Loc)==loc),(9,I s10.1),(8,I s4.1),(7,I s10.2),(0,eL (cL MI.c) p),(1,I loc),(2,Bo writes)]) (λs23=>[some ⟨0,4,69,[(MI.c<|J (J p s4.1) s10.1)]⟩]) (λs23 q24 h js23=>?_) (λs23 q24 h js23=>?_) λs23 h=>?_
     ·refine gA Z q24 (lh (.agg<|MI.c<|J (J p s4.1) s10.1) lS Z Z Z)<|jB h λv25 cv25 h=>gN Z q24 (MF.call Z Z Z (uF (⟨(J (J p s4.1) s10.1).Op,(J (J p s4.1) s10.1).Loc,(J (J p s4.1) s10.1).Reg,(J (J p s4.1) s10.1).Val⟩:MI) cv25) Z)<|gN Z q22 (MF.pickT Z q24 (Bo v25) Z) ?_
      cases h
      exact js23 _ _<|kw Z Z
     ·refine gS Z q24<|gS Z q24<|gN Z q22 (MF.pickF Z q24 (Bo false) Z) ?_
      cases h
      exact js23 _ _<|kw Z Z
     refine gN Z q17 (MF.pickF Z q22 (Bo s23) Z) ?_
     cases h
     exact js21 _ _<|kw Z Z
    refine oN (MF.pickT Z q17 (Bo s21) Z) ?_
    cases h
    exact js16 _ _<|kw Z Z
   ·refine gS Z q17<|gS Z q17<|gU Z<|gU Z<|gS Z q17<|gS Z q17<|gU Z<|gU Z<|gU Z<|gU Z<|gU Z<|gU Z<|gS Z q17<|oN (MF.pickF Z q17 (Bo false) Z) ?_
    cases h
    exact js16 _ _<|kw Z Z
   refine jA ?_;refine jN Z h (λq26 h=>?_) λq26 h=>?_
   ·refine jC<|oN mv<|jW h λg27 h=>oN (MF.add Z Z g27)<|oN as'<|jA ?_
    cases h
    exact ⟨(),trivial,p8 Z .nil<|ay (.fz<|qC Z)<|ay (.fz<|qC Z)<|ay (.fz<|qC Z)<|ay (.fz<|qC Z)<|ay (.fz<|qC Z)<|ay (.fz<|qC Z) bS⟩
   refine jG ?_
   cases h
   exact ⟨(),trivial,p8 Z .nil<|ay (.fz<|qC Z)<|ay (.fz<|qC Z)<|ay (.fz<|qC Z)<|ay (.fz<|qC Z)<|ay (.fz<|qC Z)<|ay (.fz<|qC Z) bS⟩
  refine jM<|lX h λh=>?_
  cases h
  exact ⟨(),trivial,kw Z Z⟩
 refine jM<|lX h λh=>?_
 cases h
 exact ⟨(),trivial,kw Z Z⟩
theorem uG (p:List<|List MI) (most:Int) {q} (h:kx p most=some q):aW Tryz.prog 103 [eL (cL MI.c) p,I most] (I q):=by
 refine pM Tryz.func103 Z (by kernel_rfl) Z<|jI<|oN as'<|jA<|jI<|oN as'<|jA ?_;refine T.jU h (λs1=>[(5,I s1),(1,I most)]) (λs1=>[]) (λs1 h=>?_) λs1 h=>?_
 ·refine jH<|jI<|oN mv<|oN mv<|oN (MF.igt Z Z)<|jA ?_;refine jN Z h (λq31 h=>?_) λq31 h=>?_
  ·refine jI<|oN mv<|jW h λg32 h=>oN (MF.add Z Z g32)<|oN as'<|jA<|jK ?_
   cases h
   exact fg Z Z Z
  refine jG<|jI<|oN mv<|oN as'<|jA<|jK ?_
  cases h
  exact fg Z Z Z
 refine jI<|oN as'<|jA<|jE ?_;refine T.lU h (λs4=>[(6,I s4.1),(5,I s4.2),(0,eL (cL MI.c) p),(1,I most)]) (λs4=>[]) (kw Z Z) λs4 ws4 h=>?_;refine jH<|jI<|oN mv<|oN (MF.ile Z Z)<|jA ?_;refine jN Z h (λq6 h=>?_) λq6 h=>?_
 ·refine jG ?_;refine T.jU h (λs7=>[(6,I s4.1),(5,I s7),(0,eL (cL MI.c) p),(1,I most)]) (λs7=>[]) (λs7 h=>?_) λs7 h=>?_
  ·refine jC<|oN mv<|jW h λg30 h=>oN (MF.add Z Z g30)<|oN as'<|jA ?_;exact lE h<|kw Z Z
  refine jE<|jI<|oN mv<|oN mv<|oC h (λ_=>nZ _ _ _) Z Z Z Z λv8 _ h=>oN as'<|jA ?_;refine T.jU h (λs9=>[(7,I v8),(6,I s4.1),(5,I s9),(0,eL (cL MI.c) p),(1,I most)]) (λs9=>[]) (λs9 h=>?_) λs9 h=>?_
  ·refine jI<|oN as'<|jA<|jE ?_;refine T.lU h (λs23=>[(9,I s23.1),(7,I v8),(6,I s4.1),(5,I s23.2),(0,eL (cL MI.c) p),(1,I most)]) (λs23=>[]) (kw Z Z) λs23 ws23 h=>?_;refine jH<|jI<|oN mv<|oN mv<|oN (MF.ile Z Z)<|oN mv ?_;refine TO.jB h 4 (λs25=>[(40,Bo s25),(9,I s23.1),(7,I v8),(6,I s4.1),(5,I s23.2),(0,eL (cL MI.c) p),(1,I most)]) (λs25=>[]) (λs25 q26 h js25=>?_) (λs25 q26 h js25=>?_) λs25 h=>?_
   ·refine gN Z q26 mv<|gN Z q26 mv<|gN Z q26 (MF.ile Z Z)<|oN (MF.pickT Z q26 (Bo<|decide<|s23.2<=most) Z) ?_
    cases h
    exact js25 _ _<|kw Z Z
   ·refine gS Z q26<|gS Z q26<|gS Z q26<|oN (MF.pickF Z q26 (Bo false) Z) ?_
    cases h
    exact js25 _ _<|kw Z Z
   refine jA ?_;refine jN Z h (λq27 h=>?_) λq27 h=>?_
   ·refine jG<|jH<|jE<|jC<|oN mv<|oN mv<|jW h λg28 h=>oN (MF.mul Z Z g28)<|oN as'<|jA<|jC<|oN mv<|jW h λg29 h=>oN (MF.add Z Z g29)<|oN as'<|jA ?_;exact lE h<|kw Z Z
   refine jM<|lX h λh=>?_
   cases h
   exact ⟨(),trivial,kw Z Z⟩
  refine jI<|oN as'<|jA<|jE ?_;refine T.lU h (λs12=>[(8,I s12.1),(7,I v8),(6,I s4.1),(5,I s12.2),(0,eL (cL MI.c) p),(1,I most)]) (λs12=>[]) (kw Z Z) λs12 ws12 h=>?_;refine jH<|jI<|oN mv<|oN mv<|oN mv<|oC h (λ_=>nZ _ _ _) Z Z Z Z λv14 _ h=>oN (MF.ilt Z Z)<|oN mv ?_;refine TO.jB h 4 (λs15=>[(26,Bo s15),(8,I s12.1),(7,I v8),(6,I s4.1),(5,I s12.2),(0,eL (cL MI.c) p),(1,I most)]) (λs15=>[]) (λs15 q16 h js15=>?_) (λs15 q16 h js15=>?_) λs15 h=>?_
  ·refine gN Z q16 mv<|gN Z q16 mv<|gN Z q16 (MF.ile Z Z)<|oN (MF.pickT Z q16 (Bo<|decide<|s12.2<=most) Z) ?_
   cases h
   exact js15 _ _<|kw Z Z
  ·refine gS Z q16<|gS Z q16<|gS Z q16<|oN (MF.pickF Z q16 (Bo false) Z) ?_
   cases h
   exact js15 _ _<|kw Z Z
  refine jA ?_;refine jN Z h (λq17 h=>?_) λq17 h=>?_
  ·refine jG<|jH<|jE<|jC<|oN mv<|oN mv<|jW h λg18 h=>oN (MF.add Z Z g18)<|jW h λg19 h=>oN (MF.mul Z Z g19)<|oN as'<|jA<|jC<|oN mv<|jW h λg20 h=>oN (MF.add Z Z g20) ?_;refine oN as'<|jA ?_;exact lE h<|kw Z Z
  refine jM<|lX h λh=>?_
  cases h
  exact ⟨(),trivial,kw Z Z⟩
 refine jM<|lX h λh=>?_
 cases h
 exact ⟨(),trivial,kw Z Z⟩
theorem uH (r_:ak) (bI:Nat) {q} (h:kz r_=some q):eX Tryz.prog 85 [.hp 0 bI 2 0 0] [some ⟨bI,2,99,[(ak.c r_)]⟩] (eL (cL MI.c) q.2) [some ⟨bI,2,99,[(ak.c q.1)]⟩]:=by
 refine aM Tryz.func85 Z (by kernel_rfl) Z<|jI<|oN as'<|jA<|jI<|oN mv<|jB h λv1 cv1 h=>oA (EvA.call Z Z Z<|(wH (⟨r_.b,r_.p⟩:ak) bI cv1).one 0 Z (.cons (.hp Z) .nil) (aF Z) (aF Z) Z)<|oN as'<|jA<|jH<|jI<|oN mv<|oC h (λ_=>uG _ _) Z Z Z Z λv2 _ h=>oN (MF.ile Z Z)<|jA ?_;refine jN Z h (λq3 h=>?_) λq3 h=>?_
 ·refine jI<|oN mv<|oN as'<|jA<|jK ?_;obtain rfl:=MH h
  repeat (first|refine gY ?_|refine gZ ?_)
  exact ⟨ax [(2,eL (cL MI.c) v1.2)],[some ⟨bI,2,99,[(ak.c (⟨v1.1.b,v1.1.p⟩:ak))]⟩],kw Z Z,jQ (vs:=[eL (cL MI.c) v1.2]) (.cons (.tmp Z) .nil) ⟨Z,Z⟩⟩
 refine jG<|jI<|oC h (λ_=>kN _) Z Z Z Z λv4 _ h=>oN mv<|oN (MF.ext (eL (cL MI.c) v4.1) Z Z)<|oN (MF.ext (Bo v4.2) Z Z)<|oN as'<|oN as'<|jA<|jI<|oN mv<|oN as'<|jA<|jK ?_;obtain rfl:=MH h
 repeat (first|refine gY ?_|refine gZ ?_)
 exact ⟨ax [(2,eL (cL MI.c) v4.1)],[some ⟨bI,2,99,[(ak.c (⟨v1.1.b,v1.1.p⟩:ak))]⟩],kw Z Z,jQ (vs:=[eL (cL MI.c) v4.1]) (.cons (.tmp Z) .nil) ⟨Z,Z⟩⟩
theorem wI (code:LI) {q} (h:nJ code=some q):aW Tryz.prog 65 [eL cY code] (.tup [eL (cL MI.c) q.1,I q.2.1,I q.2.2]):=by
 refine pM Tryz.func65 Z (by kernel_rfl) Z<|jI<|oN as'<|oN as'<|oN as'<|jA<|jI<|oN mv<|jB h λv1 cv1 h=>oA (EvA.call Z Z Z<|(uB code cv1).fresh Z (aF Z) 0 Z)<|oN as'<|jA<|jI<|oN mv<|oN mv<|jB h λv2 cv2 h=>?_;refine oA (EvA.call Z Z Z<|(uH (⟨v1.b,v1.p⟩:ak) 0 cv2).one 0 Z (.cons (.hp Z) .nil) (aF Z) (aF Z) Z)<|jB h λv3 cv3 h=>oA (EvA.call Z Z Z<|(tN (⟨v2.1.b,v2.1.p⟩:ak) v2.2 0 cv3).one 0 Z (.cons (.hp Z)<|.cons (.pF Z) .nil) (aF Z) (aF Z) Z)<|oN as'<|jA<|jI<|oN mv<|oN mv<|oN (MF.mkF (c:=cI) ([(0:Int),V,U,(2:Int),(-1:Int)]:LI) [[I U],[I V],[I U],[I (2:Int)],[I (-1:Int)]] j3 Z Z Z qD qD Z)<|jB h λv4 cv4 h=>oA (EvA.call Z Z Z<|(cG (⟨v3.1.b,v3.1.p⟩:ak) ([(0:Int),V,U,(2:Int),(-1:Int)]:LI) 0 cv4).one 0 Z (.cons (.hp Z)<|.cons (.pF Z) .nil) (aF Z) (aF Z) Z)<|oN mv<|oN (MF.mkF (c:=cI) ([V,U,(2:Int),(3:Int)]:LI) [[I V],[I U],[I (2:Int)],[I (3:Int)]] j3 Z Z Z qD qD Z)<|jB h λv5 cv5 h=>oA (EvA.call Z Z Z<|(cG (⟨v4.1.b,v4.1.p⟩:ak) ([V,U,(2:Int),(3:Int)]:LI) 0 cv5).one 0 Z (.cons (.hp Z)<|.cons (.pF Z) .nil) (aF Z) (aF Z) Z)<|oN as' ?_;refine oN as'<|oN as'<|jA<|jK ?_;obtain rfl:=MH h
 repeat (first|refine gY ?_|refine gZ ?_)
 exact jQ (vs:=[eL (cL MI.c) v3.2,I v4.2,I v5.2]) (.cons (.tmp Z)<|.cons (.tmp Z)<|.cons (.tmp Z) .nil)<|.tupL<|.cons (qC Z)<|.cons (qC Z)<|.cons (qC Z) .nil
theorem m6 (code:LI) {q} (h:ek code=some q):aW Tryz.prog 22 [eL cY code] (.tup [eL (cL MI.c) q.1,I q.2.1,I q.2.2]):=by
 refine pM Tryz.func22 Z (by kernel_rfl) Z<|jI<|oN as'<|oN as'<|oN as'<|jA<|jI<|oN mv<|oC h (λ_=>wI _) Z Z Z Z λv1 _ h=>oN (MF.ext (eL (cL MI.c) v1.1) Z Z)<|oN (MF.ext (I v1.2.1) Z Z)<|oN (MF.ext (I v1.2.2) Z Z)<|oN as'<|oN as'<|oN as'<|jA ?_;refine jK ?_;obtain rfl:=MH h
 repeat (first|refine gY ?_|refine gZ ?_)
 exact jQ (vs:=[eL (cL MI.c) v1.1,I v1.2.1,I v1.2.2]) (.cons (.tmp Z)<|.cons (.tmp Z)<|.cons (.tmp Z) .nil)<|.tupL<|.cons (qC Z)<|.cons (qC Z)<|.cons (qC Z) .nil
theorem nP (x:Int) {q} (h:iq x=some q):aW Tryz.prog 105 [I x] (Bo q):=by
 refine pM Tryz.func105 Z (by kernel_rfl) Z<|jI<|oN as'<|jA<|jI<|oN mv<|oC h (λ_=>lW _ _ _) Z Z Z Z λv1 _ h=>oN (MF.not Z)<|oN as'<|jA<|jK ?_
 cases h
 exact fg Z Z Z
theorem eB (s:LI) {q} (h:bi s=some q):aW Tryz.prog 121 [eL cI s,.fn (.func 105) []] (I q):=by
 refine pM Tryz.func121 Z (by kernel_rfl) Z<|jI<|oN as'<|jA ?_;obtain ⟨Ks1,es1,ws1,h,ks1⟩:=Aw h;refine T.join (S:=Unit) (G:=Unit) (λs1=>Ks1 s1=some q) (λs1 gh=>True) (λs1 gh=>[]) (λs1 gh=>[]) (λs1 gh h hg=>?_) ?_
 ·clear ks1;subst es1;refine jI<|oN as'<|jA<|jK ?_
  cases h
  exact fg Z Z Z
 refine jI<|oN mv<|oN (MF.lenL j3 Z)<|oN mv<|jA<|jE ?_;refine T.lU h (λs4=>[(8,I s4),(7,I (s.length:Int)),(0,eL cI s),(1,.fn (.func 105) [])]) (λs4=>[]) (kw Z Z) λs4 ws4 h=>?_;refine jI<|oN (MF.ilt Z Z)<|jA<|jH ?_;refine jN Z h (λq6 h=>?_) λq6 h=>?_
 ·refine jG<|jH<|jE<|jI<|oN mv<|oN as'<|jA<|jI<|oN mv<|oN mv<|oN mv<|jD h λg7 h=>oN (MF.ixL j3 Z Z g7 qD)<|oN (lf (I<|J s s4) MR Z)<|oC h (λ_=>nP _) Z Z Z Z λv8 _ h=>jA ?_;refine jN Z h (λq9 h=>?_) λq9 h=>?_
  ·refine jI<|oN mv<|oN as'<|jA<|jK<|lX h λh=>?_;obtain rfl:=MH h;replace h:=congrArg some (show _=_ from ks1)
   cases h
   exact fg Z Z Z
  refine jG<|jC<|jW h λg10 h=>oN (MF.add Z Z g10)<|oN mv<|jA ?_;exact lE h<|kw Z Z
 refine jM<|lX h λh=>?_
 cases h
 exact ⟨(),(),ks1,trivial,kw Z Z⟩
theorem dP (s:LI) {q} (h:bg s=some q):aW Tryz.prog 104 [eL cI s,.fn (.func 105) []] (Bo q):=by
 refine pM Tryz.func104 Z (by kernel_rfl) Z<|jI<|oN as'<|jA<|jI<|oN mv<|oN mv<|oC h (λ_=>eB _) Z Z Z Z λv1 _ h=>oN (MF.ige Z Z)<|oN as'<|jA<|jK ?_
 cases h
 exact fg Z Z Z
theorem pK (p:List<|List MI) (o_:LI) {q} (h:fU p o_=some q):aW Tryz.prog 71 [eL (cL MI.c) p,eL cI o_] (Bo q):=by
 refine pM Tryz.func71 Z (by kernel_rfl) Z<|jI<|oN as'<|jA<|jI<|oN mv<|oC h (λ_=>dx _) Z Z Z Z λv1 _ h=>oN mv ?_;refine TO.jB h 9 (λs2=>[(16,Bo s2),(1,eL cI o_)]) (λs2=>[]) (λs2 q3 h js2=>?_) (λs2 q3 h js2=>?_) λs2 h=>?_
 ·refine gN Z q3 mv<|gN Z q3 (MF.lenL j3 Z)<|gN Z q3 mv<|gN Z q3 (MF.lenL kD Z)<|jW h λg4 h=>gN Z q3 (MF.mul Z Z g4)<|jW h λg5 h=>gN Z q3 (MF.add Z Z g5)<|jW h λg6 h=>gN Z q3 (MF.add Z Z g6)<|gN Z q3 (MF.ieq Z Z)<|oN (MF.pickT Z q3 (Bo<|(o_.length:Int)==((((3:Int)*(p.length:Int))+(2:Int))+V)) Z) ?_
  cases h
  exact js2 _ _<|kw Z Z
 ·refine gS Z q3<|gS Z q3<|gS Z q3<|gS Z q3<|gS Z q3<|gS Z q3<|gS Z q3<|gS Z q3<|oN (MF.pickF Z q3 (Bo false) Z) ?_
  cases h
  exact js2 _ _<|kw Z Z
 refine oN mv ?_;refine TO.jB h 4 (λs7=>[(21,Bo s7)]) (λs7=>[]) (λs7 q8 h js7=>?_) (λs7 q8 h js7=>?_) λs7 h=>?_
 ·refine gN Z q8 mv<|jB h λv9 cv9 h=>gN Z q8 (MF.call Z Z Z (dP o_ cv9) Z)<|gN Z q8 (MF.not Z)<|oN (MF.pickT Z q8 (Bo<|!v9) Z) ?_
  cases h
  exact js7 _ _<|kw Z Z
 ·refine gS Z q8<|gS Z q8<|gS Z q8<|oN (MF.pickF Z q8 (Bo false) Z) ?_
  cases h
  exact js7 _ _<|kw Z Z
 refine oN as'<|jA<|jK ?_
 cases h
 exact fg Z Z Z
theorem m7 (p:List<|List MI) (t:Int) {q} (h:iw p t=some q):aW Tryz.prog 66 [eL (cL MI.c) p,I t] (Bo q):=by
 refine pM Tryz.func66 Z (by kernel_rfl) Z<|jI<|oN as'<|jA<|jI<|oN mv<|oC h (λ_=>dx _) Z Z Z Z λv1 _ h=>oN mv ?_;refine TO.jB h 6 (λs2=>[(13,Bo s2)]) (λs2=>[]) (λs2 q3 h js2=>?_) (λs2 q3 h js2=>?_) λs2 h=>?_
 ·refine gN Z q3 mv<|gN Z q3 mv<|gN Z q3 (MF.lenL kD Z)<|jW h λg4 h=>gN Z q3 (MF.sub Z Z g4)<|jB h λv5 cv5 h=>gN Z q3 (MF.call Z Z Z (lW t U ((p.length:Int)-V) cv5) Z)<|oN (MF.pickT Z q3 (Bo v5) Z) ?_
  cases h
  exact js2 _ _<|kw Z Z
 ·refine gS Z q3<|gS Z q3<|gS Z q3<|gS Z q3<|gS Z q3<|oN (MF.pickF Z q3 (Bo false) Z) ?_
  cases h
  exact js2 _ _<|kw Z Z
 refine oN as'<|jA<|jK ?_
 cases h
 exact fg Z Z Z
theorem qG (loc:Int) {q} (h:kL loc=some q):aW Tryz.prog 72 [I loc] (Bo q):=by
 refine pM Tryz.func72 Z (by kernel_rfl) Z<|jI<|oN as'<|jA<|jI<|oN mv<|oC h (λ_=>lW _ _ _) Z Z Z Z λv1 _ h=>oN as'<|jA<|jK ?_
 cases h
 exact fg Z Z Z
theorem mK (s:LI) {q} (h:j5 s=some q):cQ Tryz.prog 73 [eL cI s] [] (zx 1 3 (λx=>x) q.length (q.map cI) 0 []):=by
 refine cQ.mkO Tryz.func73 Z (by kernel_rfl) Z (by kernel_rfl) (e0:=ax [(0,eL cI s)]) (ME Z MC) iC (gp qD)<|jI<|oN as'<|jA<|jH<|jI<|oN mv ?_;refine Lj false Tryz.underlying41 Z Z (λz1=>?_) ?_
 ·replace h:=(oO h).1 (by rw [z1];rfl);refine jA ?_;refine T.cond Z (λ_=>?_) λq=>absurd (q.symm.trans Z) (by decide);refine jI<|oN as'<|jA<|jK ?_;obtain rfl:=MH h
  repeat (first|refine gY ?_|refine gZ ?_)
  exact jQ (vs:=[.nil]) (.cons (.tmp Z) .nil) ⟨0,true,0,λ_=>Z,Z,nofun⟩
 replace h:=(oO h).2;refine jA ?_;refine T.cond Z (λq=>absurd (q.symm.trans Z)<|by decide) λ_=>?_;refine jG<|jI<|oA (EvA.mkO (c:=cI) ([]:LI) [] j3 Z Z Z qD Z Z)<|oN mv<|jL h λg2 h=>oA (EvA.appF (l:=([]:LI)) s j3 (by kernel_rfl) Z Z Z (bF.fz (l:=s) Z qD) g2)<|oN (MF.asg (hS false 0 (0+1) 1<|(([]:LI)++s).length) Z)<|jA<|jK ?_;obtain rfl:=MH h
 repeat (first|refine gY ?_|refine gZ ?_)
 exact jQ (vs:=[hS false 0 (0+1) 1 ((([]:LI)++s).length)]) (.cons (.tmp Z) .nil) ⟨0,false,0+1,nofun,Z,ownB Z⟩
theorem wJ (x:Int) (i:Int) (k_:Int) {q} (h:lu x i k_=some q):aW Tryz.prog 74 [I x,I i,I k_] (I q):=by
 refine pM Tryz.func74 Z (by kernel_rfl) Z<|jI<|oN as'<|jA<|jH<|jI<|oN mv<|jA<|jE<|jI<|oN mv<|oN (MF.ieq Z Z)<|oN as'<|jA ?_;refine jN Z h (λq1 h=>?_) λq1 h=>?_
 ·refine jI<|oN mv<|oN as'<|jA<|jK ?_
  cases h
  exact fg Z Z Z
 refine jI<|oN mv<|oN (MF.ieq Z Z)<|oN as'<|jA ?_;refine jN Z h (λq2 h=>?_) λq2 h=>?_
 ·refine jI<|oN mv<|oN as'<|jA<|jK ?_
  cases h
  exact fg Z Z Z
 refine jG<|jI<|oN mv<|oN as'<|jA<|jK ?_
 cases h
 exact fg Z Z Z
theorem qo (p:List<|List MI) (o_:LI) (i:Int) (k_:Int) (x:Int) (y:Int) {q} (h:eM p o_ i k_ x y=some q):aW Tryz.prog 25 [eL (cL MI.c) p,eL cI o_,I i,I k_,I x,I y] (.tup [eL cI q.1,Bo q.2]):=by
 let d0:=((3:Int)*(p.length:Int));refine pM Tryz.func25 Z (by kernel_rfl) Z<|jI<|oN as'<|oN as'<|jA<|jH<|jI<|oN mv<|oN mv<|oC h (λ_=>pK _ _) Z Z Z Z λv1 _ h=>oN (MF.not Z)<|oN mv ?_;refine TO.jB h 5 (λs2=>[(27,Bo s2),(0,eL (cL MI.c) p),(1,eL cI o_),(2,I i),(3,I k_),(4,I x),(5,I y)]) (λs2=>[]) (λs2 q3 h js2=>?_) (λs2 q3 h js2=>?_) λs2 h=>?_
 ·refine gS Z q3<|gS Z q3<|gS Z q3<|gS Z q3<|oN (MF.pickT Z q3 (Bo true) Z) ?_
  cases h
  exact js2 _ _<|kw Z Z
 ·refine gN Z q3 mv<|gN Z q3 mv<|jB h λv4 cv4 h=>gN Z q3 (MF.call Z Z Z (m7 p i cv4) Z)<|gN Z q3 (MF.not Z)<|oN (MF.pickF Z q3 (Bo<|!v4) Z) ?_
  cases h
  exact js2 _ _<|kw Z Z
 refine oN mv ?_;refine TO.jB h 5 (λs5=>[(33,Bo s5),(0,eL (cL MI.c) p),(1,eL cI o_),(2,I i),(3,I k_),(4,I x),(5,I y)]) (λs5=>[]) (λs5 q6 h js5=>?_) (λs5 q6 h js5=>?_) λs5 h=>?_
 ·refine gS Z q6<|gS Z q6<|gS Z q6<|gS Z q6<|oN (MF.pickT Z q6 (Bo true) Z) ?_
  cases h
  exact js5 _ _<|kw Z Z
 ·refine gN Z q6 mv<|gN Z q6 mv<|jB h λv7 cv7 h=>gN Z q6 (MF.call Z Z Z (m7 p k_ cv7) Z)<|gN Z q6 (MF.not Z)<|oN (MF.pickF Z q6 (Bo<|!v7) Z) ?_
  cases h
  exact js5 _ _<|kw Z Z
 refine oN mv ?_;refine TO.jB h 4 (λs8=>[(38,Bo s8),(0,eL (cL MI.c) p),(1,eL cI o_),(2,I i),(3,I k_),(4,I x),(5,I y)]) (λs8=>[]) (λs8 q9 h js8=>?_) (λs8 q9 h js8=>?_) λs8 h=>?_
 ·refine gS Z q9<|gS Z q9<|gS Z q9<|oN (MF.pickT Z q9 (Bo true) Z) ?_
  cases h
  exact js8 _ _<|kw Z Z
 ·refine gN Z q9 mv<|jB h λv10 cv10 h=>gN Z q9 (MF.call Z Z Z (qG x cv10) Z)<|gN Z q9 (MF.not Z)<|oN (MF.pickF Z q9 (Bo<|!v10) Z) ?_
  cases h
  exact js8 _ _<|kw Z Z
 refine oN mv ?_;refine TO.jB h 4 (λs11=>[(43,Bo s11),(0,eL (cL MI.c) p),(1,eL cI o_),(2,I i),(3,I k_),(4,I x),(5,I y)]) (λs11=>[]) (λs11 q12 h js11=>?_) (λs11 q12 h js11=>?_) λs11 h=>?_
 ·refine gS Z q12<|gS Z q12<|gS Z q12<|oN (MF.pickT Z q12 (Bo true) Z) ?_
  cases h
  exact js11 _ _<|kw Z Z
 ·refine gN Z q12 mv<|jB h λv13 cv13 h=>gN Z q12 (MF.call Z Z Z (qG y cv13) Z)<|gN Z q12 (MF.not Z)<|oN (MF.pickF Z q12 (Bo<|!v13) Z) ?_
  cases h
  exact js11 _ _<|kw Z Z
 refine jA ?_;refine jN Z h (λq14 h=>?_) λq14 h=>?_
 ·refine jI<|oN as'<|oN as'<|jA<|jK ?_;obtain rfl:=MH h
  repeat (first|refine gY ?_|refine gZ ?_)
  exact jQ (vs:=[.nil,Bo false]) (.cons (.tmp Z)<|.cons (.tmp Z) .nil)<|.tupL<|.cons .nil0<|.cons (qC Z) .nil
 refine jG<|jI<|oN mv<|jB h λv15 cv15 h=>?_;refine oG Z Z Z ((mK o_ cv15).own Z (gp qD) iC 0 Z) λg16 v17 n18=>?_;refine oN (MF.asg (hS g16 0 v17 1 v15.length) Z)<|jA ?_;refine T.jF (G:=(Bool×Nat)) h (λs19 gh=>(gh.1=true->s19=[])) (λs19 gh=>[(14,hS gh.1 0 gh.2 1 s19.length),(0,eL (cL MI.c) p),(1,eL cI o_),(4,I x),(5,I y)]) (λs19 gh=>[bE gh.1 gh.2 1 3 (s19.map cI)]) (λs19 gh h n60=>?_) λs19 h=>?_
 ·obtain ⟨b59,u58⟩:=gh;refine jI<|oN mv<|oN (MF.lenL kD Z)<|jW h λg61 h=>oN (MF.mul Z Z g61)<|oN as'<|jA<|jH<|jP (dG [dF,dF,dF,dF,dF,dF,dF,dF,dF,dF,dF,dF,dF,dF,dF,dF,dF,dF,dF,dF,dF,([0],true),dF,([0],true)]) (by kernel_rfl) (by kernel_rfl)<|fN Z mv<|fN Z mv<|fN Z mv<|jW h λg62 h=>fN Z (MF.add Z Z g62)<|fN Z mv<|fN Z mv ?_;refine fN Z mv<|jW h λg63 h=>fN Z (MF.add Z Z g63)<|fN Z mv<|fN Z mv<|fN Z mv<|fN Z (MF.add Z Z g63)<|jD h λg64 h=>fN Z (MF.ixL j3 Z Z g64 qD)<|fN Z (lf (I<|J o_<|d0+y) MR Z)<|fN Z mv<|fN Z mv<|fN Z mv<|fN Z (MF.add Z Z g62)<|jD h λg65 h=>fN Z (MF.ixL j3 Z Z g65 qD) ?_;refine fN Z (lf (I<|J o_<|d0+x) MR Z)<|jD h λg66 h=>?_;obtain rfl:=l9 n60 rfl g66;refine fN Z (MF.ixO (g:=false) j3 Z Z nofun g66)<|fV 0 [] Z Z (λG hG=>EvA.stO (g:=false) (l:=s19) (cs:=[I (J o_<|d0+y)]) (J o_<|d0+y) MR Z Z (hG.a0 Z) nofun (bB Z g66) Z Z Z)<|jD h λg67 h=>fN Z (MF.ixO (g:=false) j3 Z Z nofun g67)<|fV 0 [] Z Z (λG hG=>EvA.stO (g:=false) (l:=(s19.set ((d0+x).toNat)<|J o_<|d0+y)) (cs:=[I (J o_<|d0+x)]) (J o_<|d0+x) MR Z Z (hG.a0 Z) nofun (bB (by simp) g67) Z Z Z)<|jR<|jH<|T.clean (H0:=[bE false u58 1 3 (((s19.set ((d0+x).toNat)<|J o_<|d0+y).set ((d0+y).toNat)<|J o_<|d0+x).map cI)]) (e0:=ax [(14,hS false 0 u58 1 s19.length)]) Z (ME Z MC)<|jC<|oN mv<|oN (MF.asg (hS false 0 u58 1 s19.length) Z)<|oN as'<|jA<|jK ?_;obtain rfl:=MH h
  repeat (first|refine gY ?_|refine gZ ?_)
  exact jQ (vs:=[hS false 0 u58 1 s19.length,Bo true]) (.cons (.tmp Z)<|.cons (.tmp Z) .nil)<|.tupL<|.cons (Fz.own (g:=false) (ver:=u58) (l:=((s19.set ((d0+x).toNat)<|J o_<|d0+y).set ((d0+y).toNat)<|J o_<|d0+x)) Z Z (by simp) nofun qD)<|.cons (qC Z) .nil
 refine jI<|oN mv<|oN (MF.lenL kD Z)<|oN mv<|jA<|jE ?_;refine jO (S:=(LI)×Int) (G:=(Bool×Nat)) (gK p o_ i k_) (λs28 gh=>(gh.1=true->s28.1=[])) (λs28 gh=>[(48,I s28.2),(47,I (p.length:Int)),(14,hS gh.1 0 gh.2 1 s28.1.length),(0,eL (cL MI.c) p),(1,eL cI o_),(2,I i),(3,I k_),(4,I x),(5,I y)]) (λs28 gh=>[bE gh.1 gh.2 1 3 (s28.1.map cI)]) (s0:=(v15,U)) (g16,v17) h (λx=>Ug<|n18 x) (kw Z Z) λs28 gh ws28 h n32=>?_;obtain ⟨b31,u30⟩:=gh;refine jI<|oN (MF.ilt Z Z)<|jA<|jH ?_;refine jN Z h (λq33 h=>?_) λq33 h=>?_
 ·refine jG ?_;refine T.jF (G:=(Bool×Nat)) h (λs34 gh=>(gh.1=true->s34=[])) (λs34 gh=>[(48,I s28.2),(47,I (p.length:Int)),(14,hS gh.1 0 gh.2 1 s34.length),(0,eL (cL MI.c) p),(1,eL cI o_),(2,I i),(3,I k_),(4,I x),(5,I y)]) (λs34 gh=>[bE gh.1 gh.2 1 3 (s34.map cI)]) (λs34 gh h n56=>?_) λs34 h=>?_
  ·obtain ⟨b55,u54⟩:=gh;refine jC<|jW h λg57 h=>oN (MF.add Z Z g57)<|oN mv<|jA ?_;obtain rfl:=MH h;exact ⟨(s34,(s28.2+V)),(b55,u54),Z,n56,kw Z Z⟩
  refine jE<|jI<|oN mv<|oN as'<|jA<|jI<|oN mv<|jA<|jE ?_;refine jO (S:=(LI)×Int) (G:=(Bool×Nat)) (gJ o_ i k_ s28) (λs40 gh=>(gh.1=true->s40.1=[])) (λs40 gh=>[(51,I s40.2),(15,I s28.2),(48,I s28.2),(47,I (p.length:Int)),(14,hS gh.1 0 gh.2 1 s40.1.length),(0,eL (cL MI.c) p),(1,eL cI o_),(2,I i),(3,I k_),(4,I x),(5,I y)]) (λs40 gh=>[bE gh.1 gh.2 1 3 (s40.1.map cI)]) (s0:=(s28.1,U)) (b31,u30) h n32 (kw Z Z) λs40 gh ws40 h n44=>?_;obtain ⟨b43,u42⟩:=gh;refine jI<|oN (MF.ilt Z Z)<|jA<|jH ?_;refine jN Z h (λq45 h=>?_) λq45 h=>?_
  ·refine jG<|jH<|jE<|jI<|oN mv<|oN as'<|jA<|jP (dG [dF,dF,dF,dF,dF,dF,dF,dF,dF,dF,dF,dF,dF,dF,dF,dF,([0],true)]) (by kernel_rfl) (by kernel_rfl)<|fN Z mv<|fN Z mv<|fN Z mv<|fN Z mv<|fC h (λ_=>wJ _ _ _) Z Z Z Z Z λv46 _ h=>jW h λg47 h=>fN Z (MF.mul Z Z g47)<|fN Z mv ?_;refine jW h λg48 h=>fN Z (MF.add Z Z g48)<|fN Z mv<|fN Z mv<|jW h λg49 h=>fN Z (MF.mul Z Z g49)<|fN Z mv<|jW h λg50 h=>fN Z (MF.add Z Z g50)<|jD h λg51 h=>fN Z (MF.ixL j3 Z Z g51 qD)<|fN Z (lf (I<|J o_<|((3:Int)*s28.2)+s40.2) MR Z)<|jD h λg52 h=>?_;obtain rfl:=l9 n44 rfl g52;refine fN Z (MF.ixO (g:=false) j3 Z Z nofun g52)<|fV 0 [] Z Z (λG hG=>EvA.stO (g:=false) (l:=s40.1) (cs:=[I (J o_<|((3:Int)*s28.2)+s40.2)]) (J o_<|((3:Int)*s28.2)+s40.2) MR Z Z (hG.a0 Z) nofun (bB Z g52) Z Z Z)<|jR<|T.clean (H0:=[bE false u42 1 3 ((s40.1.set ((((3:Int)*v46)+s40.2).toNat)<|J o_<|((3:Int)*s28.2)+s40.2).map cI)]) (e0:=ax [(51,I s40.2),(15,I s28.2),(48,I s28.2),(47,I (p.length:Int)),(14,hS false 0 u42 1 s40.1.length),(0,eL (cL MI.c) p),(1,eL cI o_),(2,I i),(3,I k_),(4,I x),(5,I y)]) Z (ME Z<|ME Z<|ME Z<|ME Z<|ME Z<|ME Z<|ME Z<|ME Z<|ME Z<|ME Z<|ME Z MC)<|jC<|jW h λg53 h=>oN (MF.add Z Z g53)<|oN mv<|jA ?_;obtain rfl:=MH h;exact ⟨((s40.1.set ((((3:Int)*v46)+s40.2).toNat)<|J o_<|((3:Int)*s28.2)+s40.2),(s40.2+(1:Int))),(false,u42),Z,nofun,CP Z<|ME Z<|ME Z<|ME Z<|ME Z<|ME (congrArg (hS false 0 u42 1) (by simp:s40.1.length=(s40.1.set ((((3:Int)*v46)+s40.2).toNat)<|J o_<|((3:Int)*s28.2)+s40.2).length))<|ME Z<|ME Z<|ME Z<|ME Z<|ME Z<|ME Z MC⟩
  refine jM<|lX h λh=>?_
  cases h
  exact ⟨(b43,u42),n44,kw Z Z⟩
 refine jM<|lX h λh=>?_
 cases h
 exact ⟨(b31,u30),n32,kw Z Z⟩
theorem r9 (list:LL) (o_:LI) {q} (h:gu list o_=some q):aW Tryz.prog 26 [eL (cL cI) list,eL cI o_] (Bo q):=by
 refine pM Tryz.func26 Z (by kernel_rfl) Z<|jI<|oN as'<|jA ?_;obtain ⟨Ks1,es1,ws1,h,ks1⟩:=Aw h;refine T.join (S:=Unit) (G:=Unit) (λs1=>Ks1 s1=some q) (λs1 gh=>True) (λs1 gh=>[]) (λs1 gh=>[]) (λs1 gh h hg=>?_) ?_
 ·clear ks1;subst es1;refine jI<|oN as'<|jA<|jK ?_
  cases h
  exact fg Z Z Z
 refine jI<|oN as'<|jA<|jE ?_;refine T.lU h (λs4=>[(5,I s4),(0,eL (cL cI) list),(1,eL cI o_)]) (λs4=>[]) (kw Z Z) λs4 ws4 h=>?_;refine jH<|jI<|oN mv<|oN mv<|oN (MF.lenL wK Z)<|oN (MF.ilt Z Z)<|jA ?_;refine jN Z h (λq6 h=>?_) λq6 h=>?_
 ·refine jG<|jH<|jE<|jI<|oN mv<|oN mv<|jD h λg7 h=>oN (MF.ixL wK Z Z g7 qD)<|oN (lf (eL cI<|J list s4) DJ Z)<|oN mv<|oC h (λ_=>wF _ _) Z Z Z Z λv8 _ h=>jA ?_;refine jN Z h (λq9 h=>?_) λq9 h=>?_
  ·refine jI<|oN as'<|jA<|jK<|lX h λh=>?_;obtain rfl:=MH h;replace h:=congrArg some (show _=_ from ks1)
   cases h
   exact fg Z Z Z
  refine jG<|jC<|oN mv<|jW h λg10 h=>oN (MF.add Z Z g10)<|oN as'<|jA ?_;exact lE h<|kw Z Z
 refine jM<|lX h λh=>?_
 cases h
 exact ⟨(),(),ks1,trivial,kw Z Z⟩
theorem oD (code:LI) {q} (h:dE code=some q):aW Tryz.prog 5 [eL cY code] (Bo q):=by
 refine pM Tryz.func5 Z (by kernel_rfl) Z<|jI<|oN as'<|jA<|jH<|jI<|oN mv<|oN (MF.lenL oh Z)<|oN (MF.igt Z Z)<|jA ?_;refine jN Z h (λq1 h=>?_) λq1 h=>?_
 ·refine jI<|oN as'<|jA<|jK ?_
  cases h
  exact fg Z Z Z
 refine jG<|jI<|oN mv<|oC h (λ_=>m6 _) Z Z Z Z λv2 _ h=>oN mv<|oN (MF.ext (eL (cL MI.c) v2.1) Z Z)<|oN (MF.ext (I v2.2.1) Z Z)<|oN (MF.ext (I v2.2.2) Z Z)<|oN as'<|oN as'<|oN as'<|jA<|jI<|oN mv<|oN mv<|oN mv ?_;refine oC h (λ_=>qg _ _ _) Z Z Z Z λv3 _ h=>oN mv<|oN (MF.ext (eL (cL MI.c) v3.1) Z Z)<|oN (MF.ext (Bo v3.2) Z Z)<|oN as'<|oN as'<|jA<|jH<|T.clean (H0:=[]) (e0:=ax [(7,Bo v3.2),(6,eL (cL MI.c) v3.1),(5,I v2.2.2),(4,I v2.2.1),(3,eL (cL MI.c) v2.1)]) Z (ME Z<|ME Z<|ME Z<|ME Z<|ME Z MC)<|jC<|oN mv<|oN mv<|oN mv<|oC h (λ_=>qi _ _ _) Z Z Z Z λv4 _ h=>oN mv<|oN (MF.ext (eL (cL MI.c) v4.1) Z Z) ?_;refine oN (MF.ext (Bo v4.2) Z Z)<|oN as'<|oN as'<|jA<|jH<|jI<|oN mv<|oN mv<|oN (MF.bne bt4 Z Z)<|oN mv ?_;refine TO.jB h 5 (λs5=>[(48,Bo s5),(9,Bo v4.2),(8,eL (cL MI.c) v4.1),(7,Bo v3.2),(6,eL (cL MI.c) v3.1),(5,I v2.2.2),(4,I v2.2.1),(3,eL (cL MI.c) v2.1)]) (λs5=>[]) (λs5 q6 h js5=>?_) (λs5 q6 h js5=>?_) λs5 h=>?_
 ·refine gS Z q6<|gS Z q6<|gS Z q6<|gS Z q6<|oN (MF.pickT Z q6 (Bo true) Z) ?_
  cases h
  exact js5 _ _<|kw Z Z
 ·refine gN Z q6 mv<|gN Z q6 mv<|jB h λv7 cv7 h=>gN Z q6 (MF.call Z Z Z (kX v3.1 v4.1 cv7) Z)<|gN Z q6 (MF.not Z)<|oN (MF.pickF Z q6 (Bo<|!v7) Z) ?_
  cases h
  exact js5 _ _<|kw Z Z
 refine oN mv ?_;refine TO.jB h 3 (λs8=>[(52,Bo s8),(9,Bo v4.2),(8,eL (cL MI.c) v4.1),(7,Bo v3.2),(6,eL (cL MI.c) v3.1),(5,I v2.2.2),(4,I v2.2.1),(3,eL (cL MI.c) v2.1)]) (λs8=>[]) (λs8 q9 h js8=>?_) (λs8 q9 h js8=>?_) λs8 h=>?_
 ·refine gS Z q9<|gS Z q9<|oN (MF.pickT Z q9 (Bo true) Z) ?_
  cases h
  exact js8 _ _<|kw Z Z
 ·refine gN Z q9 mv<|gN Z q9 (MF.not Z)<|oN (MF.pickF Z q9 (Bo<|!v3.2) Z) ?_
  cases h
  exact js8 _ _<|kw Z Z
 refine jA ?_;refine jN Z h (λq10 h=>?_) λq10 h=>?_
 ·refine jI<|oN mv<|oN mv<|oN (MF.beq bt4 Z Z)<|oN mv ?_;refine TO.jB h 4 (λs11=>[(60,Bo s11)]) (λs11=>[]) (λs11 q12 h js11=>?_) (λs11 q12 h js11=>?_) λs11 h=>?_
  ·refine gN Z q12 mv<|gN Z q12 mv<|jB h λv13 cv13 h=>gN Z q12 (MF.call Z Z Z (kX v3.1 v4.1 cv13) Z)<|oN (MF.pickT Z q12 (Bo v13) Z) ?_
   cases h
   exact js11 _ _<|kw Z Z
  ·refine gS Z q12<|gS Z q12<|gS Z q12<|oN (MF.pickF Z q12 (Bo false) Z) ?_
   cases h
   exact js11 _ _<|kw Z Z
  refine oN as'<|jA<|jK ?_
  cases h
  exact fg Z Z Z
 refine jG<|jI<|oN (MF.mkF (c:=cS) ([(⟨#[115,101,113]⟩:ByteArray),(⟨#[116,115,111]⟩:ByteArray),(⟨#[112,115,111]⟩:ByteArray),(⟨#[114,97]⟩:ByteArray)]:List ByteArray) [[St (⟨#[115,101,113]⟩:ByteArray)],[St (⟨#[116,115,111]⟩:ByteArray)],[St (⟨#[112,115,111]⟩:ByteArray)],[St (⟨#[114,97]⟩:ByteArray)]] Bm Z Z Z qD qD Z)<|oN as'<|jA ?_;obtain ⟨Ks14,es14,ws14,h,ks14⟩:=Aw h;refine T.join (S:=Unit) (G:=Unit) (λs14=>Ks14 s14=some q) (λs14 gh=>True) (λs14 gh=>[]) (λs14 gh=>[]) (λs14 gh h hg=>?_) ?_
 ·clear ks14;subst es14;refine jI<|oN as'<|jA<|jK ?_
  cases h
  exact fg Z Z Z
 refine jI<|oN as'<|jA<|jE ?_;refine T.lU h (λs17=>[(11,I s17),(10,eL cS ([(⟨#[115,101,113]⟩:ByteArray),(⟨#[116,115,111]⟩:ByteArray),(⟨#[112,115,111]⟩:ByteArray),(⟨#[114,97]⟩:ByteArray)]:List ByteArray)),(6,eL (cL MI.c) v3.1),(5,I v2.2.2),(4,I v2.2.1),(3,eL (cL MI.c) v2.1)]) (λs17=>[]) (kw Z Z) λs17 ws17 h=>?_;refine jH<|jI<|oN mv<|oN mv<|oN (MF.lenL Bm Z)<|oN (MF.ilt Z Z)<|jA ?_;refine jN Z h (λq19 h=>?_) λq19 h=>?_
 ·refine jG ?_;obtain ⟨Ks20,es20,ws20,h,ks20⟩:=Aw h;refine T.join (S:=Unit) (G:=Unit) (λs20=>Ks20 s20=some ws17) (λs20 gh=>True) (λs20 gh=>[(11,I s17),(10,eL cS ([(⟨#[115,101,113]⟩:ByteArray),(⟨#[116,115,111]⟩:ByteArray),(⟨#[112,115,111]⟩:ByteArray),(⟨#[114,97]⟩:ByteArray)]:List ByteArray)),(6,eL (cL MI.c) v3.1),(5,I v2.2.2),(4,I v2.2.1),(3,eL (cL MI.c) v2.1)]) (λs20 gh=>[]) (λs20 gh h hg=>?_) ?_
  ·clear ks20;subst es20;refine jC<|oN mv<|jW h λg38 h=>oN (MF.add Z Z g38)<|oN as'<|jA ?_;exact lE h<|kw Z Z
  refine jE<|jI<|oN mv<|oN mv<|oN mv<|jD h λg21 h=>oN (MF.ixL Bm Z Z g21 qD)<|oN (lf (St<|J ([(⟨#[115,101,113]⟩:ByteArray),(⟨#[116,115,111]⟩:ByteArray),(⟨#[112,115,111]⟩:ByteArray),(⟨#[114,97]⟩:ByteArray)]:List ByteArray) s17) ty9 Z)<|oC h (λ_=>jf _ _) Z Z Z Z λv22 _ h=>oN as'<|jA<|jI<|oN mv<|oN mv<|oN mv<|oN (MF.ixL Bm Z Z g21 qD) ?_;refine oN (lf (St<|J ([(⟨#[115,101,113]⟩:ByteArray),(⟨#[116,115,111]⟩:ByteArray),(⟨#[112,115,111]⟩:ByteArray),(⟨#[114,97]⟩:ByteArray)]:List ByteArray) s17) ty9 Z)<|oC h (λ_=>jf _ _) Z Z Z Z λv23 _ h=>oN as'<|jA ?_;obtain ⟨Ks24,es24,ws24,h,ks24⟩:=Aw h;refine T.join (S:=Unit) (G:=Unit) (λs24=>Ks24 s24=some ws20) (λs24 gh=>True) (λs24 gh=>[(13,eL (cL cI) v23),(12,eL (cL cI) v22),(11,I s17),(10,eL cS ([(⟨#[115,101,113]⟩:ByteArray),(⟨#[116,115,111]⟩:ByteArray),(⟨#[112,115,111]⟩:ByteArray),(⟨#[114,97]⟩:ByteArray)]:List ByteArray)),(6,eL (cL MI.c) v3.1),(5,I v2.2.2),(4,I v2.2.1),(3,eL (cL MI.c) v2.1)]) (λs24 gh=>[]) (λs24 gh h hg=>?_) ?_
  ·clear ks24;subst es24;refine jI<|oN mv<|oN (MF.lenL wK Z)<|oN mv<|oN (MF.lenL wK Z)<|oN (MF.ine Z Z)<|jA ?_;refine jN Z h (λq37 h=>?_) λq37 h=>?_
   ·refine jI<|oN as'<|jA<|jK ?_;obtain rfl:=MH h;replace h:=congrArg some (show _=_ from ks20);refine lX h λh=>?_;obtain rfl:=MH h;replace h:=congrArg some (show _=_ from ks14)
    cases h
    exact fg Z Z Z
   refine jG ?_
   cases h
   exact ⟨(),(),ks20,trivial,kw Z Z⟩
  refine jH<|T.clean (H0:=[]) (e0:=ax [(13,eL (cL cI) v23),(12,eL (cL cI) v22),(11,I s17),(10,eL cS ([(⟨#[115,101,113]⟩:ByteArray),(⟨#[116,115,111]⟩:ByteArray),(⟨#[112,115,111]⟩:ByteArray),(⟨#[114,97]⟩:ByteArray)]:List ByteArray)),(6,eL (cL MI.c) v3.1),(5,I v2.2.2),(4,I v2.2.1),(3,eL (cL MI.c) v2.1)]) Z (ME Z<|ME Z<|ME Z<|ME Z<|ME Z<|ME Z<|ME Z<|ME Z MC)<|jC<|oN as'<|jA<|jE ?_;refine T.lU h (λs27=>[(14,I s27),(13,eL (cL cI) v23),(12,eL (cL cI) v22),(11,I s17),(10,eL cS ([(⟨#[115,101,113]⟩:ByteArray),(⟨#[116,115,111]⟩:ByteArray),(⟨#[112,115,111]⟩:ByteArray),(⟨#[114,97]⟩:ByteArray)]:List ByteArray)),(6,eL (cL MI.c) v3.1),(5,I v2.2.2),(4,I v2.2.1),(3,eL (cL MI.c) v2.1)]) (λs27=>[]) (kw Z Z) λs27 ws27 h=>?_;refine jH<|jI<|oN mv<|oN mv<|oN (MF.lenL wK Z)<|oN (MF.ilt Z Z)<|jA ?_;refine jN Z h (λq29 h=>?_) λq29 h=>?_
  ·refine jG<|jH<|jE<|jI<|oN mv<|oN mv<|oN mv<|jD h λg30 h=>oN (MF.ixL wK Z Z g30 qD)<|oN (lf (eL cI<|J v22 s27) DJ Z)<|oN mv<|oN mv<|oC h (λ_=>qo _ _ _ _ _ _) Z Z Z Z λv31 _ h=>oN mv<|oN (MF.ext (eL cI v31.1) Z Z)<|oN (MF.ext (Bo v31.2) Z Z) ?_;refine oN as'<|oN as'<|jA<|jI<|oN mv<|oN (MF.not Z)<|oN mv ?_;refine TO.jB h 5 (λs32=>[(104,Bo s32),(14,I s27),(13,eL (cL cI) v23),(12,eL (cL cI) v22),(11,I s17),(10,eL cS ([(⟨#[115,101,113]⟩:ByteArray),(⟨#[116,115,111]⟩:ByteArray),(⟨#[112,115,111]⟩:ByteArray),(⟨#[114,97]⟩:ByteArray)]:List ByteArray)),(6,eL (cL MI.c) v3.1),(5,I v2.2.2),(4,I v2.2.1),(3,eL (cL MI.c) v2.1)]) (λs32=>[]) (λs32 q33 h js32=>?_) (λs32 q33 h js32=>?_) λs32 h=>?_
   ·refine gS Z q33<|gS Z q33<|gS Z q33<|gS Z q33<|oN (MF.pickT Z q33 (Bo true) Z) ?_
    cases h
    exact js32 _ _<|kw Z Z
   ·refine gN Z q33 mv<|gN Z q33 mv<|jB h λv34 cv34 h=>gN Z q33 (MF.call Z Z Z (r9 v23 v31.1 cv34) Z)<|gN Z q33 (MF.not Z)<|oN (MF.pickF Z q33 (Bo<|!v34) Z) ?_
    cases h
    exact js32 _ _<|kw Z Z
   refine jA ?_;refine jN Z h (λq35 h=>?_) λq35 h=>?_
   ·refine jI<|oN as'<|jA<|jK<|lX h λh=>?_;obtain rfl:=MH h;replace h:=congrArg some (show _=_ from ks24);obtain rfl:=MH h;replace h:=congrArg some (show _=_ from ks20);refine lX h λh=>?_;obtain rfl:=MH h;replace h:=congrArg some (show _=_ from ks14)
    cases h
    exact fg Z Z Z
   refine jG<|jC<|oN mv<|jW h λg36 h=>oN (MF.add Z Z g36)<|oN as'<|jA ?_;exact lE h<|kw Z Z
  refine jM<|lX h λh=>?_
  cases h
  exact ⟨(),(),ks24,trivial,kw Z Z⟩
 refine jM<|lX h λh=>?_
 cases h
 exact ⟨(),(),ks14,trivial,kw Z Z⟩
end
end Go.Proofs.YtjcmfddobaplbaaGreat
