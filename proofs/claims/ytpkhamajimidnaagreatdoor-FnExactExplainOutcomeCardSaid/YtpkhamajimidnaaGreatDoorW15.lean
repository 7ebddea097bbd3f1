/- Texts joined. No conditions. -/
import Derived.OpenShut
import Derived.Carry
import Derived.ChangeOld
import Derived.RowKit
import Derived.LaidMore
import Derived.LaidSub
import Derived.MakeChecks
import Derived.Test.YtpkhamajimidnaaGreatDoorW14
namespace Go.Proofs.YtpkhamajimidnaaGreatDoor
noncomputable section
open _root_.List renaming replicate -> Wj, eq_nil_of_length_eq_zero -> Wm, getElem?_map -> Wn
set_option maxHeartbeats 4000000
open Go.RowKit
set_option maxRecDepth 100000
theorem xe (p:List (List Px)) {q} (h:mS p=some q):cg Tryz.prog 85 [eL (cL Px.c) p] [] (Fb 2 34 (λx=>x) q.length (q.map Py.c) 0 []):=by
 refine cg.mkO Tryz.func85 Z (by kernel_rfl) Z (by kernel_rfl) (e0:=ai [(0,eL (cL Px.c) p)]) (Ps Z Pq) qI (qF Py.isF) (jI (oN as' (jA (jI (oN mv (oC h (λ_=>jp _) Z Z Z Z λv1 _ h=>oN as' (jA (jH (T.reserve (jC (oN (Pt.asg (hS true 0 0 1 (([]:LL).length)) Z) (jA ?_))))))))))));refine T.jF (G:=(Bool×Nat)) h (λs2 gh=>(gh.1=true->s2=[])) (λs2 gh=>[(4,hS gh.1 0 gh.2 1 s2.length),(3,eL Pz.c v1)]) (λs2 gh=>[bE gh.1 gh.2 1 23 (s2.map (cL cI))]) (λs2 gh h n29=>?_) (λs2 h=>?_)
 ·obtain ⟨b28,u27⟩:=gh;refine T.cut (e0:=ai [(4,eL (cL cI) s2),(3,eL Pz.c v1)]) (H0:=[]) (ow Z .nil (ae (.fz (Fz.own (g:=b28) (ver:=u27) (l:=s2) Z Z Z n29 qD)) (ae (.fz (qC Z)) aN))) (jH (T.reserve (jC (oN (Pt.asg (hS true 0 0 1 (([]:List (LL)).length)) Z) (jA ?_)))));refine T.jF (G:=(Bool×Nat)) h (λs30 gh=>(gh.1=true->s30=[])) (λs30 gh=>[(8,hS gh.1 0 gh.2 1 s30.length),(4,eL (cL cI) s2)]) (λs30 gh=>[bE gh.1 gh.2 1 24 (s30.map (cL (cL cI)))]) (λs30 gh h n70=>?_) (λs30 h=>?_)
  ·obtain ⟨b69,u68⟩:=gh;refine T.cut (e0:=ai [(8,eL (cL (cL cI)) s30),(4,eL (cL cI) s2)]) (H0:=[]) (ow Z .nil (ae (.fz (Fz.own (g:=b69) (ver:=u68) (l:=s30) Z Z Z n70 qD)) (ae (.fz (qC Z)) aN))) (jH (T.reserve (jC (oN (Pt.asg (hS true 0 0 2 (([]:List Py).length)) Z) (jA ?_)))));refine T.jF (G:=(Bool×Nat)) h (λs71 gh=>(gh.1=true->s71=[])) (λs71 gh=>[(13,hS gh.1 0 gh.2 2 s71.length)]) (λs71 gh=>[bE gh.1 gh.2 2 34 (s71.map Py.c)]) (λs71 gh h n108=>?_) (λs71 h=>?_)
   ·obtain ⟨b107,u106⟩:=gh;refine jI (oN mv (oN (Pt.asg (hS b107 0 u106 2 s71.length) Z) (jA (jK ?_))));obtain rfl:=Pw h
    repeat (first|refine iA ?_|refine iB ?_)
    exact jQ (vs:=[hS b107 0 u106 2 s71.length]) (.cons (.tmp Z) .nil) ⟨0,b107,u106,(tP n108 Z),Z,ownB Z⟩
   refine jI (oN mv (oC h (λ_=>uL _) Z Z Z Z λv72 _ h=>oN (Pt.lenL gT Z) (oN mv (jA (jE ?_)))));refine jO (S:=(List Py)×Int) (G:=(Bool×Nat)) (dV s30 v72) (λs78 gh=>(gh.1=true->s78.1=[])) (λs78 gh=>[(70,I s78.2),(69,I (v72.length:Int)),(68,eL (cL cI) v72),(13,hS gh.1 0 gh.2 2 s78.1.length),(8,eL (cL (cL cI)) s30)]) (λs78 gh=>[bE gh.1 gh.2 2 34 (s78.1.map Py.c)]) (s0:=(([]:List Py),U)) (true,0) h qD (kw Z Z) (λs78 gh ws78 h n82=>?_);obtain ⟨b81,u80⟩:=gh;refine jI (oN (Pt.ilt Z Z) (jA (jH ?_)));refine jN Z h (λq83 h=>?_) (λq83 h=>?_)
   ·refine jG ?_;refine T.jF (G:=(Bool×Nat)) h (λs84 gh=>(gh.1=true->s84=[])) (λs84 gh=>[(70,I s78.2),(69,I (v72.length:Int)),(68,eL (cL cI) v72),(13,hS gh.1 0 gh.2 2 s84.length),(8,eL (cL (cL cI)) s30)]) (λs84 gh=>[bE gh.1 gh.2 2 34 (s84.map Py.c)]) (λs84 gh h n104=>?_) (λs84 h=>?_)
    ·obtain ⟨b103,u102⟩:=gh;refine jC (jW h λg105 h=>oN (Pt.add Z Z g105) (oN mv (jA ?_)));obtain rfl:=Pw h;exact ⟨(s84,(s78.2+V)),(b103,u102),Z,n104,kw Z Z⟩
    refine jE (jI (jD h λg85 h=>oN (Pt.ixL gT Z Z g85 qD) (oN (lf (eL cI (J v72 s78.2)) mZ Z) (oN as' (jA (jI (oN mv (oC h (λ_=>yB _) Z Z Z Z λv86 _ h=>oN (Pt.lenL sP Z) (oN mv (jA (jE ?_)))))))))));refine jO (S:=(List Py)×Int) (G:=(Bool×Nat)) (dU v72 s78 v86) (λs92 gh=>(gh.1=true->s92.1=[])) (λs92 gh=>[(77,I s92.2),(76,I (v86.length:Int)),(75,eL (cL (cL cI)) v86),(15,eL cI (J v72 s78.2)),(70,I s78.2),(69,I (v72.length:Int)),(68,eL (cL cI) v72),(13,hS gh.1 0 gh.2 2 s92.1.length),(8,eL (cL (cL cI)) s30)]) (λs92 gh=>[bE gh.1 gh.2 2 34 (s92.1.map Py.c)]) (s0:=(s78.1,U)) (b81,u80) h n82 (kw Z Z) (λs92 gh ws92 h n96=>?_);obtain ⟨b95,u94⟩:=gh;refine jI (oN (Pt.ilt Z Z) (jA (jH ?_)));refine jN Z h (λq97 h=>?_) (λq97 h=>?_)
    ·refine jG (jH (jE (jI (jD h λg98 h=>oN (Pt.ixL sP Z Z g98 qD) (oN (lf (eL (cL cI) (J v86 s92.2)) zT Z) (oN as' (jA (jC (oN mv (oN mv (oN mv (oN (Pt.build [eL cI (J v72 s78.2),eL (cL cI) (J v86 s92.2)] Tryz.underlying34 I2 r9 Z Z) (oC h (λ_=>xd _) Z Z Z Z λv99 _ h=>oN (Pt.mkF (c:=Py.c) ([v99]:List Py) [(Py.c v99)] AQ Z Z Z qD Py.isF Z) ?_)))))))))))));refine jL h λg100 h=>oA (EvA.app1 (g:=b95) (l:=s92.1) v99 AQ (by kernel_rfl) Z Z Z n96 (bf.fz (l:=([v99]:List Py)) Z qD) g100) (oN (Pt.asg (hS false 0 (u94+1) 2 ((s92.1++[v99]).length)) Z) (jA (jC (jW h λg101 h=>oN (Pt.add Z Z g101) (oN mv (jA ?_))))));obtain rfl:=Pw h;exact ⟨((s92.1++[v99]),(s92.2+V)),(false,u94+1),Z,nofun,kw Z Z⟩
    refine jM (lX h λh=>?_)
    cases h
    exact ⟨(b95,u94),n96,kw Z Z⟩
   refine jM (lX h λh=>?_)
   cases h
   exact ⟨(b81,u80),n82,kw Z Z⟩
  refine jI (oN mv (jA (jE ?_)));refine jO (S:=(List (LL))×Int) (G:=(Bool×Nat)) (iy v1) (λs36 gh=>(gh.1=true->s36.1=[])) (λs36 gh=>[(41,I s36.2),(8,hS gh.1 0 gh.2 1 s36.1.length),(4,eL (cL cI) s2),(3,eL Pz.c v1)]) (λs36 gh=>[bE gh.1 gh.2 1 24 (s36.1.map (cL (cL cI)))]) (s0:=(([]:List (LL)),U)) (true,0) h qD (kw Z Z) (λs36 gh ws36 h n40=>?_);obtain ⟨b39,u38⟩:=gh;refine jI (oN (Pt.ilt Z Z) (jA (jH ?_)));refine jN Z h (λq41 h=>?_) (λq41 h=>?_)
  ·refine jG ?_;refine T.jF (G:=Nat) h (λs42 gh=>True) (λs42 gh=>[(8,hS false 0 gh 1 s42.length),(41,I s36.2),(4,eL (cL cI) s2),(3,eL Pz.c v1)]) (λs42 gh=>[bE false gh 1 24 (s42.map (cL (cL cI)))]) (λs42 u66 h hg=>?_) (λs42 h=>?_)
   ·refine jC (jW h λg67 h=>oN (Pt.add Z Z g67) (oN mv (jA ?_)));obtain rfl:=Pw h;exact ⟨(s42,(s36.2+V)),(false,u66),Z,nofun,kw Z Z⟩
   refine jE (jI (oN mv (oN as' (jA (jH (T.reserve (jC (oN (Pt.asg (hS true 1 0 1 (([]:LL).length)) Z) (jA ?_)))))))));refine T.jF (G:=(Bool×Nat)) h (λs43 gh=>(gh.1=true->s43=[])) (λs43 gh=>[(10,hS gh.1 1 gh.2 1 s43.length),(41,I s36.2),(8,hS b39 0 u38 1 s36.1.length),(4,eL (cL cI) s2),(3,eL Pz.c v1)]) (λs43 gh=>[bE b39 u38 1 24 (s36.1.map (cL (cL cI))),bE gh.1 gh.2 1 23 (s43.map (cL cI))]) (λs43 gh h n64=>?_) (λs43 h=>?_)
   ·obtain ⟨b63,u62⟩:=gh;refine jC (oN mv (oN mv (oA (EvA.mkR [[hS b63 1 u62 1 s43.length]] sP (by generalize b63=gq0;cases gq0 <;> rfl) Z Z Z) (jL h λg65 h=>oA (EvA.appR (g:=b39) (rows:=s36.1.map (cL (cL cI))) (rows':=s36.1.map (cL (cL cI))++[[hS b63 1 u62 1 s43.length]]) (n':=s36.1.length+1) sP (by kernel_rfl) Z Z (by simp) (λq=>by first | (rw [n40 q];rfl) | (cases q)) (bf.raw (rows:=[[hS b63 1 u62 1 s43.length]]) Z Z Z) g65 Z Z) (oN (Pt.asg (hS false 0 (u38+1) 1 (s36.1.length+1)) Z) (jA ?_))))));obtain rfl:=Pw h;exact ⟨u38+1,trivial,ow Z (.cons (.snoc qD (.cons (.cons (.fz (Fz.own (g:=b63) (ver:=u62) (l:=s43) Z Z Z n64 qD)) .nil) .nil)) .nil) (ae (.eqv (congrArg (hS false 0 (u38+1) 1) (by simp:(s36.1.length+1)=(s36.1++[s43]).length)) (.hS (g:=false) (b:=0) (ver:=u38+1) (s:=1) (n:=(s36.1++[s43]).length) Z)) (ae (.fz (qC Z)) (ae (.fz (qC Z)) (ae (.fz (qC Z)) aN))))⟩
   refine jI (oN mv (oN mv (oC h (λ_=>wR _ _) Z Z Z Z λv44 _ h=>jD h λg45 h=>oN (Pt.slL aD Z (.yes Z) .no g45 qD) (oC h (λ_=>Bl _) Z Z Z Z λv46 _ h=>oN (Pt.lenL gT Z) (oN mv (jA (jE ?_)))))));refine jO (S:=(LL)×Int) (G:=(Bool×Nat)) (iw s36 v46) (λs52 gh=>(gh.1=true->s52.1=[])) (λs52 gh=>[(50,I s52.2),(49,I (v46.length:Int)),(48,eL (cL cI) v46),(10,hS gh.1 1 gh.2 1 s52.1.length),(9,I s36.2),(41,I s36.2),(8,hS b39 0 u38 1 s36.1.length),(4,eL (cL cI) s2),(3,eL Pz.c v1)]) (λs52 gh=>[bE b39 u38 1 24 (s36.1.map (cL (cL cI))),bE gh.1 gh.2 1 23 (s52.1.map (cL cI))]) (s0:=(([]:LL),U)) (true,0) h qD (kw Z Z) (λs52 gh ws52 h n56=>?_);obtain ⟨b55,u54⟩:=gh;refine jI (oN (Pt.ilt Z Z) (jA (jH ?_)));refine jN Z h (λq57 h=>?_) (λq57 h=>?_)
   ·refine jG (jH (jE (jI (jD h λg58 h=>oN (Pt.ixL gT Z Z g58 qD) (oN (lf (eL cI (J v46 s52.2)) mZ Z) (oN as' (jA (jC (oN mv (oN mv (oA (EvA.mkO (c:=cI) ([s36.2]:LI) [[I s36.2]] aD Z Z Z qD Z Z) (oN mv (jL h λg59 h=>oA (EvA.appF (l:=([s36.2]:LI)) (J v46 s52.2) aD (by kernel_rfl) Z Z Z (bf.fz (l:=(J v46 s52.2)) Z qD) g59) ?_)))))))))))));refine oA (EvA.mkR [[hS false 2 (0+1) 1 ((([s36.2]:LI)++(J v46 s52.2)).length)]] gT Z Z Z Z) (jL h λg60 h=>oA (EvA.appR (g:=b55) (rows:=s52.1.map (cL cI)) (rows':=s52.1.map (cL cI)++[[hS false 2 (0+1) 1 ((([s36.2]:LI)++(J v46 s52.2)).length)]]) (n':=s52.1.length+1) gT (by kernel_rfl) Z Z (by simp) (λq=>by first | (rw [n56 q];rfl) | (cases q)) (bf.raw (rows:=[[hS false 2 (0+1) 1 ((([s36.2]:LI)++(J v46 s52.2)).length)]]) Z Z Z) g60 Z Z) (oN (Pt.asg (hS false 1 (u54+1) 1 (s52.1.length+1)) Z) (jA (T.cut (e0:=ai [(10,hS false 1 (u54+1) 1 ((s52.1++[(([s36.2]:LI)++(J v46 s52.2))]).length)),(50,I s52.2),(49,I (v46.length:Int)),(48,eL (cL cI) v46),(9,I s36.2),(41,I s36.2),(8,hS b39 0 u38 1 s36.1.length),(4,eL (cL cI) s2),(3,eL Pz.c v1)]) (H0:=[bE b39 u38 1 24 (s36.1.map (cL (cL cI))),bE false (u54+1) 1 23 ((s52.1++[(([s36.2]:LI)++(J v46 s52.2))]).map (cL cI))]) (ow Z (.cons (.list (g:=b39) (ver:=u38) (l:=s36.1) qD) (.cons (.snoc qD (.cons (.cons (.fz (Fz.own (g:=false) (ver:=0+1) (l:=(([s36.2]:LI)++(J v46 s52.2))) Z Z Z nofun qD)) .nil) .nil)) .nil)) (ae (.eqv (congrArg (hS false 1 (u54+1) 1) (by simp:(s52.1.length+1)=(s52.1++[(([s36.2]:LI)++(J v46 s52.2))]).length)) (.hS (g:=false) (b:=1) (ver:=u54+1) (s:=1) (n:=(s52.1++[(([s36.2]:LI)++(J v46 s52.2))]).length) Z)) (ae (.fz (qC Z)) (ae (.fz (qC Z)) (ae (.fz (qC Z)) (ae (.fz (qC Z)) (ae (.fz (qC Z)) (ae (.hS (g:=b39) (b:=0) (ver:=u38) (s:=1) (n:=s36.1.length) Z) (ae (.fz (qC Z)) (ae (.fz (qC Z)) aN)))))))))) (jC (jW h λg61 h=>oN (Pt.add Z Z g61) (oN mv (jA ?_))))))));obtain rfl:=Pw h;exact ⟨((s52.1++[(([s36.2]:LI)++(J v46 s52.2))]),(s52.2+V)),(false,u54+1),Z,nofun,kw Z Z⟩
   refine jM (lX h λh=>?_)
   cases h
   exact ⟨(b55,u54),n56,kw Z Z⟩
  refine jM (lX h λh=>?_)
  cases h
  exact ⟨(b39,u38),n40,kw Z Z⟩
 refine jI (oN mv (oN (Pt.lenL pG Z) (oN mv (jA (jE ?_)))));refine jO (S:=(LL)×Int) (G:=(Bool×Nat)) (jb v1) (λs8 gh=>(gh.1=true->s8.1=[])) (λs8 gh=>[(22,I s8.2),(21,I (v1.length:Int)),(20,eL Pz.c v1),(4,hS gh.1 0 gh.2 1 s8.1.length),(3,eL Pz.c v1)]) (λs8 gh=>[bE gh.1 gh.2 1 23 (s8.1.map (cL cI))]) (s0:=(([]:LL),U)) (true,0) h qD (kw Z Z) (λs8 gh ws8 h n12=>?_);obtain ⟨b11,u10⟩:=gh;refine jI (oN (Pt.ilt Z Z) (jA (jH ?_)));refine jN Z h (λq13 h=>?_) (λq13 h=>?_)
 ·refine jG (jH (jE (jI (oN mv (jD h λg14 h=>oN (Pt.ixL pG Z Z g14 qD) (oN (lf (.agg (Pz.c (J v1 s8.2))) vB Z) (oA (EvA.al zs3 Z Z) (oA (EvA.al Ee Z Z) (oV (sr [I s8.2] PL Z Z Z Z) (oV (sr (Pz.c (J v1 s8.2)) vB Z Z Z Z) (TO.cut (e0:=ai [(6,.fp (Pz.c (⟨(J v1 s8.2).Thread,(J v1 s8.2).Index,(J v1 s8.2).Loc,(J v1 s8.2).Reads,(J v1 s8.2).az⟩:Pz)) 0),(5,.fp (cI s8.2) 0),(22,I s8.2),(21,I (v1.length:Int)),(20,eL Pz.c v1),(4,hS b11 0 u10 1 s8.1.length),(3,eL Pz.c v1)]) (H0:=[bE b11 u10 1 23 (s8.1.map (cL cI))]) (ow Z (.cons (.list (g:=b11) (ver:=u10) (l:=s8.1) qD) .nil) (ae (.fz (Fz.fpL (ver:=0) (s:=5) (ty:=80) (rows:=[[I ((J v1 s8.2).Thread),I ((J v1 s8.2).Index),I ((J v1 s8.2).Loc),Bo ((J v1 s8.2).Reads),Bo ((J v1 s8.2).az)]]) Z Z Z (.cons (qC Z) (.cons (qC Z) (.cons (qC Z) (.cons (qC Z) (.cons (qC Z) .nil))))))) (ae (.fz (Fz.fpL (ver:=0) (s:=1) (ty:=3) (rows:=[[I s8.2]]) Z Z Z (.cons (qC Z) .nil))) (ae (.fz (qC Z)) (ae (.fz (qC Z)) (ae (.fz (qC Z)) (ae (.hS (g:=b11) (b:=0) (ver:=u10) (s:=1) (n:=s8.1.length) Z) (ae (.fz (qC Z)) aN)))))))) (jA (jI (oN (Pt.mkF (c:=cI) ([(-1:Int)]:LI) [[I (-1:Int)]] aD Z Z Z qD qD Z) ?_))))))))))))));refine oN as' (jA ?_);refine T.jU h (λs15=>[(7,eL cI s15),(22,I s8.2),(21,I (v1.length:Int)),(20,eL Pz.c v1),(4,hS b11 0 u10 1 s8.1.length),(3,eL Pz.c v1)]) (λs15=>[bE b11 u10 1 23 (s8.1.map (cL cI))]) (λs15 h=>?_) (λs15 h=>?_)
  ·refine jC (oN mv (oN mv (oN (Pt.mkF (c:=(cL cI)) ([s15]:LL) [[eL cI s15]] gT Z Z Z qD qD Z) (jL h λg25 h=>oA (EvA.app1 (g:=b11) (l:=s8.1) s15 gT (by kernel_rfl) Z Z Z n12 (bf.fz (l:=([s15]:LL)) Z qD) g25) (oN (Pt.asg (hS false 0 (u10+1) 1 ((s8.1++[s15]).length)) Z) (jA (jC (jW h λg26 h=>oN (Pt.add Z Z g26) (oN mv (jA ?_))))))))));obtain rfl:=Pw h;exact ⟨((s8.1++[s15]),(s8.2+V)),(false,u10+1),Z,nofun,kw Z Z⟩
  refine jI (oN (fa dA Z) (oN (lf (Bo ((⟨(J v1 s8.2).Thread,(J v1 s8.2).Index,(J v1 s8.2).Loc,(J v1 s8.2).Reads,(J v1 s8.2).az⟩:Pz).Reads)) ty4 Z) (jA ?_)));refine jN Z h (λq16 h=>?_) (λq16 h=>?_)
  ·refine jC (oN mv (oN (fa dA Z) (oN (lf (I ((⟨(J v1 s8.2).Thread,(J v1 s8.2).Index,(J v1 s8.2).Loc,(J v1 s8.2).Reads,(J v1 s8.2).az⟩:Pz).Loc)) PL Z) (jB h λv17 cv17 h=>?_))));refine oG Z Z Z ((qq v1 ((⟨(J v1 s8.2).Thread,(J v1 s8.2).Index,(J v1 s8.2).Loc,(J v1 s8.2).Reads,(J v1 s8.2).az⟩:Pz).Loc) cv17).own Z (qF qD) qI 1 Z) (λg18 v19 n20=>?_);refine oN (Pt.mkfn [.fp (cI s8.2) 0] Z Z) (jB h λv21 cv21 h=>?_);refine oGW Z Z (fU v17 s8.2 g18 v19 (λx=>Wm (n20 x)) cv21) Z (.cons (lq Z) (.cons (.pF Z) .nil)) (qF qD) (qF qD) qI (λg22 v23 n24=>?_);refine oN (Pt.asg (hS g22 1 v23 1 v21.length) Z) (TO.cut (e0:=ai [(7,eL cI v21),(22,I s8.2),(21,I (v1.length:Int)),(20,eL Pz.c v1),(4,hS b11 0 u10 1 s8.1.length),(3,eL Pz.c v1)]) (H0:=[bE b11 u10 1 23 (s8.1.map (cL cI))]) (ow Z (.cons (.list (g:=b11) (ver:=u10) (l:=s8.1) qD) .nil) (ae (.fz (Fz.own (g:=g22) (ver:=v23) (l:=v21) Z Z Z (λx=>Wm (n24 x)) qD)) (ae (.fz (qC Z)) (ae (.fz (qC Z)) (ae (.fz (qC Z)) (ae (.hS (g:=b11) (b:=0) (ver:=u10) (s:=1) (n:=s8.1.length) Z) (ae (.fz (qC Z)) aN))))))) (jA ?_))
   cases h
   exact ⟨(),trivial,kw Z Z⟩
  refine jG ?_
  cases h
  exact ⟨(),trivial,kw Z Z⟩
 refine jM (lX h λh=>?_)
 cases h
 exact ⟨(b11,u10),n12,kw Z Z⟩
theorem sV (v:ZVa) (iL:Nat) {q} (h:fD v=some q):p9 Tryz.prog 140 [.hp 0 iL 16 0 0] [some ⟨iL,16,164,[(ZVa.c v)]⟩] (eL cI q.2) [some ⟨iL,16,164,[(ZVa.c q.1)]⟩]:=by
 let d0:=(⟨v.p,(⟨v.pc.x0,v.pc.x1,v.pc.x2⟩:Z3b),(⟨(⟨v.reg.x0.x0,v.reg.x0.x1,v.reg.x0.x2⟩:Z3b),(⟨v.reg.x1.x0,v.reg.x1.x1,v.reg.x1.x2⟩:Z3b),(⟨v.reg.x2.x0,v.reg.x2.x1,v.reg.x2.x2⟩:Z3b)⟩:Z33),(⟨v.mem.x0,v.mem.x1,v.mem.x2⟩:Z3b)⟩:ZVa);refine aM Tryz.func140 Z (by kernel_rfl) Z (jI (oN as' (jA (jH (T.reserve (jC (oN (Pt.asg (hS true 1 0 1 (([]:LI).length)) Z) (jA ?_))))))));refine T.jF (G:=(Bool×Nat)) h (λs1 gh=>(gh.1=true->s1=[])) (λs1 gh=>[(3,hS gh.1 1 gh.2 1 s1.length),(0,.hp 0 iL 16 0 0)]) (λs1 gh=>[some ⟨iL,16,164,[(ZVa.c v)]⟩,bE gh.1 gh.2 1 3 (s1.map cI)]) (λs1 gh h n36=>?_) (λs1 h=>?_)
 ·obtain ⟨b35,u34⟩:=gh;refine T.jF (G:=(Bool×Nat)) h (λs37 gh=>(gh.1=true->s37=[])) (λs37 gh=>[(3,hS gh.1 1 gh.2 1 s37.length)]) (λs37 gh=>[some ⟨iL,16,164,[(ZVa.c v)]⟩,bE gh.1 gh.2 1 3 (s37.map cI)]) (λs37 gh h n55=>?_) (λs37 h=>?_)
  ·obtain ⟨b54,u53⟩:=gh;refine jI (oN mv (oN (Pt.asg (hS b54 1 u53 1 s37.length) Z) (jA (jK ?_))));obtain rfl:=Pw h
   repeat (first|refine iA ?_|refine iB ?_)
   exact ⟨ai [(2,eL cI s37)],[some ⟨iL,16,164,[(ZVa.c (⟨d0.p,(d0.pc),(⟨((d0.reg).x0),((d0.reg).x1),((d0.reg).x2)⟩:Z33),(d0.mem)⟩:ZVa))]⟩],ow Z (.cons (.row (.cons (.fz (qC Z)) (.cons (.fz (qC Z)) (.cons (.fz (qC Z)) (.cons (.fz (qC Z)) (.cons (.fz (qC Z)) (.cons (.fz (qC Z)) (.cons (.fz (qC Z)) (.cons (.fz (qC Z)) (.cons (.fz (qC Z)) (.cons (.fz (qC Z)) (.cons (.fz (qC Z)) (.cons (.fz (qC Z)) (.cons (.fz (qC Z)) (.cons (.fz (qC Z)) (.cons (.fz (qC Z)) (.cons (.fz (qC Z)) .nil))))))))))))))))) .nil) (ae (.fz (Fz.own (g:=b54) (ver:=u53) (l:=s37) Z Z Z n55 qD)) aN),jQ (vs:=[eL cI s37]) (.cons (.tmp Z) .nil) ⟨Z,Z⟩⟩
  refine jI (oN mv (oN (nl Z) (oN (fa Gu Z) (oA (lh (.agg (Z3b.c v.mem)) J7 Z Z Z) (oN mv (jA (jE ?_)))))));refine jO (S:=(LI)×Int) (G:=(Bool×Nat)) (cK v) (λs43 gh=>(gh.1=true->s43.1=[])) (λs43 gh=>[(37,I s43.2),(36,.agg (Z3b.c v.mem)),(3,hS gh.1 1 gh.2 1 s43.1.length)]) (λs43 gh=>[some ⟨iL,16,164,[(ZVa.c v)]⟩,bE gh.1 gh.2 1 3 (s43.1.map cI)]) (s0:=(s1,U)) (b35,u34) h n36 (kw Z Z) (λs43 gh ws43 h n47=>?_);obtain ⟨b46,u45⟩:=gh;refine jI (oN (Pt.ilt Z Z) (jA (jH ?_)));refine jN Z h (λq48 h=>?_) (λq48 h=>?_)
  ·refine jG (jH (jE (jI (jD h λg49 h=>oN (Pt.ixag (Y (Z3b.get v.mem s43.2)) Tryz.underlying161 ty5 Z Z g49 (Kl (P:=λ(z:Int)=>sH false 1 (Z3b.c v.mem) (z.toNat*1)=some (Y (Z3b.get v.mem z))) g49 Z Z Z)) (oN as' (jA (jC (oN mv (oN mv (jW h λg50 h=>oN (Pt.iconv ty5.und Tryz.underlying3 Z g50) (oN (Pt.mkF (c:=cI) ([(Z3b.get v.mem s43.2)]:LI) [[I (Z3b.get v.mem s43.2)]] aD Z Z Z qD qD Z) (jL h λg51 h=>oA (EvA.app1 (g:=b46) (l:=s43.1) (Z3b.get v.mem s43.2) aD (by kernel_rfl) Z Z Z n47 (bf.fz (l:=([(Z3b.get v.mem s43.2)]:LI)) Z qD) g51) ?_))))))))))));refine oN (Pt.asg (hS false 1 (u45+1) 1 ((s43.1++[(Z3b.get v.mem s43.2)]).length)) Z) (jA (jC (jW h λg52 h=>oN (Pt.add Z Z g52) (oN mv (jA ?_)))));obtain rfl:=Pw h;exact ⟨((s43.1++[(Z3b.get v.mem s43.2)]),(s43.2+V)),(false,u45+1),Z,nofun,kw Z Z⟩
  refine jM (lX h λh=>?_)
  cases h
  exact ⟨(b46,u45),n47,kw Z Z⟩
 refine jI (oN mv (oN (nl Z) (oN (fa Gu Z) (oA (lh (eL (cL Px.c) v.p) KI Z Z Z) (oN (Pt.lenL yM Z) (oN mv (jA (jE ?_))))))));refine jO (S:=(LI)×Int) (G:=(Bool×Nat)) (df v) (λs7 gh=>(gh.1=true->s7.1=[])) (λs7 gh=>[(14,I s7.2),(13,I (v.p.length:Int)),(3,hS gh.1 1 gh.2 1 s7.1.length),(0,.hp 0 iL 16 0 0)]) (λs7 gh=>[some ⟨iL,16,164,[(ZVa.c v)]⟩,bE gh.1 gh.2 1 3 (s7.1.map cI)]) (s0:=(([]:LI),U)) (true,0) h qD (kw Z Z) (λs7 gh ws7 h n11=>?_);obtain ⟨b10,u9⟩:=gh;refine jI (oN (Pt.ilt Z Z) (jA (jH ?_)));refine jN Z h (λq12 h=>?_) (λq12 h=>?_)
 ·refine jG ?_;refine T.jF (G:=(Bool×Nat)) h (λs13 gh=>(gh.1=true->s13=[])) (λs13 gh=>[(14,I s7.2),(13,I (v.p.length:Int)),(3,hS gh.1 1 gh.2 1 s13.length),(0,.hp 0 iL 16 0 0)]) (λs13 gh=>[some ⟨iL,16,164,[(ZVa.c v)]⟩,bE gh.1 gh.2 1 3 (s13.map cI)]) (λs13 gh h n32=>?_) (λs13 h=>?_)
  ·obtain ⟨b31,u30⟩:=gh;refine jC (jW h λg33 h=>oN (Pt.add Z Z g33) (oN mv (jA ?_)));obtain rfl:=Pw h;exact ⟨(s13,(s7.2+V)),(b31,u30),Z,n32,kw Z Z⟩
  refine jE (jI (oN mv (oN as' (jA (jI (oN mv (oN mv (oN (nl Z) (oN (fa Gu Z) (jD h λg14 h=>oN (Pt.ixahp Tryz.underlying162 J7 Z Z g14) (oA (lh1 (λz0 => .agg (Z3b.c (Z33.get v.reg z0))) g14 J7 Z Z Z Z Z) (oN mv (jA (jE ?_))))))))))))));refine jO (S:=(LI)×Int) (G:=(Bool×Nat)) (cJ v s7) (λs20 gh=>(gh.1=true->s20.1=[])) (λs20 gh=>[(23,I s20.2),(22,.agg (Z3b.c (Z33.get v.reg s7.2))),(14,I s7.2),(13,I (v.p.length:Int)),(3,hS gh.1 1 gh.2 1 s20.1.length),(0,.hp 0 iL 16 0 0)]) (λs20 gh=>[some ⟨iL,16,164,[(ZVa.c v)]⟩,bE gh.1 gh.2 1 3 (s20.1.map cI)]) (s0:=(s7.1,U)) (b10,u9) h n11 (kw Z Z) (λs20 gh ws20 h n24=>?_);let d1:=Z3b.get (Z33.get v.reg s7.2) s20.2;obtain ⟨b23,u22⟩:=gh;refine jI (oN (Pt.ilt Z Z) (jA (jH ?_)));refine jN Z h (λq25 h=>?_) (λq25 h=>?_)
  ·refine jG (jH (jE (jI (jD h λg26 h=>oN (Pt.ixag (Y d1) Tryz.underlying161 ty5 Z Z g26 (Kl (P:=λ(z:Int)=>sH false 1 (Z3b.c (Z33.get v.reg s7.2)) (z.toNat*1)=some (Y (Z3b.get (Z33.get v.reg s7.2) z))) g26 Z Z Z)) (oN as' (jA (jC (oN mv (oN mv (jW h λg27 h=>oN (Pt.iconv ty5.und Tryz.underlying3 Z g27) (oN (Pt.mkF (c:=cI) ([d1]:LI) [[I d1]] aD Z Z Z qD qD Z) (jL h λg28 h=>oA (EvA.app1 (g:=b23) (l:=s20.1) d1 aD (by kernel_rfl) Z Z Z n24 (bf.fz (l:=([d1]:LI)) Z qD) g28) ?_))))))))))));refine oN (Pt.asg (hS false 1 (u22+1) 1 ((s20.1++[d1]).length)) Z) (jA (jC (jW h λg29 h=>oN (Pt.add Z Z g29) (oN mv (jA ?_)))));obtain rfl:=Pw h;exact ⟨((s20.1++[d1]),(s20.2+V)),(false,u22+1),Z,nofun,kw Z Z⟩
  refine jM (lX h λh=>?_)
  cases h
  exact ⟨(b23,u22),n24,kw Z Z⟩
 refine jM (lX h λh=>?_)
 cases h
 exact ⟨(b10,u9),n11,kw Z Z⟩
theorem xg (p:List (List Px)) (x:Py) {q} (h:lg p x=some q):au Tryz.prog 87 [eL (cL Px.c) p,.agg (Py.c x)] (.tup [eL cI q.1,Bo q.2]):=by
 refine pM Tryz.func87 Z (by kernel_rfl) Z (jI (oN (Pt.bxF [eL cI x.From,eL (cL cI) x.Order] Z Z Z) (oN as' (oN as' (jA (jI (oN mv (oN (lf (.agg (Py.c x)) pE Z) (oC h (λ_=>rY _ _) Z Z Z Z λv1 _ h=>oN mv (oN (Pt.ext (eL cI v1.1) Z Z) (oN (Pt.ext (Bo v1.2) Z Z) (oN as' (oN as' (jA ?_))))))))))))));refine jH (jI (oN mv (oN (Pt.not Z) (jA ?_))));refine jN Z h (λq2 h=>?_) (λq2 h=>?_)
 ·refine jI (oN as' (oN as' (jA (jK ?_))));obtain rfl:=Pw h
  repeat (first|refine iA ?_|refine iB ?_)
  exact jQ (vs:=[.nil,Bo false]) (.cons (.tmp Z) (.cons (.tmp Z) .nil)) (.tupL (.cons .nil0 (.cons (qC Z) .nil)))
 refine jG (jI (oN mv (oN (Pt.build [eL (cL Px.c) p,Y U,Y U,Y U,Y U,Y U,Y U,Y U,Y U,Y U,Y U,Y U,Y U,Y U,Y U,Y U] Tryz.underlying164 NE Gu Z Z) (oA (EvA.al NE Z Z) (oV (sr [eL (cL Px.c) p,Y U,Y U,Y U,Y U,Y U,Y U,Y U,Y U,Y U,Y U,Y U,Y U,Y U,Y U,Y U] OJ Z Z Z Z) (jA ?_))))));refine T.jU h (λs3=>[(8,.hp 0 0 16 0 0),(6,eL cI v1.1),(3,.fp (Py.c x) 0)]) (λs3=>[some ⟨0,16,164,[[eL (cL Px.c) p,Y U,Y U,Y U,Y s3.1,Y s3.2.1,Y s3.2.2.1,Y s3.2.2.2.1,Y s3.2.2.2.2.1,Y s3.2.2.2.2.2.1,Y s3.2.2.2.2.2.2.1,Y s3.2.2.2.2.2.2.2.1,Y s3.2.2.2.2.2.2.2.2,Y U,Y U,Y U]]⟩]) (λs3 h=>?_) (λs3 h=>?_)
 ·refine T.jU h (λs21=>[(8,.hp 0 0 16 0 0)]) (λs21=>[some ⟨0,16,164,[[eL (cL Px.c) p,Y U,Y U,Y U,Y s3.1,Y s3.2.1,Y s3.2.2.1,Y s3.2.2.2.1,Y s3.2.2.2.2.1,Y s3.2.2.2.2.2.1,Y s3.2.2.2.2.2.2.1,Y s3.2.2.2.2.2.2.2.1,Y s3.2.2.2.2.2.2.2.2,Y s21.1,Y s21.2.1,Y s21.2.2]]⟩]) (λs21 h=>?_) (λs21 h=>?_)
  ·refine jI (jB h λv35 cv35 h=>oA (EvA.call Z Z Z ((sV (⟨p,(⟨U,U,U⟩:Z3b),(⟨(⟨s3.1,s3.2.1,s3.2.2.1⟩:Z3b),(⟨s3.2.2.2.1,s3.2.2.2.2.1,s3.2.2.2.2.2.1⟩:Z3b),(⟨s3.2.2.2.2.2.2.1,s3.2.2.2.2.2.2.2.1,s3.2.2.2.2.2.2.2.2⟩:Z3b)⟩:Z33),(⟨s21.1,s21.2.1,s21.2.2⟩:Z3b)⟩:ZVa) 0 cv35).one 0 Z (.cons (.hp Z) .nil) (Al Z) (Al Z) Z)) (oN as' (oN as' (jA (jK ?_)))));obtain rfl:=Pw h
   repeat (first|refine iA ?_|refine iB ?_)
   exact jQ (vs:=[eL cI v35.2,Bo true]) (.cons (.tmp Z) (.cons (.tmp Z) .nil)) (.tupL (.cons (qC Z) (.cons (qC Z) .nil)))
  refine jI (oN (fa r9 Z) (oN (lf (eL (cL cI) x.Order) zT Z) (oN (Pt.lenL gT Z) (oN mv (jA (jE ?_))))));refine T.lU h (λs25=>[(61,I s25.2.2.2),(60,I (x.Order.length:Int)),(59,eL (cL cI) x.Order),(8,.hp 0 0 16 0 0),(6,eL cI v1.1)]) (λs25=>[some ⟨0,16,164,[[eL (cL Px.c) p,Y U,Y U,Y U,Y s3.1,Y s3.2.1,Y s3.2.2.1,Y s3.2.2.2.1,Y s3.2.2.2.2.1,Y s3.2.2.2.2.2.1,Y s3.2.2.2.2.2.2.1,Y s3.2.2.2.2.2.2.2.1,Y s3.2.2.2.2.2.2.2.2,Y s25.1,Y s25.2.1,Y s25.2.2.1]]⟩]) (kw Z Z) (λs25 ws25 h=>?_);let d1:=x.Order.getD s25.2.2.2.toNat default;refine jI (oN (Pt.ilt Z Z) (jA (jH ?_)));refine jN Z h (λq27 h=>?_) (λq27 h=>?_)
  ·refine jG (jH (jE (jI (oN mv (jD h λg28 h=>oN (Pt.ixL gT Z Z g28 qD) (oN (lf (eL cI d1) mZ Z) (oN as' (oN as' (jA (jC (oN mv (oN mv (oN mv (oN mv ?_))))))))))))));refine oN (Pt.lenL aD Z) (jW h λg29 h=>oN (Pt.sub Z Z g29) (jD h λg30 h=>oN (Pt.ixL aD Z Z g30 qD) (oN (lf (I (J d1 ((d1.length:Int)-V))) PL Z) (jD h λg31 h=>oN (Pt.ixL aD Z Z g31 qD) (oN (lf (I (J v1.1 (J d1 ((d1.length:Int)-V)))) PL Z) (jW h λg32 h=>oN (Pt.iconv PL.und Tryz.underlying5 Z g32) (oN (fa Gu Z) (jD h λg33 h=>oN (Pt.ixahp Tryz.underlying161 ty5 Z Z g33) (oV (sr1 (λz0=>(ZVa.c (⟨p,(⟨U,U,U⟩:Z3b),(⟨(⟨s3.1,s3.2.1,s3.2.2.1⟩:Z3b),(⟨s3.2.2.2.1,s3.2.2.2.2.1,s3.2.2.2.2.2.1⟩:Z3b),(⟨s3.2.2.2.2.2.2.1,s3.2.2.2.2.2.2.2.1,s3.2.2.2.2.2.2.2.2⟩:Z3b)⟩:Z33),(Z3b.set (⟨s25.1,s25.2.1,s25.2.2.1⟩:Z3b) z0 (J v1.1 (J d1 ((d1.length:Int)-V))))⟩:ZVa))) g33 ty5 Z Z Z Z Z Z) (jA ?_))))))))));refine T.clean (H0:=[some ⟨0,16,164,[(ZVa.c (⟨p,(⟨U,U,U⟩:Z3b),(⟨(⟨s3.1,s3.2.1,s3.2.2.1⟩:Z3b),(⟨s3.2.2.2.1,s3.2.2.2.2.1,s3.2.2.2.2.2.1⟩:Z3b),(⟨s3.2.2.2.2.2.2.1,s3.2.2.2.2.2.2.2.1,s3.2.2.2.2.2.2.2.2⟩:Z3b)⟩:Z33),(Z3b.set (⟨s25.1,s25.2.1,s25.2.2.1⟩:Z3b) s25.2.2.2 (J v1.1 (J d1 ((d1.length:Int)-V))))⟩:ZVa))]⟩]) (e0:=ai [(61,I s25.2.2.2),(60,I (x.Order.length:Int)),(59,eL (cL cI) x.Order),(8,.hp 0 0 16 0 0),(6,eL cI v1.1)]) Z (Ps Z (Ps Z (Ps Z (Ps Z (Ps Z Pq))))) (jC (jW h λg34 h=>oN (Pt.add Z Z g34) (oN mv (jA ?_))));exact lE h (kw Z Z)
  refine jM (lX h λh=>?_)
  cases h
  exact ⟨(),trivial,kw Z Z⟩
 refine jI (oN mv (oC h (λ_=>jp _) Z Z Z Z λv4 _ h=>oN (Pt.lenL pG Z) (oN mv (jA (jE ?_)))));refine T.lU h (λs7=>[(26,I s7.2.2.2.2.2.2.2.2.2),(25,I (v4.length:Int)),(24,eL Pz.c v4),(8,.hp 0 0 16 0 0),(6,eL cI v1.1),(3,.fp (Py.c x) 0),(0,eL (cL Px.c) p)]) (λs7=>[some ⟨0,16,164,[[eL (cL Px.c) p,Y U,Y U,Y U,Y s7.1,Y s7.2.1,Y s7.2.2.1,Y s7.2.2.2.1,Y s7.2.2.2.2.1,Y s7.2.2.2.2.2.1,Y s7.2.2.2.2.2.2.1,Y s7.2.2.2.2.2.2.2.1,Y s7.2.2.2.2.2.2.2.2.1,Y U,Y U,Y U]]⟩]) (kw Z Z) (λs7 ws7 h=>?_);let d2:=x.From.getD s7.2.2.2.2.2.2.2.2.2.toNat default;let d0:=(⟨(⟨s7.1,s7.2.1,s7.2.2.1⟩:Z3b),(⟨s7.2.2.2.1,s7.2.2.2.2.1,s7.2.2.2.2.2.1⟩:Z3b),(⟨s7.2.2.2.2.2.2.1,s7.2.2.2.2.2.2.2.1,s7.2.2.2.2.2.2.2.2.1⟩:Z3b)⟩:Z33);refine jI (oN (Pt.ilt Z Z) (jA (jH ?_)));refine jN Z h (λq9 h=>?_) (λq9 h=>?_)
 ·refine jG ?_;refine T.jU h (λs10=>[(26,I s7.2.2.2.2.2.2.2.2.2),(25,I (v4.length:Int)),(24,eL Pz.c v4),(8,.hp 0 0 16 0 0),(6,eL cI v1.1),(3,.fp (Py.c x) 0),(0,eL (cL Px.c) p)]) (λs10=>[some ⟨0,16,164,[[eL (cL Px.c) p,Y U,Y U,Y U,Y s10.1,Y s10.2.1,Y s10.2.2.1,Y s10.2.2.2.1,Y s10.2.2.2.2.1,Y s10.2.2.2.2.2.1,Y s10.2.2.2.2.2.2.1,Y s10.2.2.2.2.2.2.2.1,Y s10.2.2.2.2.2.2.2.2,Y U,Y U,Y U]]⟩]) (λs10 h=>?_) (λs10 h=>?_)
  ·refine jC (jW h λg20 h=>oN (Pt.add Z Z g20) (oN mv (jA ?_)));exact lE h (kw Z Z)
  refine jE (jI (oN mv (jD h λg11 h=>oN (Pt.ixL pG Z Z g11 qD) (oN (lf (.agg (Pz.c (J v4 s7.2.2.2.2.2.2.2.2.2))) vB Z) (oA (EvA.al Ee Z Z) (oN as' (oV (sr (Pz.c (J v4 s7.2.2.2.2.2.2.2.2.2)) vB Z Z Z Z) (jA (jI (oN (fa dA Z) (oA (lh (Bo ((J v4 s7.2.2.2.2.2.2.2.2.2).Reads)) ty4 Z Z Z) (jA ?_))))))))))));refine jN Z h (λq12 h=>?_) (λq12 h=>?_)
  ·refine jP (dG [dF,([1],false),dF,dF,([1],false),dF,dF,dF,([1],false),dF,dF,dF,dF,dF,dF,dF,dF,dF,dF,dF,dF,dF,dF,dF,([0],true)]) (by kernel_rfl) (by kernel_rfl) (fN Z (fa dA Z) (fR [1] Z (λG hG=>EvA.loadhp (I ((J v4 s7.2.2.2.2.2.2.2.2.2).Thread)) PL Z (hG.a0 Z) Z Z Z Z) (fN Z mv (fN Z (fa dA Z) (fR [1] Z (λG hG=>EvA.loadhp (I ((J v4 s7.2.2.2.2.2.2.2.2.2).Thread)) PL Z (hG.a0 Z) Z Z Z Z) (jD h λg13 h=>fN Z (Pt.ixL yM Z Z g13 qD) (fN Z (lf (eL Px.c (J p ((J v4 s7.2.2.2.2.2.2.2.2.2).Thread))) Ed Z) (fN Z (fa dA Z) (fR [1] Z (λG hG=>EvA.loadhp (I ((J v4 s7.2.2.2.2.2.2.2.2.2).Index)) PL Z (hG.a0 Z) Z Z Z Z) (jD h λg14 h=>fN Z (Pt.ixL AP Z Z g14 qD) (fN Z (fa p6 Z) (fN Z (lf (I ((J (J p ((J v4 s7.2.2.2.2.2.2.2.2.2).Thread)) ((J v4 s7.2.2.2.2.2.2.2.2.2).Index)).Reg)) PL Z) (fN Z mv ?_)))))))))))));refine fN Z (fa r9 Z) (fN Z (lf (eL cI x.From) mZ Z) (fN Z mv (jD h λg15 h=>fN Z (Pt.ixL aD Z Z g15 qD) (fN Z (lf (I d2) PL Z) (jD h λg16 h=>fN Z (Pt.ixL aD Z Z g16 qD) (fN Z (lf (I (J v1.1 d2)) PL Z) (jW h λg17 h=>fN Z (Pt.iconv PL.und Tryz.underlying5 Z g17) (fN Z (fa Gu Z) (jD h λg18 h=>fN Z (Pt.ixahp Tryz.underlying162 J7 Z Z g18) (jD h λg19 h=>fN Z (Pt.ixahp Tryz.underlying161 ty5 Z Z g19) ?_))))))))));refine fV 0 [] Z Z (λG hG=>sr2 (λz0 z1=>(ZVa.c (⟨p,(⟨U,U,U⟩:Z3b),(⟨((Z33.set d0 z0 (Z3b.set (Z33.get d0 z0) z1 (J v1.1 d2))).x0),((Z33.set d0 z0 (Z3b.set (Z33.get d0 z0) z1 (J v1.1 d2))).x1),((Z33.set d0 z0 (Z3b.set (Z33.get d0 z0) z1 (J v1.1 d2))).x2)⟩:Z33),(⟨U,U,U⟩:Z3b)⟩:ZVa))) g18 g19 ty5 Z Z (hG.a0 Z) ⟨Z,Z,Z,Z,Z,Z,Z,Z,Z⟩) (jR ?_)
   cases h
   exact ⟨(),trivial,ow Z (.cons (.row (.cons (.fz (qC Z)) (.cons (.fz (qC Z)) (.cons (.fz (qC Z)) (.cons (.fz (qC Z)) (.cons (.fz (qC Z)) (.cons (.fz (qC Z)) (.cons (.fz (qC Z)) (.cons (.fz (qC Z)) (.cons (.fz (qC Z)) (.cons (.fz (qC Z)) (.cons (.fz (qC Z)) (.cons (.fz (qC Z)) (.cons (.fz (qC Z)) (.cons (.fz (qC Z)) (.cons (.fz (qC Z)) (.cons (.fz (qC Z)) .nil))))))))))))))))) .nil) (ae (.fz (qC Z)) (ae (.fz (qC Z)) (ae (.fz (qC Z)) (ae (.hp (nlb Z)) (ae (.fz (qC Z)) (ae (.fz (qC Z)) (ae (.fz (qC Z)) aN)))))))⟩
  refine jG ?_
  cases h
  exact ⟨(),trivial,ow Z (.cons (.row (.cons (.fz (qC Z)) (.cons (.fz (qC Z)) (.cons (.fz (qC Z)) (.cons (.fz (qC Z)) (.cons (.fz (qC Z)) (.cons (.fz (qC Z)) (.cons (.fz (qC Z)) (.cons (.fz (qC Z)) (.cons (.fz (qC Z)) (.cons (.fz (qC Z)) (.cons (.fz (qC Z)) (.cons (.fz (qC Z)) (.cons (.fz (qC Z)) (.cons (.fz (qC Z)) (.cons (.fz (qC Z)) (.cons (.fz (qC Z)) .nil))))))))))))))))) .nil) (ae (.fz (qC Z)) (ae (.fz (qC Z)) (ae (.fz (qC Z)) (ae (.hp (nlb Z)) (ae (.fz (qC Z)) (ae (.fz (qC Z)) (ae (.fz (qC Z)) aN)))))))⟩
 refine jM (lX h λh=>?_)
 cases h
 exact ⟨(),trivial,kw Z Z⟩
theorem pI (x:Py) (a1:List (List Px)) (a2:LI) {q} (h:dh x a1 a2=some q):au Tryz.prog 86 [.agg (Py.c x),.fp ((cL (cL Px.c)) a1) 0,.fp ((cL cI) a2) 0] (Bo q):=by
 refine pM Tryz.func86 Z (by kernel_rfl) Z (jI (oN (Pt.bxF [eL cI x.From,eL (cL cI) x.Order] Z Z Z) (oN as' (jA (jI (oN (lf (eL (cL Px.c) a1) KI Z) (oN (lf (.agg (Py.c x)) pE Z) (oC h (λ_=>xg _ _) Z Z Z Z λv1 _ h=>oN mv (oN (Pt.ext (eL cI v1.1) Z Z) (oN (Pt.ext (Bo v1.2) Z Z) (oN as' (oN as' (jA (jI ?_))))))))))))));refine oN mv (oN (Pt.not Z) (oN mv ?_));refine TO.jB h 5 (λs2=>[(20,Bo s2)]) (λs2=>[]) (λs2 q3 h js2=>?_) (λs2 q3 h js2=>?_) (λs2 h=>?_)
 ·refine gS Z q3 (gS Z q3 (gS Z q3 (gS Z q3 (oN (Pt.pickT Z q3 (Bo true) Z) ?_))))
  cases h
  exact js2 _ _ (kw Z Z)
 ·refine gN Z q3 mv (gN Z q3 (lf (eL cI a2) mZ Z) (jB h λv4 cv4 h=>gN Z q3 (Pt.call Z Z Z (rW v1.1 a2 cv4) Z) (gN Z q3 (Pt.not Z) (oN (Pt.pickF Z q3 (Bo (!v4)) Z) ?_))))
  cases h
  exact js2 _ _ (kw Z Z)
 refine oN as' (jA (jK ?_))
 cases h
 exact aF Z Z Z
theorem cN (s:List Py) (f0:List (List Px)) (f1:LI) {q} (h:aQ s f0 f1=some q):au Tryz.prog 133 [eL Py.c s,.fn (.func 86) [.fp ((cL (cL Px.c)) f0) 0,.fp ((cL cI) f1) 0]] (I q):=by
 refine pM Tryz.func133 Z (by kernel_rfl) Z (jI (oN as' (jA ?_)));obtain ⟨Ks1,es1,ws1,h,ks1⟩:=qB h;refine T.join (S:=Unit) (G:=Unit) (λs1=>Ks1 s1=some q) (λs1 gh=>True) (λs1 gh=>[]) (λs1 gh=>[]) (λs1 gh h hg=>?_) ?_
 ·clear ks1;subst es1;refine jI (oN as' (jA (jK ?_)))
  cases h
  exact aF Z Z Z
 refine jI (oN mv (oN (Pt.lenL AQ Z) (oN mv (jA (jE ?_)))));refine T.lU h (λs4=>[(8,I s4),(7,I (s.length:Int)),(0,eL Py.c s),(1,.fn (.func 86) [.fp ((cL (cL Px.c)) f0) 0,.fp ((cL cI) f1) 0])]) (λs4=>[]) (kw Z Z) (λs4 ws4 h=>?_);refine jI (oN (Pt.ilt Z Z) (jA (jH ?_)));refine jN Z h (λq6 h=>?_) (λq6 h=>?_)
 ·refine jG (jH (jE (jI (oN mv (oN as' (jA (jI (oN mv (oN mv (oN mv (jD h λg7 h=>oN (Pt.ixL AQ Z Z g7 qD) (oN (lf (.agg (Py.c (J s s4))) pE Z) (oC h (λ_=>pI _ _ _) Z Z Z Z λv8 _ h=>jA ?_)))))))))))));refine jN Z h (λq9 h=>?_) (λq9 h=>?_)
  ·refine jI (oN mv (oN as' (jA (jK (lX h λh=>?_)))));obtain rfl:=Pw h;replace h:=congrArg some (show _=_ from ks1)
   cases h
   exact aF Z Z Z
  refine jG (jC (jW h λg10 h=>oN (Pt.add Z Z g10) (oN mv (jA ?_))));exact lE h (kw Z Z)
 refine jM (lX h λh=>?_)
 cases h
 exact ⟨(),(),ks1,trivial,kw Z Z⟩
theorem cF (s:List Py) (yD:List (List Px)) (del1:LI) (gw:Bool) (iL:Nat) (hgw:gw=true->s=[]) {q} (h:aC s yD del1=some q):cg Tryz.prog 84 [hS gw 0 iL 2 s.length,.fn (.func 86) [.fp ((cL (cL Px.c)) yD) 0,.fp ((cL cI) del1) 0]] [bE gw iL 2 34 (s.map Py.c)] (Fb 2 34 (λx=>x) q.length (q.map Py.c) 0 []):=by
 refine cg.mkS Tryz.func84 Z (by kernel_rfl) Z (by kernel_rfl) (e0:=ai [(0,hS gw 0 iL 2 s.length),(1,.fn (.func 86) [.fp ((cL (cL Px.c)) yD) 0,.fp ((cL cI) del1) 0])]) (Ps Z (Ps Z Pq)) (jI (oN as' (jA (jI (oN mv (oN mv (jB h λv1 cv1 h=>oA (EvA.callT Z Z (cN s yD del1 cv1) (.cons (Fz.own (g:=gw) (ver:=iL) (l:=s) Z Z Z hgw Py.isF) (.cons (qC Z) .nil)) Z) (oN as' (jA (jH (jI (oN mv (oN (Pt.ieq Z Z) (jA ?_))))))))))))));refine jN Z h (λq2 h=>?_) (λq2 h=>?_)
 ·refine jI (oN mv (oN (Pt.asg (hS gw 0 iL 2 s.length) Z) (jA (jK ?_))));obtain rfl:=Pw h
  repeat (first|refine iA ?_|refine iB ?_)
  exact ⟨ai [(4,hS gw 0 iL 2 s.length)],[bE gw iL 2 34 (s.map Py.c)],kw Z Z,jQ (vs:=[hS gw 0 iL 2 s.length]) (.cons (.tmp Z) .nil) ⟨gw,iL,(tP hgw Z),Z,Z⟩⟩
 refine jG ?_;refine T.jF (G:=(Bool×Nat)) h (λs3 gh=>(gh.1=true->s3.1=[])) (λs3 gh=>[(5,I s3.2),(0,hS gh.1 0 gh.2 2 s3.1.length)]) (λs3 gh=>[bE gh.1 gh.2 2 34 (s3.1.map Py.c)]) (λs3 gh h n26=>?_) (λs3 h=>?_)
 ·obtain ⟨b25,u24⟩:=gh;refine jI (oN mv (oN mv (jD h λg27 h=>?_)));obtain rfl:=DF n26 rfl g27;refine jD h λg28 h=>oN (Pt.slhs Tryz.underlying71 pE (l:=s3.2) (h:=(s3.1.length:Int)) Z (.yes Z) .no g28) (oV (EvA.clearO (l:=s3.1) AQ (zrC (λ_ _ h=>BQ h) (zrC (λ_ _ h=>BQ h) (zrE (zs:=[])))) Z Z (Km (l:=s3.1) g28 Z)) (jA (jI (oN mv (oN mv (jD h λg29 h=>oA (EvA.cutO (l:=(cpy s3.1 (0+s3.2.toNat) (Wj ((s3.1.length:Int).toNat-s3.2.toNat) (default:Py)) ((s3.1.length:Int).toNat-s3.2.toNat))) (zl:=(0:Int)) (zh:=s3.2) (Pt.slhs Tryz.underlying71 pE (l:=(0:Int)) (h:=s3.2) Z .no (.yes Z) g29) Z (by simp [BP]) g29) (oN (Pt.asg (hS false 0 (u24+1) 2 ((((cpy s3.1 (0+s3.2.toNat) (Wj ((s3.1.length:Int).toNat-s3.2.toNat) (default:Py)) ((s3.1.length:Int).toNat-s3.2.toNat)).drop (0:Int).toNat).take (s3.2.toNat-(0:Int).toNat)).length)) Z) (jA (jK ?_)))))))));obtain rfl:=Pw h
  repeat (first|refine iA ?_|refine iB ?_)
  exact ⟨ai [(4,hS false 0 (u24+1) 2 ((((cpy s3.1 (0+s3.2.toNat) (Wj ((s3.1.length:Int).toNat-s3.2.toNat) (default:Py)) ((s3.1.length:Int).toNat-s3.2.toNat)).drop U.toNat).take (s3.2.toNat-U.toNat)).length))],[bE false (u24+1) 2 34 ((((cpy s3.1 (0+s3.2.toNat) (Wj ((s3.1.length:Int).toNat-s3.2.toNat) (default:Py)) ((s3.1.length:Int).toNat-s3.2.toNat)).drop U.toNat).take (s3.2.toNat-U.toNat)).map Py.c)],kw Z Z,jQ (vs:=[hS false 0 (u24+1) 2 ((((cpy s3.1 (0+s3.2.toNat) (Wj ((s3.1.length:Int).toNat-s3.2.toNat) (default:Py)) ((s3.1.length:Int).toNat-s3.2.toNat)).drop U.toNat).take (s3.2.toNat-U.toNat)).length)]) (.cons (.tmp Z) .nil) ⟨false,u24+1,nofun,Z,Z⟩⟩
 refine jI (oN mv (jW h λg4 h=>oN (Pt.add Z Z g4) (oN as' (jA (jE ?_)))));refine jO (S:=(List Py)×Int×Int) (G:=(Bool×Nat)) (aJ yD del1) (λs10 gh=>(gh.1=true->s10.1=[])) (λs10 gh=>[(6,I s10.2.1),(5,I s10.2.2),(0,hS gh.1 0 gh.2 2 s10.1.length),(1,.fn (.func 86) [.fp ((cL (cL Px.c)) yD) 0,.fp ((cL cI) del1) 0])]) (λs10 gh=>[bE gh.1 gh.2 2 34 (s10.1.map Py.c)]) (s0:=(s,(v1+V),v1)) (gw,iL) h hgw (kw Z Z) (λs10 gh ws10 h n14=>?_);let d0:=s10.1.getD s10.2.1.toNat default;obtain ⟨b13,u12⟩:=gh;refine jH (jI (oN mv (oN mv (oN (Pt.lenO (g:=b13) AQ Z (tP n14 Z)) (oN (Pt.ilt Z Z) (jA ?_))))));refine jN Z h (λq15 h=>?_) (λq15 h=>?_)
 ·refine jG ?_;refine T.jF (G:=Nat) h (λs16 gh=>True) (λs16 gh=>[(5,I s16.2),(6,I s10.2.1),(0,hS false 0 gh 2 s16.1.length),(1,.fn (.func 86) [.fp ((cL (cL Px.c)) yD) 0,.fp ((cL cI) del1) 0])]) (λs16 gh=>[bE false gh 2 34 (s16.1.map Py.c)]) (λs16 u22 h hg=>?_) (λs16 h=>?_)
  ·refine jC (oN mv (jW h λg23 h=>oN (Pt.add Z Z g23) (oN as' (jA ?_))));obtain rfl:=Pw h;exact ⟨(s16.1,(s10.2.1+V),s16.2),(false,u22),Z,nofun,kw Z Z⟩
  refine jE (jI (oN mv (oN mv (jD h λg17 h=>?_))));obtain rfl:=DF n14 rfl g17;refine oN (Pt.ixO (g:=false) AQ Z Z nofun g17) (oA (EvA.ldO (g:=false) (l:=s10.1) (.agg (Py.c d0)) pE Z Z nofun (aH Z g17) Z) (oA (EvA.al I2 Z Z) (oV (sr (Py.c d0) pE Z Z Z Z) (jA (jI (oN mv (oA (lh (.agg (Py.c d0)) pE Z Z Z) (oC h (λ_=>pI _ _ _) Z Z Z Z λv18 _ h=>oN (Pt.not Z) (jA ?_)))))))));refine jN Z h (λq19 h=>?_) (λq19 h=>?_)
  ·refine jI (oN mv (oN mv (oA (lh (.agg (Py.c d0)) pE Z Z Z) (jD h λg20 h=>oN (Pt.ixO (g:=false) AQ Z Z nofun g20) (oV (EvA.stO (g:=false) (l:=s10.1) (cs:=(Py.c d0)) (⟨d0.From,d0.Order⟩:Py) pE Z Z Z nofun (aH Z g20) Z Z Z) (jA (T.clean (H0:=[bE false u12 2 34 ((s10.1.set s10.2.2.toNat (⟨d0.From,d0.Order⟩:Py)).map Py.c),some ⟨0,2,34,[(Py.c d0)]⟩]) (e0:=ai [(6,I s10.2.1),(5,I s10.2.2),(0,hS false 0 u12 2 s10.1.length),(1,.fn (.func 86) [.fp ((cL (cL Px.c)) yD) 0,.fp ((cL cI) del1) 0])]) Z (Ps Z (Ps Z (Ps Z (Ps Z Pq)))) (jC (oN mv (jW h λg21 h=>oN (Pt.add Z Z g21) (oN as' (jA ?_))))))))))));obtain rfl:=Pw h;exact ⟨u12,trivial,ow Z (.cons (.list (g:=false) (ver:=u12) (l:=(s10.1.set s10.2.2.toNat (⟨d0.From,d0.Order⟩:Py))) Py.isF) .nil) (ae (.fz (qC Z)) (ae (.fz (qC Z)) (ae (.eqv (congrArg (hS false 0 u12 2) (by simp:s10.1.length=(s10.1.set s10.2.2.toNat (⟨d0.From,d0.Order⟩:Py)).length)) (.hS (g:=false) (b:=0) (ver:=u12) (s:=2) (n:=(s10.1.set s10.2.2.toNat (⟨d0.From,d0.Order⟩:Py)).length) Z)) (ae (.fnL (.cons (.fz (qC Z)) (.cons (.fz (qC Z)) .nil))) aN))))⟩
  refine jG ?_;obtain rfl:=Pw h;exact ⟨u12,trivial,ow Z (.cons (.list (g:=false) (ver:=u12) (l:=s10.1) Py.isF) .nil) (ae (.fz (qC Z)) (ae (.fz (qC Z)) (ae (.hS (g:=false) (b:=0) (ver:=u12) (s:=2) (n:=s10.1.length) Z) (ae (.fnL (.cons (.fz (qC Z)) (.cons (.fz (qC Z)) .nil))) aN))))⟩
 refine jM (lX h λh=>?_)
 cases h
 exact ⟨(b13,u12),n14,kw Z Z⟩
theorem xj (p:List (List Px)) (o_:LI) {q} (h:lj p o_=some q):au Tryz.prog 40 [eL (cL Px.c) p,eL cI o_] (eL Py.c q):=by
 refine pM Tryz.func40 Z (by kernel_rfl) Z (jI (oN (Pt.bxF [eL (cL Px.c) p] Z Z Z) (oN (Pt.bxF [eL cI o_] Z Z Z) (oN as' (jA (jH (jI (oN (lf (eL (cL Px.c) p) KI Z) (oN (lf (eL cI o_) mZ Z) (oC h (λ_=>oq _ _) Z Z Z Z λv1 _ h=>oN (Pt.not Z) (jA ?_)))))))))));refine jN Z h (λq2 h=>?_) (λq2 h=>?_)
 ·refine jI (oN as' (jA (jK ?_)));obtain rfl:=Pw h
  repeat (first|refine iA ?_|refine iB ?_)
  exact jQ (vs:=[.nil]) (.cons (.tmp Z) .nil) .nil0
 refine jG (jI (oN (lf (eL (cL Px.c) p) KI Z) (jB h λv3 cv3 h=>?_)));refine oG Z Z Z ((xe p cv3).own Z (qF Py.isF) qI 0 Z) (λg4 v5 n6=>?_);refine oN (Pt.mkfn [.fp ((cL (cL Px.c)) p) 0,.fp ((cL cI) o_) 0] Z Z) (jB h λv7 cv7 h=>?_);refine oGW Z Z (cF v3 p o_ g4 v5 (λx=>Wm (n6 x)) cv7) Z (.cons (lq Z) (.cons (.pF Z) .nil)) (qF Py.isF) (qF Py.isF) qI (λg8 v9 n10=>?_);refine oN (Pt.asg (hS g8 0 v9 2 v7.length) Z) (jA (jK ?_));obtain rfl:=Pw h
 repeat (first|refine iA ?_|refine iB ?_)
 exact jQ (vs:=[hS g8 0 v9 2 v7.length]) (.cons (.tmp Z) .nil) (Fz.own (g:=g8) (ver:=v9) (l:=v7) Z Z Z (λx=>Wm (n10 x)) Py.isF)
theorem yC (list:LI) (sep:ByteArray) {q} (h:mU list sep=some q):au Tryz.prog 88 [eL cI list,St sep] (St q):=by
 refine pM Tryz.func88 Z (by kernel_rfl) Z (jI (oN as' (jA (jI (oN mv (oN (Pt.lenL aD Z) (jD h λg1 h=>oA (EvA.mkN (c:=cS) (default:ByteArray) AR Z Z g1 Z Z Z) (oN (Pt.asg (hS false 0 0 1 ((Wj (list.length:Int).toNat (default:ByteArray)).length)) Z) (jA ?_)))))))));refine T.jF (G:=Nat) h (λs2 gh=>True) (λs2 gh=>[(5,hS false 0 gh 1 s2.length),(1,St sep)]) (λs2 gh=>[bE false gh 1 9 (s2.map cS)]) (λs2 u14 h hg=>?_) (λs2 h=>?_)
 ·refine jI (oN mv (oN mv (jB h λv15 cv15 h=>oA (EvA.callT Z Z (oU s2 sep cv15) (.cons (Fz.own (g:=false) (ver:=u14) (l:=s2) Z Z Z nofun qD) (.cons (qC Z) .nil)) Z) (oN as' (jA (jK ?_))))))
  cases h
  exact aF Z Z Z
 refine jI (oN mv (oN (Pt.lenL aD Z) (oN mv (jA (jE ?_)))));refine jO (S:=(List ByteArray)×Int) (G:=Nat) (jc list) (λs6 gh=>True) (λs6 gh=>[(13,I s6.2),(12,I (list.length:Int)),(11,eL cI list),(5,hS false 0 gh 1 s6.1.length),(1,St sep)]) (λs6 gh=>[bE false gh 1 9 (s6.1.map cS)]) (s0:=((Wj (list.length:Int).toNat (default:ByteArray)),U)) 0 h trivial (kw Z Z) (λs6 u8 ws6 h hg=>?_);refine jI (oN (Pt.ilt Z Z) (jA (jH ?_)));refine jN Z h (λq9 h=>?_) (λq9 h=>?_)
 ·refine jG (jH (jE (jI (oN mv (jD h λg10 h=>oN (Pt.ixL aD Z Z g10 qD) (oN (lf (I (J list s6.2)) PL Z) (oN as' (oN as' (jA (jC (oN mv (oN mv (oN mv (oC h (λ_=>iK _) Z Z Z Z λv11 _ h=>?_))))))))))))));refine jD h λg12 h=>oN (Pt.ixO (g:=false) AR Z Z nofun g12) (oV (EvA.stO (g:=false) (l:=s6.1) (cs:=[St v11]) v11 ty9 Z Z Z nofun (aH Z g12) Z Z Z) (jA (jC (jW h λg13 h=>oN (Pt.add Z Z g13) (oN mv (jA ?_))))));obtain rfl:=Pw h;exact ⟨((s6.1.set s6.2.toNat v11),(s6.2+(1:Int))),u8,Z,trivial,BL Z (Ps Z (Ps Z (Ps Z (Ps (congrArg (hS false 0 u8 1) (by simp:s6.1.length=(s6.1.set s6.2.toNat v11).length)) (Ps Z Pq)))))⟩
 refine jM (lX h λh=>?_)
 cases h
 exact ⟨u8,trivial,kw Z Z⟩
theorem vQ (x:Py) {q} (h:kv x=some q):au Tryz.prog 41 [.agg (Py.c x)] (St q):=by
 refine pM Tryz.func41 Z (by kernel_rfl) Z (jI (oN (Pt.bxF [eL cI x.From,eL (cL cI) x.Order] Z Z Z) (oN as' (jA (jI (oN as' (jA ?_)))))));refine T.jU h (λs1=>[(3,St s1),(1,.fp (Py.c x) 0)]) (λs1=>[]) (λs1 h=>?_) (λs1 h=>?_)
 ·refine jI (oN (fa r9 Z) (oN (lf (eL (cL cI) x.Order) zT Z) (oN (Pt.lenL gT Z) (jD h λg17 h=>oA (EvA.mkN (c:=cS) (default:ByteArray) AR Z Z g17 Z Z Z) (oN (Pt.asg (hS false 0 0 1 ((Wj (x.Order.length:Int).toNat (default:ByteArray)).length)) Z) (jA ?_))))));refine T.jF (G:=Nat) h (λs18 gh=>True) (λs18 gh=>[(6,hS false 0 gh 1 s18.length),(3,St s1)]) (λs18 gh=>[bE false gh 1 9 (s18.map cS)]) (λs18 u30 h hg=>?_) (λs18 h=>?_)
  ·refine jI (oN mv (oN mv (jB h λv31 cv31 h=>oA (EvA.callT Z Z (oU s18 (⟨#[47]⟩:ByteArray) cv31) (.cons (Fz.own (g:=false) (ver:=u30) (l:=s18) Z Z Z nofun qD) (.cons (qC Z) .nil)) Z) (jD h λg32 h=>oN (Pt.cat Z Z g32) (oN as' (jA (jK ?_)))))))
   cases h
   exact aF Z Z Z
  refine jI (oN (fa r9 Z) (oN (lf (eL (cL cI) x.Order) zT Z) (oN (Pt.lenL gT Z) (oN mv (jA (jE ?_))))));refine jO (S:=(List ByteArray)×Int) (G:=Nat) (fE x) (λs22 gh=>True) (λs22 gh=>[(36,I s22.2),(35,I (x.Order.length:Int)),(34,eL (cL cI) x.Order),(6,hS false 0 gh 1 s22.1.length),(3,St s1)]) (λs22 gh=>[bE false gh 1 9 (s22.1.map cS)]) (s0:=((Wj (x.Order.length:Int).toNat (default:ByteArray)),U)) 0 h trivial (kw Z Z) (λs22 u24 ws22 h hg=>?_);refine jI (oN (Pt.ilt Z Z) (jA (jH ?_)));refine jN Z h (λq25 h=>?_) (λq25 h=>?_)
  ·refine jG (jH (jE (jI (oN mv (jD h λg26 h=>oN (Pt.ixL gT Z Z g26 qD) (oN (lf (eL cI (J x.Order s22.2)) mZ Z) (oN as' (oN as' (jA (jC (oN mv (oN mv (oN mv (oC h (λ_=>yC _ _) Z Z Z Z λv27 _ h=>?_))))))))))))));refine jD h λg28 h=>oN (Pt.ixO (g:=false) AR Z Z nofun g28) (oV (EvA.stO (g:=false) (l:=s22.1) (cs:=[St v27]) v27 ty9 Z Z Z nofun (aH Z g28) Z Z Z) (jA (jC (jW h λg29 h=>oN (Pt.add Z Z g29) (oN mv (jA ?_))))));obtain rfl:=Pw h;exact ⟨((s22.1.set s22.2.toNat v27),(s22.2+(1:Int))),u24,Z,trivial,BL Z (Ps Z (Ps Z (Ps Z (Ps (congrArg (hS false 0 u24 1) (by simp:s22.1.length=(s22.1.set s22.2.toNat v27).length)) (Ps Z Pq)))))⟩
  refine jM (lX h λh=>?_)
  cases h
  exact ⟨u24,trivial,kw Z Z⟩
 refine jI (oN (fa r9 Z) (oN (lf (eL cI x.From) mZ Z) (oN (Pt.lenL aD Z) (oN mv (jA (jE ?_))))));refine T.lU h (λs4=>[(12,I s4.1),(11,I (x.From.length:Int)),(10,eL cI x.From),(3,St s4.2),(1,.fp (Py.c x) 0)]) (λs4=>[]) (kw Z Z) (λs4 ws4 h=>?_);refine jI (oN (Pt.ilt Z Z) (jA (jH ?_)));refine jN Z h (λq6 h=>?_) (λq6 h=>?_)
 ·refine jG ?_;refine T.jU h (λs7=>[(3,St s7),(12,I s4.1),(11,I (x.From.length:Int)),(10,eL cI x.From),(1,.fp (Py.c x) 0)]) (λs7=>[]) (λs7 h=>?_) (λs7 h=>?_)
  ·refine jC (jW h λg16 h=>oN (Pt.add Z Z g16) (oN mv (jA ?_)));exact lE h (kw Z Z)
  refine jE (jI (oN mv (jD h λg8 h=>oN (Pt.ixL aD Z Z g8 qD) (oN (lf (I (J x.From s4.1)) PL Z) (oN as' (oN as' (jA (jI (oN mv (oN (Pt.ige Z Z) (jA ?_)))))))))));refine jN Z h (λq9 h=>?_) (λq9 h=>?_)
  ·refine jC (oN mv (oN mv (oC h (λ_=>iK _) Z Z Z Z λv10 _ h=>jD h λg11 h=>oN (Pt.cat Z Z g11) (oN mv (oC h (λ_=>iK _) Z Z Z Z λv12 _ h=>jD h λg13 h=>oN (Pt.cat Z Z g13) (jD h λg14 h=>oN (Pt.cat Z Z g14) (jD h λg15 h=>oN (Pt.cat Z Z g15) (oN as' (jA ?_)))))))))
   cases h
   exact ⟨(),trivial,kw Z Z⟩
  refine jG ?_
  cases h
  exact ⟨(),trivial,kw Z Z⟩
 refine jM (lX h λh=>?_)
 cases h
 exact ⟨(),trivial,kw Z Z⟩
theorem sW (p:List (List Px)) (m:List ah) (o_:LI) {q} (h:cW p m o_=some q):au Tryz.prog 18 [eL (cL Px.c) p,eL ah.c m,eL cI o_] (St q):=by
 refine pM Tryz.func18 Z (by kernel_rfl) Z (jI (oN as' (jA (jH (jI (oN mv (oN mv (oC h (λ_=>oq _ _) Z Z Z Z λv1 _ h=>oN (Pt.not Z) (oN mv ?_)))))))));refine TO.jB h 4 (λs2=>[(18,Bo s2),(0,eL (cL Px.c) p),(1,eL ah.c m),(2,eL cI o_)]) (λs2=>[]) (λs2 q3 h js2=>?_) (λs2 q3 h js2=>?_) (λs2 h=>?_)
 ·refine gS Z q3 (gS Z q3 (gS Z q3 (oN (Pt.pickT Z q3 (Bo true) Z) ?_)))
  cases h
  exact js2 _ _ (kw Z Z)
 ·refine gN Z q3 mv (jB h λv4 cv4 h=>gN Z q3 (Pt.call Z Z Z (vG m cv4) Z) (gN Z q3 (Pt.not Z) (oN (Pt.pickF Z q3 (Bo (!v4)) Z) ?_)))
  cases h
  exact js2 _ _ (kw Z Z)
 refine jA ?_;refine jN Z h (λq5 h=>?_) (λq5 h=>?_)
 ·refine jI (oN as' (jA (jK ?_)))
  cases h
  exact aF Z Z Z
 refine jG (jI (oN as' (jA ?_)));refine T.jU h (λs6=>[(7,St s6)]) (λs6=>[]) (λs6 h=>?_) (λs6 h=>?_)
 ·refine jH (jI (oN mv (oN (Pt.seq Z Z) (jA ?_))));refine jN Z h (λq21 h=>?_) (λq21 h=>?_)
  ·refine jI (oN as' (jA (jK ?_)))
   cases h
   exact aF Z Z Z
  refine jG (jI (oN mv (oN as' (jA (jK ?_)))))
  cases h
  exact aF Z Z Z
 refine jI (oN mv (oN mv (oC h (λ_=>xj _ _) Z Z Z Z λv7 _ h=>oN (Pt.lenL AQ Z) (oN mv (jA (jE ?_))))));refine T.lU h (λs10=>[(23,I s10.1),(22,I (v7.length:Int)),(21,eL Py.c v7),(7,St s10.2),(0,eL (cL Px.c) p),(1,eL ah.c m)]) (λs10=>[]) (kw Z Z) (λs10 ws10 h=>?_);refine jI (oN (Pt.ilt Z Z) (jA (jH ?_)));refine jN Z h (λq12 h=>?_) (λq12 h=>?_)
 ·refine jG (jH (jE (jI (jD h λg13 h=>oN (Pt.ixL AQ Z Z g13 qD) (oN (lf (.agg (Py.c (J v7 s10.1))) pE Z) (oA (EvA.al I2 Z Z) (oV (sr (Py.c (J v7 s10.1)) pE Z Z Z Z) (jA (jP (dG [dF,([0],false),dF,dF,dF,([0],false),dF,dF,dF,dF,dF,dF]) (by kernel_rfl) (by kernel_rfl) (fN Z mv (fR [0] Z (λG hG=>EvA.loadhp (.agg (Py.c (J v7 s10.1))) pE Z (hG.a0 Z) Z Z Z Z) (fC h (λ_=>vQ _) Z Z Z Z Z λv14 _ h=>jD h λg15 h=>fN Z (Pt.cat Z Z g15) ?_))))))))))));refine fN Z mv (fR [0] Z (λG hG=>EvA.loadhp (.agg (Py.c (J v7 s10.1))) pE Z (hG.a0 Z) Z Z Z Z) (fN Z mv (fC h (λ_=>zC _ _ _) Z Z Z Z Z λv16 _ h=>jD h λg17 h=>fN Z (Pt.cat Z Z g17) (jD h λg18 h=>fN Z (Pt.cat Z Z g18) (jD h λg19 h=>fN Z (Pt.cat Z Z g19) (fN Z as' (jR (T.clean (H0:=[some ⟨0,2,34,[(Py.c (J v7 s10.1))]⟩]) (e0:=ai [(7,St (s10.2++(((v14++(⟨#[32]⟩:ByteArray))++v16)++(⟨#[10]⟩:ByteArray)))),(23,I s10.1),(22,I (v7.length:Int)),(21,eL Py.c v7),(0,eL (cL Px.c) p),(1,eL ah.c m)]) Z (Ps Z (Ps Z (Ps Z (Ps Z (Ps Z (Ps Z Pq)))))) (jC (jW h λg20 h=>oN (Pt.add Z Z g20) ?_))))))))));refine oN mv (jA ?_);exact lE h (ow Z .nil (ae (.fz (qC Z)) (ae (.fz (qC Z)) (ae (.fz (qC Z)) (ae (.fz (qC Z)) (ae (.fz (qC Z)) (ae (.fz (qC Z)) aN)))))))
 refine jM (lX h λh=>?_)
 cases h
 exact ⟨(),trivial,kw Z Z⟩
theorem ou (aP:List (List ak)) (aM:List ay) (aO:LI) {q} (h:dC aP aM aO=some q):au Tryz.prog 4 [eL (cL ak.c) aP,eL ay.c aM,eL cI aO] (Bo q):=by
 refine pM Tryz.func4 Z (by kernel_rfl) Z (jI (oN as' (jA (jH (jI (oN mv (oN (Pt.lenL aD Z) (oN (Pt.igt Z Z) (jA ?_)))))))));refine jN Z h (λq1 h=>?_) (λq1 h=>?_)
 ·refine jI (oN as' (jA (jK ?_)))
  cases h
  exact aF Z Z Z
 refine jG (jI (oN as' (jA (jI (oN mv (oN mv (oC h (λ_=>wK _ _) Z Z Z Z λv2 _ h=>oN as' (jA (jH (jI (oN mv (oN (Pt.ilt Z Z) (jA ?_)))))))))))));refine jN Z h (λq3 h=>?_) (λq3 h=>?_)
 ·refine jI (oN as' (jA (jK ?_)))
  cases h
  exact aF Z Z Z
 refine jG (jI (oN mv (oN mv (oC h (λ_=>yS _ _) Z Z Z Z λv4 _ h=>oN as' (jA (jH (jI (oN mv (oN (Pt.ilt Z Z) (jA ?_))))))))));refine jN Z h (λq5 h=>?_) (λq5 h=>?_)
 ·refine jH (T.clean (H0:=[]) (e0:=ai []) Z Pq (jC (oN as' (jA (jK ?_)))))
  cases h
  exact aF Z Z Z
 refine jG (jH (T.clean (H0:=[]) (e0:=ai [(0,eL (cL ak.c) aP),(1,eL ay.c aM),(2,eL cI aO)]) Z (Ps Z (Ps Z (Ps Z Pq))) (jC (oN mv (oC h (λ_=>mW _) Z Z Z Z λv6 _ h=>oN mv (oC h (λ_=>oZ _) Z Z Z Z λv7 _ h=>oN mv (oC h (λ_=>qp _) Z Z Z Z λv8 _ h=>oC h (λ_=>sS _ _ _) Z Z Z Z λv9 _ h=>oN as' (jA (jI (oN mv (oC h (λ_=>mW _) Z Z Z Z λv10 _ h=>?_)))))))))));refine oN as' (jA (jI (oN mv (oC h (λ_=>oZ _) Z Z Z Z λv11 _ h=>oN as' (jA (jI (oN mv (oC h (λ_=>qp _) Z Z Z Z λv12 _ h=>oN as' (jA (jI (oN mv (oN mv (oN mv ?_)))))))))))));refine oC h (λ_=>sW _ _ _) Z Z Z Z λv13 _ h=>oN as' (jA (jH (jH (T.clean (H0:=[]) (e0:=ai [(12,St v13),(11,eL cI v12),(10,eL ah.c v11),(9,eL (cL Px.c) v10),(8,St v9),(0,eL (cL ak.c) aP),(1,eL ay.c aM),(2,eL cI aO)]) Z (Ps Z (Ps Z (Ps Z (Ps Z (Ps Z (Ps Z (Ps Z (Ps Z Pq)))))))) (jC (oN mv (oN mv (oN (Pt.sne Z Z) (jA ?_)))))))));refine jN Z h (λq14 h=>?_) (λq14 h=>?_)
 ·refine jI (oN as' (jA (jK ?_)))
  cases h
  exact aF Z Z Z
 refine jG (jH (jI (oN mv (oN mv (oC h (λ_=>mW _) Z Z Z Z λv15 _ h=>oC h (λ_=>wZ _ _) Z Z Z Z λv16 _ h=>oN (Pt.not Z) (jA ?_))))));refine jN Z h (λq17 h=>?_) (λq17 h=>?_)
 ·refine jH (T.clean (H0:=[]) (e0:=ai []) Z Pq (jC (oN as' (jA (jK ?_)))))
  cases h
  exact aF Z Z Z
 refine jG (jH (jI (oN mv (oN mv (oC h (λ_=>oZ _) Z Z Z Z λv18 _ h=>oC h (λ_=>zE _ _) Z Z Z Z λv19 _ h=>oN (Pt.not Z) (jA ?_))))));refine jN Z h (λq20 h=>?_) (λq20 h=>?_)
 ·refine jH (T.clean (H0:=[]) (e0:=ai []) Z Pq (jC (oN as' (jA (jK ?_)))))
  cases h
  exact aF Z Z Z
 refine jG (jH (jH (T.clean (H0:=[]) (e0:=ai [(11,eL cI v12),(2,eL cI aO)]) Z (Ps Z (Ps Z Pq)) (jC (oN mv (oN mv (oC h (λ_=>qp _) Z Z Z Z λv21 _ h=>oC h (λ_=>Be _ _) Z Z Z Z λv22 _ h=>oN (Pt.not Z) (jA ?_))))))));refine jN Z h (λq23 h=>?_) (λq23 h=>?_)
 ·refine jI (oN as' (jA (jK ?_)))
  cases h
  exact aF Z Z Z
 refine jG (jI (oN as' (jA (jK ?_))))
 cases h
 exact aF Z Z Z
open Go.ChangeShapes Go.WideShapes Go.ChangeAt Go.RowKit Go.WideElems
def I5 (P:Program) (ns:List String):Bool:=ns.all λn=>((P.globalNamed n).bind (P.globals[·]?)).all λgl=>P.readableRec gl.type&&decide (gl.type<P.types.size)
theorem uY {H:Type} {enc:TypeId×Value->H} {P:Program} (hl:laidOutB P=true) {W W':World} (hb:Below W.heap.size W W') {sp:Nat->Bool} :
  ∀ {ns:List String} {gs:List (DataW H)} {ps:List MemPlace},I5 P ns=true->DataW.TrodVars enc P W (λ_=>true) ns gs ps->(∀ x∈ps,sp x.block=true)->DataW.TrodVars enc P W' sp ns gs ps
 | [],[],_,_,h,_=>h
 | [],_::_,_,_,h,_=>h.elim
 | _::_,[],_,_,h,_=>h.elim
 | n::ns,d::ds,ps,hv,h,hsp=>by
  have hlt:=h.lt;obtain ⟨g,t,cs,fuel,p,q,h1,h2,h3,h4,hs,e⟩:=h;simp only [I5,List.all_cons,bae] at hv;have ht:P.readableRec t=true/\t<P.types.size:=by
   have := hv.1;rw [h1] at this
   cases hg:P.globals[g]? with
   | none=>rw [hg] at h2;cases h2
   | some gl=>
    rw [hg] at h2;obtain rfl:gl.type=t:=osl h2;simpa [hg] using this
  have hp:∀ x∈p,x.block<W.heap.size:=λx hx=>hlt x (by rw [e];simp [hx]);have h3':W'.var? P n=some cs:=by
   unfold World.var? at h3 ⊢;rw [h1] at h3 ⊢;simp only [Option.bind_some] at h3 ⊢;have hg:g<W.heap.size:=by
    cases hh:W.heap[g]? with
    | none=>rw [hh] at h3;cases h3
    | some o=>exact (Array.getElem?_eq_some_iff.1 hh).1
   rw [hb.block g hg];exact h3
  exact ⟨g,t,cs,fuel,p,q,h1,h2,h3',DataW.trod_stays (kids_book hl ht.1) (book_sized ht.1) (λh=>by cases h) ⟨ht.2,book_self t⟩ h4 (λx hx=>hb.same (hp x hx)) (λx hx=>hsp x (by rw [e];simp [hx])),
   uY hl hb (by simpa [I5] using hv.2) hs (λx hx=>hsp x (by rw [e];simp [hx])),e⟩
theorem I6 {P:Program} {W:World} {n:String} {d:DataW Unit} {g t e:Nat} {ss:List ByteArray} {l:List (String×DataW Unit)} (hm:laidMetH P l W) (hf:(l.filter λx=>x.1==n)=[(n,d)]) (hn:d.handleName?.isNone=true)
  (hg:P.globalNamed n=some g) (ht:(P.globals[g]?).map (·.type)=some t) (hu:P.underlying t=some (.array ss.length e)) (hs:P.underlying e=some .string) (hc:P.cellsOf e=1) (hd:d = .agg (ss.map λs => .lit (.string s.data.toList))) :
  ∀ j,j<ss.length->W.cell? ⟨g,j,none⟩=(ss[j]?).map .string:=by
 have h1:=hm.filter λx=>x.1==n;rw [hf,MakeChecks.laidMetH_plain _ _ _ (by simp [hn])] at h1;obtain ⟨ps,⟨g',t',cs,fuel,p,q,hg',ht',hv,hr,_,_⟩,_,_⟩:=h1;obtain rfl:=osl (hg.symm.trans hg');obtain rfl:=osl (ht.symm.trans ht');obtain ⟨xs,m,_,ex,hlen,hl,hel⟩:=DataW.trod_array hu hr;intro j hj;have hE:=hel j hj;rw [hc,Nat.mul_one,geq (by omega)] at hE;obtain ⟨s,e1,e2,_⟩:=DataW.trod_string hs hE;have e3:xs.map (·.1)=ss.map λs => .lit (.string s.data.toList):=by
  have := (Prod.mk.inj ex).1;rw [hd] at this;exact (DataW.agg.inj this).symm
 have e4:(xs.map (·.1))[j]? = (ss.map λs=>(DataW.lit (.string s.data.toList):DataW Unit))[j]? := by rw [e3]
 rw [Wn,Wn,geq (by omega:j<xs.length),geq hj,e2] at e4;simp only [Option.map_some,sie,DataW.lit.injEq,Lit.string.injEq] at e4;have e5:s=ss[j]:=by
  cases s with | mk a=>cases hb:ss[j] with | mk b=>rw [hb] at e4;exact congrArg _ (Array.toList_inj.1 e4)
 rw [World.var?_cell hg hv j,geq hj,<- e5];have h0:((cs.toList.drop j).take 1)[0]? = some (.string s):=by rw [e1];rfl
 simpa using h0
theorem Me {W:World} {g:Nat} {ss:List ByteArray} (h:∀ j,j<ss.length->W.cell? ⟨g,j,none⟩=(ss[j]?).map .string) (h0:0<ss.length) :
  FRel W (λg=>g<W.heap.size) (.fp (ss.map λs => .v (.string s)) 0) (.pointer (some ⟨g,0,none⟩)):=by
 have hlt:g<W.heap.size:=World.block_lt_of_cell? W ⟨g,0,none⟩ (u:=.string ss[0]) (by rw [h 0 h0,geq h0];rfl);have hrow:∀ (j:Nat) (c:AV),(ss.map λs=>AV.v (.string s))[j]? = some c->∃ hj:j<ss.length,c = .v (.string ss[j]):=λj c hc=>by
  rw [Wn] at hc
  by_cases hj:j<ss.length
  ·rw [geq hj] at hc;exact ⟨hj,(osl hc).symm⟩
  rw [gen (by omega)] at hc;cases hc
 refine .fp (o:=0) (λj => .string (ss[j]?.getD ByteArray.empty)) hlt hlt (λj c hc=>?_) (λj c hc=>rfl) (λj c hc=>?_)
 ·obtain ⟨hj,rfl⟩:=hrow j c hc;rw [Nat.zero_add,h j hj,geq hj];rfl
 obtain ⟨hj,rfl⟩:=hrow j c hc;rw [geq hj];exact .v rfl
end
end Go.Proofs.YtpkhamajimidnaaGreatDoor
