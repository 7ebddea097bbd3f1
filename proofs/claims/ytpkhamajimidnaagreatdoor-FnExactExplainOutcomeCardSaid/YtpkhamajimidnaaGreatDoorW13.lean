/- Texts joined. No conditions. -/
import Derived.Test.YtpkhamajimidnaaGreatDoorW12
namespace Go.Proofs.YtpkhamajimidnaaGreatDoor
noncomputable section
open _root_.List renaming replicate -> V8, eq_nil_of_length_eq_zero -> V9
set_option maxHeartbeats 4000000
open Go.RowKit
set_option maxRecDepth 100000
theorem pOf {P:Program} {g:FuncId} {PO:List AV} {w:Nat} {ty:TypeId} {α:Type} [Inhabited α] {f:α->List AV} {l:List α} (h:cg P g PO [] (Fb w ty (λx=>x) l.length (l.map f) 0 [])) (hF:∀ x,(f x).all (isF 9)=true):au P g PO (eL f l):=
 au.of ⟨h.1,λc vs hH hr ha=>(h.2 c vs hH hr ha).mono λ_ _ ⟨v,c',r0,e,hw,⟨_,_,hg,h2,h3⟩,i,x,u⟩=>⟨v,c',r0,e,hw,by rw [h2,h3];exact Fz.own rfl rfl rfl (λk=>List.length_eq_zero_iff.1 (hg k)) hF,i,x,u⟩⟩
theorem zw (r_:LI) {q} (h:nQ r_=some q):au Tryz.prog 53 [eL cI r_] (eL cI q):=by
 refine pM Tryz.func53 Z (by kernel_rfl) Z (jI (oN as' (jA (jI (oN (Pt.mkF (c:=cI) ([]:LI) [] aD Z Z Z qD qD Z) (oN as' (jA ?_)))))));refine T.jU h (λs1=>[(3,eL cI s1)]) (λs1=>[]) (λs1 h=>?_) (λs1 h=>?_)
 ·refine jI (oN mv (oN as' (jA (jK ?_))))
  cases h
  exact aF Z Z Z
 refine jI (oN as' (jA (jE ?_)));refine T.lU h (λs4=>[(4,I s4.1),(3,eL cI s4.2),(0,eL cI r_)]) (λs4=>[]) (kw Z Z) (λs4 ws4 h=>?_);refine jH (jI (oN mv (oN mv (oN (Pt.lenL aD Z) (oN (Pt.ilt Z Z) (jA ?_))))));refine jN Z h (λq6 h=>?_) (λq6 h=>?_)
 ·refine jG ?_;refine T.jU h (λs7=>[(3,eL cI s7),(4,I s4.1),(0,eL cI r_)]) (λs7=>[]) (λs7 h=>?_) (λs7 h=>?_)
  ·refine jC (oN mv (jW h λg14 h=>oN (Pt.add Z Z g14) (oN as' (jA ?_))));exact lE h (kw Z Z)
  refine jE (jI (oN mv (oN mv (oC h (λ_=>Bb _ _) Z Z Z Z λv8 _ h=>oN as' (jA (jI (oN mv (oN (Pt.lenL aD Z) (oN (Pt.igt Z Z) (oN mv ?_))))))))));refine TO.jB h 11 (λs9=>[(30,Bo s9),(5,eL cI v8),(4,I s4.1),(3,eL cI s4.2),(0,eL cI r_)]) (λs9=>[]) (λs9 q10 h js9=>?_) (λs9 q10 h js9=>?_) (λs9 h=>?_)
  ·refine gN Z q10 mv (gN Z q10 (Pt.lenL aD Z) (gN Z q10 (Pt.ieq Z Z) (gN Z q10 mv ?_)));refine TO.jB h 6 (λs11=>[(29,Bo s11),(23,Bo ((s4.2.length:Int)==U)),(22,Bo ((s4.2.length:Int)==U)),(21,I (s4.2.length:Int)),(20,eL cI s4.2),(19,Bo (decide (U<(v8.length:Int)))),(5,eL cI v8),(4,I s4.1),(3,eL cI s4.2),(0,eL cI r_)]) (λs11=>[]) (λs11 q12 h js11=>?_) (λs11 q12 h js11=>?_) (λs11 h=>?_)
   ·refine gS Z q12 (gS Z q12 (gS Z q12 (gS Z q12 (gS Z q12 (gN Z q10 (Pt.pickT Z q12 (Bo true) Z) ?_)))))
    cases h
    exact js11 _ _ (kw Z Z)
   ·refine gN Z q12 mv (gN Z q12 (Pt.lenL aD Z) (gN Z q12 mv (gN Z q12 (Pt.lenL aD Z) (gN Z q12 (Pt.ilt Z Z) (gN Z q10 (Pt.pickF Z q12 (Bo (decide ((v8.length:Int)<(s4.2.length:Int)))) Z) ?_)))))
    cases h
    exact js11 _ _ (kw Z Z)
   refine oN (Pt.pickT Z q10 (Bo s11) Z) ?_
   cases h
   exact js9 _ _ (kw Z Z)
  ·refine gS Z q10 (gS Z q10 (gS Z q10 (gS Z q10 (gU Z (gU Z (gU Z (gU Z (gU Z (gS Z q10 (oN (Pt.pickF Z q10 (Bo false) Z) ?_))))))))))
   cases h
   exact js9 _ _ (kw Z Z)
  refine jA ?_;refine jN Z h (λq13 h=>?_) (λq13 h=>?_)
  ·refine jC (oN mv (oN as' (jA ?_)))
   cases h
   exact ⟨(),trivial,kw Z Z⟩
  refine jG ?_
  cases h
  exact ⟨(),trivial,kw Z Z⟩
 refine jM (lX h λh=>?_)
 cases h
 exact ⟨(),trivial,kw Z Z⟩
theorem nG (from_:Int) (n:Int) {q} (h:dO from_ n=some q):au Tryz.prog 148 [Y from_,I n] (St q):=by
 refine pM Tryz.func148 Z (by kernel_rfl) Z (jI (oN as' (jA (jI (oN mv (oN mv (jW h λg1 h=>oN (Pt.iconv PL.und Tryz.underlying5 Z g1) (jW h λg2 h=>oN (Pt.add Z Z g2) (oN (Pt.mkF (c:=cY) ([(from_+n)]:LI) [[Y (from_+n)]] Md Z Z Z qD qD Z) (oA (EvA.b2s (l:=([(from_+n)]:LI)) Tryz.underlying123 Tryz.underlying5 Tryz.underlying9 (G9 Z) (bf.fz (l:=([(from_+n)]:LI)) Z qD)) (oN as' (jA (jK ?_)))))))))))))
 cases h
 exact aF Z Z Z
theorem Bc (x:Px) {q} (h:mD x=some q):au Tryz.prog 149 [.agg (Px.c x)] (St q):=by
 refine pM Tryz.func149 Z (by kernel_rfl) Z (jI (oN (Pt.bxF [I x.Op,I x.Loc,I x.Reg,I x.Val] Z Z Z) (oN as' (jA (jI (oN (fa p6 Z) (oN (lf (I x.Loc) PL Z) (oC h (λ_=>nG _ _) Z Z Z Z λv1 _ h=>oN as' (jA (jI (oN (fa p6 Z) (oN (lf (I x.Reg) PL Z) (oC h (λ_=>nG _ _) Z Z Z Z λv2 _ h=>oN as' ?_)))))))))))));refine jA (jH (jI (oN (fa p6 Z) (oN (lf (I x.Op) PL Z) (jA (jE (jI (oN (Pt.ieq Z Z) (oN as' (jA ?_))))))))));refine jN Z h (λq3 h=>?_) (λq3 h=>?_)
 ·refine jI (oN mv (jD h λg4 h=>oN (Pt.cat Z Z g4) (oN mv (jD h λg5 h=>oN (Pt.cat Z Z g5) (oN as' (jA (jK ?_)))))))
  cases h
  exact aF Z Z Z
 refine jI (oN (Pt.ieq Z Z) (oN as' (jA ?_)));refine jN Z h (λq6 h=>?_) (λq6 h=>?_)
 ·refine jI (oN mv (jD h λg7 h=>oN (Pt.cat Z Z g7) (oN (fa p6 Z) (oN (lf (I x.Val) PL Z) (oC h (λ_=>dW _) Z Z Z Z λv8 _ h=>jD h λg9 h=>oN (Pt.cat Z Z g9) (oN as' (jA (jK ?_))))))))
  cases h
  exact aF Z Z Z
 refine jI (oN (Pt.ieq Z Z) (oN as' (jA ?_)));refine jN Z h (λq10 h=>?_) (λq10 h=>?_)
 ·refine jH (T.clean (H0:=[]) (e0:=ai [(4,St v2),(3,St v1)]) Z (Ps Z (Ps Z Pq)) (jC (oN mv (jD h λg11 h=>oN (Pt.cat Z Z g11) (oN mv (jD h λg12 h=>oN (Pt.cat Z Z g12) (oN as' (jA (jK ?_)))))))))
  cases h
  exact aF Z Z Z
 refine jI (oN (Pt.ieq Z Z) (oN as' (jA ?_)));refine jN Z h (λq13 h=>?_) (λq13 h=>?_)
 ·refine jH (T.clean (H0:=[]) (e0:=ai [(4,St v2),(3,St v1),(1,.fp (Px.c x) 0)]) Z (Ps Z (Ps Z (Ps Z Pq))) (jC (oN mv (jD h λg14 h=>oN (Pt.cat Z Z g14) (oN mv (jD h λg15 h=>oN (Pt.cat Z Z g15) (jD h λg16 h=>oN (Pt.cat Z Z g16) (oN (fa p6 Z) (oN (lf (I x.Val) PL Z) (oC h (λ_=>dW _) Z Z Z Z λv17 _ h=>jD h λg18 h=>oN (Pt.cat Z Z g18) ?_))))))))));refine oN as' (jA (jK ?_))
  cases h
  exact aF Z Z Z
 refine jG (jH (T.clean (H0:=[]) (e0:=ai []) Z Pq (jC (oN as' (jA (jK ?_))))))
 cases h
 exact aF Z Z Z
theorem yg (p:List (List Px)) (e_:Pz) {q} (h:gy p e_=some q):au Tryz.prog 98 [eL (cL Px.c) p,.agg (Pz.c e_)] (St q):=by
 refine pM Tryz.func98 Z (by kernel_rfl) Z (jI (oN (Pt.bxF [I e_.Thread,I e_.Index,I e_.Loc,Bo e_.Reads,Bo e_.az] Z Z Z) (oN as' (jA (jH (jI (oN (fa dA Z) (oN (lf (I e_.Thread) PL Z) (oN (Pt.ilt Z Z) (jA ?_))))))))));refine jN Z h (λq1 h=>?_) (λq1 h=>?_)
 ·refine jI (oN (fa dA Z) (oN (lf (I e_.Loc) PL Z) (oC h (λ_=>nG _ _) Z Z Z Z λv2 _ h=>jD h λg3 h=>oN (Pt.cat Z Z g3) (oN as' (jA (jK ?_))))))
  cases h
  exact aF Z Z Z
 refine jG (jH (jP (λ_=>([],false)) (by kernel_rfl) (by kernel_rfl) (fN Z (fa dA Z) (fN Z (lf (I e_.Thread) PL Z) (fC h (λ_=>dW _) Z Z Z Z Z λv4 _ h=>jD h λg5 h=>fN Z (Pt.cat Z Z g5) (fN Z mv (fN Z (fa dA Z) (fN Z (lf (I e_.Thread) PL Z) (jD h λg6 h=>fN Z (Pt.ixL yM Z Z g6 qD) (fN Z (lf (eL Px.c (J p e_.Thread)) Ed Z) (fN Z (fa dA Z) (fN Z (lf (I e_.Index) PL Z) ?_))))))))))));refine jD h λg7 h=>fN Z (Pt.ixL AP Z Z g7 qD) (fN Z (lf (.agg (Px.c (J (J p e_.Thread) e_.Index))) Bm Z) (fC h (λ_=>Bc _) Z Z Z Z Z λv8 _ h=>jD h λg9 h=>fN Z (Pt.cat Z Z g9) (fN Z as' (jR (jK ?_)))))
 cases h
 exact aF Z Z Z
theorem yh (p:List (List Px)) (list:LI) {q} (h:mE p list=some q):au Tryz.prog 52 [eL (cL Px.c) p,eL cI list] (St q):=by
 refine pM Tryz.func52 Z (by kernel_rfl) Z (jI (oN as' (jA (jI (oN mv (oC h (λ_=>dK _) Z Z Z Z λv1 _ h=>oN as' (jA (jI (oN as' (jA ?_))))))))));refine T.jU h (λs2=>[(6,St s2)]) (λs2=>[]) (λs2 h=>?_) (λs2 h=>?_)
 ·refine jI (oN mv (oN as' (jA (jK ?_))))
  cases h
  exact aF Z Z Z
 refine jI (oN as' (jA (jE ?_)));refine T.lU h (λs5=>[(7,I s5.1),(6,St s5.2),(5,eL Pz.c v1),(0,eL (cL Px.c) p),(1,eL cI list)]) (λs5=>[]) (kw Z Z) (λs5 ws5 h=>?_);refine jH (jI (oN mv (oN mv (oN (Pt.lenL aD Z) (oN (Pt.ilt Z Z) (jA ?_))))));refine jN Z h (λq7 h=>?_) (λq7 h=>?_)
 ·refine jG (jH (jE ?_));refine T.jU h (λs8=>[(6,St s8),(7,I s5.1),(5,eL Pz.c v1),(0,eL (cL Px.c) p),(1,eL cI list)]) (λs8=>[]) (λs8 h=>?_) (λs8 h=>?_)
  ·refine jC (oN mv (oN mv (oN mv (oN mv (oN mv (jD h λg11 h=>oN (Pt.ixL aD Z Z g11 qD) (oN (lf (I (J list s5.1)) PL Z) (jD h λg12 h=>oN (Pt.ixL pG Z Z g12 qD) (oN (lf (.agg (Pz.c (J v1 (J list s5.1)))) vB Z) (oC h (λ_=>yg _ _) Z Z Z Z λv13 _ h=>jD h λg14 h=>oN (Pt.cat Z Z g14) (oN as' ?_)))))))))));refine jA (jC (oN mv (jW h λg15 h=>oN (Pt.add Z Z g15) (oN as' (jA ?_)))));exact lE h (kw Z Z)
  refine jI (oN mv (oN (Pt.igt Z Z) (jA ?_)));refine jN Z h (λq9 h=>?_) (λq9 h=>?_)
  ·refine jC (oN mv (jD h λg10 h=>oN (Pt.cat Z Z g10) (oN as' (jA ?_))))
   cases h
   exact ⟨(),trivial,kw Z Z⟩
  refine jG ?_
  cases h
  exact ⟨(),trivial,kw Z Z⟩
 refine jM (lX h λh=>?_)
 cases h
 exact ⟨(),trivial,kw Z Z⟩
theorem zx (p:List (List Px)) (x:Py) (m:List ah) {q} (h:dD p x m=some q):au Tryz.prog 26 [eL (cL Px.c) p,.agg (Py.c x),eL ah.c m] (St q):=by
 refine pM Tryz.func26 Z (by kernel_rfl) Z (jI (oN (Pt.bxF [eL cI x.From,eL (cL cI) x.Order] Z Z Z) (oN as' (jA (jI (oN mv (oN (lf (.agg (Py.c x)) pE Z) (oC h (λ_=>rU _ _) Z Z Z Z λv1 _ h=>oN mv (oN (Pt.ext (eL cI v1.1) Z Z) (oN (Pt.ext (Bo v1.2) Z Z) (oN as' (oN as' (jA (jH ?_))))))))))))));refine jI (oN mv (oN (Pt.not Z) (jA ?_)));refine jN Z h (λq2 h=>?_) (λq2 h=>?_)
 ·refine jI (oN as' (jA (jK ?_)))
  cases h
  exact aF Z Z Z
 refine jG (jI (oN mv (oN (lf (.agg (Py.c x)) pE Z) (oN mv (oC h (λ_=>yf _ _ _) Z Z Z Z λv3 _ h=>oN as' (jA (jH (jH (T.clean (H0:=[]) (e0:=ai [(9,I v3),(4,.fp (Py.c x) 0),(0,eL (cL Px.c) p),(2,eL ah.c m)]) Z (Ps Z (Ps Z (Ps Z (Ps Z Pq)))) (jC (oN mv (oN (Pt.ilt Z Z) (jA ?_)))))))))))));refine jN Z h (λq4 h=>?_) (λq4 h=>?_)
 ·refine jI (oN as' (jA (jK ?_)))
  cases h
  exact aF Z Z Z
 refine jG (jI (oN mv (oC h (λ_=>dW _) Z Z Z Z λv5 _ h=>jD h λg6 h=>oN (Pt.cat Z Z g6) (oN as' (jA ?_)))));refine T.jU h (λs7=>[(10,St s7)]) (λs7=>[]) (λs7 h=>?_) (λs7 h=>?_)
 ·refine jI (oN mv (oN as' (jA (jK ?_))))
  cases h
  exact aF Z Z Z
 refine jI (oN mv (oN mv (jD h λg8 h=>oN (Pt.ixL zU Z Z g8 qD) (oN (fa Gy Z) (oN (lf (I ((J m v3).Kind)) PL Z) (oN (Pt.ieq Z Z) (jA ?_)))))));refine jN Z h (λq9 h=>?_) (λq9 h=>?_)
 ·refine jP (λ_=>([],false)) (by kernel_rfl) (by kernel_rfl) (fN Z mv (jD h λg10 h=>fN Z (Pt.cat Z Z g10) (fN Z mv (fN Z mv (fN Z (lf (.agg (Py.c x)) pE Z) (fN Z mv (fN Z mv (fN Z (Pt.ixL zU Z Z g8 qD) (fN Z (Pt.fafpS 3 Tryz.underlying65 Z (by kernel_rfl) Z Z (row2:=aa.c ((J m v3).Expr))) (fN Z (lf (.agg (aa.c ((J m v3).Expr))) xS Z) (fC h (λ_=>uj _ _ _) Z Z Z Z Z λv11 _ h=>fC h (λ_=>zw _) Z Z Z Z Z λv12 _ h=>fC h (λ_=>yh _ _) Z Z Z Z Z λv13 _ h=>jD h λg14 h=>?_)))))))))));refine fN Z (Pt.cat Z Z g14) (fN Z as' (jR ?_))
  cases h
  exact ⟨(),trivial,kw Z Z⟩
 refine jG ?_
 cases h
 exact ⟨(),trivial,kw Z Z⟩
theorem uK (x:Px) {q} (h:iW x=some q):au Tryz.prog 110 [.agg (Px.c x)] (Bo q):=by
 refine pM Tryz.func110 Z (by kernel_rfl) Z (jI (oN (Pt.bxF [I x.Op,I x.Loc,I x.Reg,I x.Val] Z Z Z) (oN as' (jA (jI (oN (fa p6 Z) (oN (lf (I x.Op) PL Z) (oN (Pt.ieq Z Z) (oN mv ?_)))))))));refine TO.jB h 4 (λs1=>[(10,Bo s1)]) (λs1=>[]) (λs1 q2 h js1=>?_) (λs1 q2 h js1=>?_) (λs1 h=>?_)
 ·refine gS Z q2 (gS Z q2 (gS Z q2 (oN (Pt.pickT Z q2 (Bo true) Z) ?_)))
  cases h
  exact js1 _ _ (kw Z Z)
 ·refine gN Z q2 (fa p6 Z) (gN Z q2 (lf (I x.Op) PL Z) (gN Z q2 (Pt.ieq Z Z) (oN (Pt.pickF Z q2 (Bo (x.Op==(5:Int))) Z) ?_)))
  cases h
  exact js1 _ _ (kw Z Z)
 refine oN as' (jA (jK ?_))
 cases h
 exact aF Z Z Z
theorem uk (x:Px) {q} (h:ib x=some q):au Tryz.prog 111 [.agg (Px.c x)] (Bo q):=by
 refine pM Tryz.func111 Z (by kernel_rfl) Z (jI (oN (Pt.bxF [I x.Op,I x.Loc,I x.Reg,I x.Val] Z Z Z) (oN as' (jA (jI (oN (fa p6 Z) (oN (lf (I x.Op) PL Z) (oN (Pt.ieq Z Z) (oN mv ?_)))))))));refine TO.jB h 4 (λs1=>[(10,Bo s1),(1,.fp (Px.c x) 0)]) (λs1=>[]) (λs1 q2 h js1=>?_) (λs1 q2 h js1=>?_) (λs1 h=>?_)
 ·refine gS Z q2 (gS Z q2 (gS Z q2 (oN (Pt.pickT Z q2 (Bo true) Z) ?_)))
  cases h
  exact js1 _ _ (kw Z Z)
 ·refine gN Z q2 (fa p6 Z) (gN Z q2 (lf (I x.Op) PL Z) (gN Z q2 (Pt.ieq Z Z) (oN (Pt.pickF Z q2 (Bo (x.Op==(3:Int))) Z) ?_)))
  cases h
  exact js1 _ _ (kw Z Z)
 refine oN mv ?_;refine TO.jB h 4 (λs3=>[(15,Bo s3)]) (λs3=>[]) (λs3 q4 h js3=>?_) (λs3 q4 h js3=>?_) (λs3 h=>?_)
 ·refine gS Z q4 (gS Z q4 (gS Z q4 (oN (Pt.pickT Z q4 (Bo true) Z) ?_)))
  cases h
  exact js3 _ _ (kw Z Z)
 ·refine gN Z q4 (fa p6 Z) (gN Z q4 (lf (I x.Op) PL Z) (gN Z q4 (Pt.ieq Z Z) (oN (Pt.pickF Z q4 (Bo (x.Op==(5:Int))) Z) ?_)))
  cases h
  exact js3 _ _ (kw Z Z)
 refine oN as' (jA (jK ?_))
 cases h
 exact aF Z Z Z
theorem jp (p:List (List Px)) {q} (h:fg p=some q):au Tryz.prog 58 [eL (cL Px.c) p] (eL Pz.c q):=by
 refine pM Tryz.func58 Z (by kernel_rfl) Z (jI (oN as' (jA (jH (T.reserve (jC (oN (Pt.asg (hS true 0 0 5 (([]:List Pz).length)) Z) (jA ?_))))))));refine T.jF (G:=(Bool×Nat)) h (λs1 gh=>(gh.1=true->s1=[])) (λs1 gh=>[(3,hS gh.1 0 gh.2 5 s1.length),(0,eL (cL Px.c) p)]) (λs1 gh=>[bE gh.1 gh.2 5 80 (s1.map Pz.c)]) (λs1 gh h n17=>?_) (λs1 h=>?_)
 ·obtain ⟨b16,u15⟩:=gh;refine T.jF (G:=(Bool×Nat)) h (λs18 gh=>(gh.1=true->s18=[])) (λs18 gh=>[(3,hS gh.1 0 gh.2 5 s18.length)]) (λs18 gh=>[bE gh.1 gh.2 5 80 (s18.map Pz.c)]) (λs18 gh h n59=>?_) (λs18 h=>?_)
  ·obtain ⟨b58,u57⟩:=gh;refine jI (oN mv (oN (Pt.asg (hS b58 0 u57 5 s18.length) Z) (jA (jK ?_))));obtain rfl:=Pw h
   repeat (first|refine iA ?_|refine iB ?_)
   exact jQ (vs:=[hS b58 0 u57 5 s18.length]) (.cons (.tmp Z) .nil) (Fz.own (g:=b58) (ver:=u57) (l:=s18) Z Z Z n59 Pz.isF)
  refine jI (oN mv (oN (Pt.lenL yM Z) (oN mv (jA (jE ?_)))));refine jO (S:=(List Pz)×Int) (G:=(Bool×Nat)) (ni p) (λs24 gh=>(gh.1=true->s24.1=[])) (λs24 gh=>[(21,I s24.2),(20,I (p.length:Int)),(19,eL (cL Px.c) p),(3,hS gh.1 0 gh.2 5 s24.1.length)]) (λs24 gh=>[bE gh.1 gh.2 5 80 (s24.1.map Pz.c)]) (s0:=(s1,U)) (b16,u15) h n17 (kw Z Z) (λs24 gh ws24 h n28=>?_);obtain ⟨b27,u26⟩:=gh;refine jI (oN (Pt.ilt Z Z) (jA (jH ?_)));refine jN Z h (λq29 h=>?_) (λq29 h=>?_)
  ·refine jG ?_;refine T.jF (G:=(Bool×Nat)) h (λs30 gh=>(gh.1=true->s30=[])) (λs30 gh=>[(21,I s24.2),(20,I (p.length:Int)),(19,eL (cL Px.c) p),(3,hS gh.1 0 gh.2 5 s30.length)]) (λs30 gh=>[bE gh.1 gh.2 5 80 (s30.map Pz.c)]) (λs30 gh h n55=>?_) (λs30 h=>?_)
   ·obtain ⟨b54,u53⟩:=gh;refine jC (jW h λg56 h=>oN (Pt.add Z Z g56) (oN mv (jA ?_)));obtain rfl:=Pw h;exact ⟨(s30,(s24.2+V)),(b54,u53),Z,n55,kw Z Z⟩
   refine jE (jI (oN mv (jD h λg31 h=>oN (Pt.ixL yM Z Z g31 qD) (oN (lf (eL Px.c (J p s24.2)) Ed Z) (oN as' (oN as' (jA (jI (oN mv (oN (Pt.lenL AP Z) (oN mv (jA (jE ?_)))))))))))));refine jO (S:=(List Pz)×Int) (G:=(Bool×Nat)) (ng p s24) (λs37 gh=>(gh.1=true->s37.1=[])) (λs37 gh=>[(28,I s37.2),(27,I ((J p s24.2).length:Int)),(26,eL Px.c (J p s24.2)),(5,I s24.2),(21,I s24.2),(20,I (p.length:Int)),(19,eL (cL Px.c) p),(3,hS gh.1 0 gh.2 5 s37.1.length)]) (λs37 gh=>[bE gh.1 gh.2 5 80 (s37.1.map Pz.c)]) (s0:=(s24.1,U)) (b27,u26) h n28 (kw Z Z) (λs37 gh ws37 h n41=>?_);obtain ⟨b40,u39⟩:=gh;refine jI (oN (Pt.ilt Z Z) (jA (jH ?_)));refine jN Z h (λq42 h=>?_) (λq42 h=>?_)
   ·refine jG ?_;refine T.jF (G:=(Bool×Nat)) h (λs43 gh=>(gh.1=true->s43=[])) (λs43 gh=>[(3,hS gh.1 0 gh.2 5 s43.length),(28,I s37.2),(27,I ((J p s24.2).length:Int)),(26,eL Px.c (J p s24.2)),(5,I s24.2),(21,I s24.2),(20,I (p.length:Int)),(19,eL (cL Px.c) p)]) (λs43 gh=>[bE gh.1 gh.2 5 80 (s43.map Pz.c)]) (λs43 gh h n51=>?_) (λs43 h=>?_)
    ·obtain ⟨b50,u49⟩:=gh;refine jC (jW h λg52 h=>oN (Pt.add Z Z g52) (oN mv (jA ?_)));obtain rfl:=Pw h;exact ⟨(s43,(s37.2+V)),(b50,u49),Z,n51,kw Z Z⟩
    refine jE (jI (oN mv (jD h λg44 h=>oN (Pt.ixL AP Z Z g44 qD) (oN (lf (.agg (Px.c (J (J p s24.2) s37.2))) Bm Z) (oA (EvA.al Mc Z Z) (oN as' (oV (sr (Px.c (J (J p s24.2) s37.2)) Bm Z Z Z Z) (jA (jI (oN (fa p6 Z) (oA (lh (I ((J (J p s24.2) s37.2).Op)) PL Z Z Z) (oN (Pt.ine Z Z) (jA ?_)))))))))))));refine jN Z h (λq45 h=>?_) (λq45 h=>?_)
    ·refine jP (dG [dF,dF,dF,dF,([1],false),([1],false),dF,([1],false),dF,dF,dF,([0],true),dF]) (by kernel_rfl) (by kernel_rfl) (fN Z mv (fN Z mv (fN Z mv (fN Z (fa p6 Z) (fR [1] Z (λG hG=>EvA.loadhp (I ((J (J p s24.2) s37.2).Loc)) PL Z (hG.a0 Z) Z Z Z Z) (fR [1] Z (λG hG=>EvA.loadhp (.agg (Px.c (J (J p s24.2) s37.2))) Bm Z (hG.a0 Z) Z Z Z Z) (fC h (λ_=>uK _) Z Z Z Z Z λv46 _ h=>fR [1] Z (λG hG=>EvA.loadhp (.agg (Px.c (J (J p s24.2) s37.2))) Bm Z (hG.a0 Z) Z Z Z Z) (fC h (λ_=>uk _) Z Z Z Z Z λv47 _ h=>fN Z (Pt.build [I s24.2,I s37.2,I ((J (J p s24.2) s37.2).Loc),Bo v46,Bo v47] Tryz.underlying80 Ee dA Z Z) (fN Z (Pt.mkF (c:=Pz.c) ([(⟨s24.2,s37.2,(J (J p s24.2) s37.2).Loc,v46,v47⟩:Pz)]:List Pz) [[I s24.2,I s37.2,I ((J (J p s24.2) s37.2).Loc),Bo v46,Bo v47]] pG Z Z Z qD Pz.isF Z) (jL h λg48 h=>fW 0 [] Z Z (λG hG=>EvA.app1 (g:=b40) (l:=s37.1) (⟨s24.2,s37.2,(J (J p s24.2) s37.2).Loc,v46,v47⟩:Pz) pG (by kernel_rfl) Z Z (hG.a0 Z) n41 (bf.fz (l:=([(⟨s24.2,s37.2,(J (J p s24.2) s37.2).Loc,v46,v47⟩:Pz)]:List Pz)) Z qD) g48) (fN Z (Pt.asg (hS false 0 (u39+1) 5 ((s37.1++[(⟨s24.2,s37.2,(J (J p s24.2) s37.2).Loc,v46,v47⟩:Pz)]).length)) Z) (jR ?_))))))))))));obtain rfl:=Pw h;exact ⟨(false,u39+1),nofun,ow Z (.cons (.list (g:=false) (ver:=u39+1) (l:=(s37.1++[(⟨s24.2,s37.2,(J (J p s24.2) s37.2).Loc,v46,v47⟩:Pz)])) Pz.isF) .nil) (ae (.hS (g:=false) (b:=0) (ver:=u39+1) (s:=5) (n:=(s37.1++[(⟨s24.2,s37.2,(J (J p s24.2) s37.2).Loc,v46,v47⟩:Pz)]).length) Z) (ae (.fz (qC Z)) (ae (.fz (qC Z)) (ae (.fz (qC Z)) (ae (.fz (qC Z)) (ae (.fz (qC Z)) (ae (.fz (qC Z)) (ae (.fz (qC Z)) aN))))))))⟩
    refine jG ?_;obtain rfl:=Pw h;exact ⟨(b40,u39),n41,ow Z (.cons (.list (g:=b40) (ver:=u39) (l:=s37.1) Pz.isF) .nil) (ae (.hS (g:=b40) (b:=0) (ver:=u39) (s:=5) (n:=s37.1.length) Z) (ae (.fz (qC Z)) (ae (.fz (qC Z)) (ae (.fz (qC Z)) (ae (.fz (qC Z)) (ae (.fz (qC Z)) (ae (.fz (qC Z)) (ae (.fz (qC Z)) aN))))))))⟩
   refine jM (lX h λh=>?_)
   cases h
   exact ⟨(b40,u39),n41,kw Z Z⟩
  refine jM (lX h λh=>?_)
  cases h
  exact ⟨(b27,u26),n28,kw Z Z⟩
 refine jI (oN mv (jA (jE ?_)));refine jO (S:=(List Pz)×Int) (G:=(Bool×Nat)) oK (λs7 gh=>(gh.1=true->s7.1=[])) (λs7 gh=>[(9,I s7.2),(3,hS gh.1 0 gh.2 5 s7.1.length),(0,eL (cL Px.c) p)]) (λs7 gh=>[bE gh.1 gh.2 5 80 (s7.1.map Pz.c)]) (s0:=(([]:List Pz),U)) (true,0) h qD (kw Z Z) (λs7 gh ws7 h n11=>?_);let d0:=(⟨(-1:Int),s7.2,s7.2,false,true⟩:Pz);obtain ⟨b10,u9⟩:=gh;refine jI (oN (Pt.ilt Z Z) (jA (jH ?_)));refine jN Z h (λq12 h=>?_) (λq12 h=>?_)
 ·refine jG (jH (jE (jI (oN mv (oN as' (jA (jC (oN mv (oN mv (oN mv (oN (Pt.build [I (-1:Int),I s7.2,I s7.2,Bo false,Bo true] Tryz.underlying80 Ee dA Z Z) (oN (Pt.mkF (c:=Pz.c) ([d0]:List Pz) [[I (-1:Int),I s7.2,I s7.2,Bo false,Bo true]] pG Z Z Z qD Pz.isF Z) (jL h λg13 h=>oA (EvA.app1 (g:=b10) (l:=s7.1) d0 pG (by kernel_rfl) Z Z Z n11 (bf.fz (l:=([d0]:List Pz)) Z qD) g13) (oN (Pt.asg (hS false 0 (u9+1) 5 ((s7.1++[d0]).length)) Z) ?_))))))))))))));refine jA (jC (jW h λg14 h=>oN (Pt.add Z Z g14) (oN mv (jA ?_))));obtain rfl:=Pw h;exact ⟨((s7.1++[d0]),(s7.2+V)),(false,u9+1),Z,nofun,kw Z Z⟩
 refine jM (lX h λh=>?_)
 cases h
 exact ⟨(b10,u9),n11,kw Z Z⟩
theorem qq (list:List Pz) (loc:Int) {q} (h:eO list loc=some q):cg Tryz.prog 60 [eL Pz.c list,I loc] [] (Fb 1 3 (λx=>x) q.length (q.map cI) 0 []):=by
 refine cg.mkO Tryz.func60 Z (by kernel_rfl) Z (by kernel_rfl) (e0:=ai [(0,eL Pz.c list),(1,I loc)]) (Ps Z (Ps Z Pq)) qI (qF qD) (jI (oN as' (jA (jH (T.reserve (jC (oN (Pt.asg (hS true 0 0 1 (([]:LI).length)) Z) (jA ?_))))))));refine T.jF (G:=(Bool×Nat)) h (λs1 gh=>(gh.1=true->s1=[])) (λs1 gh=>[(5,hS gh.1 0 gh.2 1 s1.length)]) (λs1 gh=>[bE gh.1 gh.2 1 3 (s1.map cI)]) (λs1 gh h n25=>?_) (λs1 h=>?_)
 ·obtain ⟨b24,u23⟩:=gh;refine jI (oN mv (oN (Pt.asg (hS b24 0 u23 1 s1.length) Z) (jA (jK ?_))));obtain rfl:=Pw h
  repeat (first|refine iA ?_|refine iB ?_)
  exact jQ (vs:=[hS b24 0 u23 1 s1.length]) (.cons (.tmp Z) .nil) ⟨0,b24,u23,(tP n25 Z),Z,ownB Z⟩
 refine jI (oN mv (oN (Pt.lenL pG Z) (oN mv (jA (jE ?_)))));refine jO (S:=(LI)×Int) (G:=(Bool×Nat)) (lI list loc) (λs7 gh=>(gh.1=true->s7.1=[])) (λs7 gh=>[(10,I s7.2),(9,I (list.length:Int)),(8,eL Pz.c list),(5,hS gh.1 0 gh.2 1 s7.1.length),(1,I loc)]) (λs7 gh=>[bE gh.1 gh.2 1 3 (s7.1.map cI)]) (s0:=(([]:LI),U)) (true,0) h qD (kw Z Z) (λs7 gh ws7 h n11=>?_);obtain ⟨b10,u9⟩:=gh;refine jI (oN (Pt.ilt Z Z) (jA (jH ?_)));refine jN Z h (λq12 h=>?_) (λq12 h=>?_)
 ·refine jG ?_;refine T.jF (G:=(Bool×Nat)) h (λs13 gh=>(gh.1=true->s13=[])) (λs13 gh=>[(5,hS gh.1 0 gh.2 1 s13.length),(10,I s7.2),(9,I (list.length:Int)),(8,eL Pz.c list),(1,I loc)]) (λs13 gh=>[bE gh.1 gh.2 1 3 (s13.map cI)]) (λs13 gh h n21=>?_) (λs13 h=>?_)
  ·obtain ⟨b20,u19⟩:=gh;refine jC (jW h λg22 h=>oN (Pt.add Z Z g22) (oN mv (jA ?_)));obtain rfl:=Pw h;exact ⟨(s13,(s7.2+V)),(b20,u19),Z,n21,kw Z Z⟩
  refine jE (jI (oN mv (jD h λg14 h=>oN (Pt.ixL pG Z Z g14 qD) (oN (lf (.agg (Pz.c (J list s7.2))) vB Z) (oA (EvA.al Ee Z Z) (oN as' (oV (sr (Pz.c (J list s7.2)) vB Z Z Z Z) (jA (jI (oN (fa dA Z) (oA (lh (Bo ((J list s7.2).az)) ty4 Z Z Z) (oN mv ?_))))))))))));refine TO.jB h 5 (λs15=>[(22,Bo s15),(6,I s7.2),(10,I s7.2),(9,I (list.length:Int)),(8,eL Pz.c list),(5,hS b10 0 u9 1 s7.1.length),(1,I loc)]) (λs15=>[bE b10 u9 1 3 (s7.1.map cI),some ⟨0,5,80,[(Pz.c (J list s7.2))]⟩]) (λs15 q16 h js15=>?_) (λs15 q16 h js15=>?_) (λs15 h=>?_)
  ·refine gN Z q16 (fa dA Z) (gA Z q16 (lh (I ((J list s7.2).Loc)) PL Z Z Z) (gN Z q16 mv (gN Z q16 (Pt.ieq Z Z) (oN (Pt.pickT Z q16 (Bo (((J list s7.2).Loc)==loc)) Z) ?_))))
   cases h
   exact js15 _ _ (kw Z Z)
  ·refine gS Z q16 (gS Z q16 (gS Z q16 (gS Z q16 (oN (Pt.pickF Z q16 (Bo false) Z) ?_))))
   cases h
   exact js15 _ _ (kw Z Z)
  refine jA ?_;refine jN Z h (λq17 h=>?_) (λq17 h=>?_)
  ·refine jC (oN mv (oN mv (oN (Pt.mkF (c:=cI) ([s7.2]:LI) [[I s7.2]] aD Z Z Z qD qD Z) (jL h λg18 h=>oA (EvA.app1 (g:=b10) (l:=s7.1) s7.2 aD (by kernel_rfl) Z Z Z n11 (bf.fz (l:=([s7.2]:LI)) Z qD) g18) (oN (Pt.asg (hS false 0 (u9+1) 1 ((s7.1++[s7.2]).length)) Z) (jA ?_))))));obtain rfl:=Pw h;exact ⟨(false,u9+1),nofun,ow Z (.cons (.list (g:=false) (ver:=u9+1) (l:=(s7.1++[s7.2])) qD) .nil) (ae (.hS (g:=false) (b:=0) (ver:=u9+1) (s:=1) (n:=(s7.1++[s7.2]).length) Z) (ae (.fz (qC Z)) (ae (.fz (qC Z)) (ae (.fz (qC Z)) (ae (.fz (qC Z)) aN)))))⟩
  refine jG ?_;obtain rfl:=Pw h;exact ⟨(b10,u9),n11,ow Z (.cons (.list (g:=b10) (ver:=u9) (l:=s7.1) qD) .nil) (ae (.hS (g:=b10) (b:=0) (ver:=u9) (s:=1) (n:=s7.1.length) Z) (ae (.fz (qC Z)) (ae (.fz (qC Z)) (ae (.fz (qC Z)) (ae (.fz (qC Z)) aN)))))⟩
 refine jM (lX h λh=>?_)
 cases h
 exact ⟨(b10,u9),n11,kw Z Z⟩
theorem wR (list:List Pz) (loc:Int) {q} (h:eO list loc=some q):au Tryz.prog 60 [eL Pz.c list,I loc] (eL cI q):=pOf (qq list loc h) (λ_=>rfl)
theorem lZ (s:LI) (v:Int) {q} (h:bZ s v=some q):au Tryz.prog 112 [eL cI s,I v] (I q):=by
 refine pM Tryz.func112 Z (by kernel_rfl) Z (jI (oN as' (jA ?_)));obtain ⟨Ks1,es1,ws1,h,ks1⟩:=qB h;refine T.join (S:=Unit) (G:=Unit) (λs1=>Ks1 s1=some q) (λs1 gh=>True) (λs1 gh=>[]) (λs1 gh=>[]) (λs1 gh h hg=>?_) ?_
 ·clear ks1;subst es1;refine jI (oN as' (jA (jK ?_)))
  cases h
  exact aF Z Z Z
 refine jI (oN mv (oN (Pt.lenL aD Z) (oN mv (jA (jE ?_)))));refine T.lU h (λs4=>[(8,I s4),(7,I (s.length:Int)),(0,eL cI s),(1,I v)]) (λs4=>[]) (kw Z Z) (λs4 ws4 h=>?_);refine jI (oN (Pt.ilt Z Z) (jA (jH ?_)));refine jN Z h (λq6 h=>?_) (λq6 h=>?_)
 ·refine jG (jH (jE (jI (oN mv (oN as' (jA (jI (oN mv (oN mv (oN mv (jD h λg7 h=>oN (Pt.ixL aD Z Z g7 qD) (oN (lf (I (J s s4)) PL Z) (oN (Pt.ieq Z Z) (jA ?_))))))))))))));refine jN Z h (λq8 h=>?_) (λq8 h=>?_)
  ·refine jI (oN mv (oN as' (jA (jK (lX h λh=>?_)))));obtain rfl:=Pw h;replace h:=congrArg some (show _=_ from ks1)
   cases h
   exact aF Z Z Z
  refine jG (jC (jW h λg9 h=>oN (Pt.add Z Z g9) (oN mv (jA ?_))));exact lE h (kw Z Z)
 refine jM (lX h λh=>?_)
 cases h
 exact ⟨(),(),ks1,trivial,kw Z Z⟩
theorem bM (s:LI) {q} (h:aG s=some q):cg Tryz.prog 61 [eL cI s] [] (Fb 1 3 (λx=>x) q.length (q.map cI) 0 []):=by
 refine cg.mkO Tryz.func61 Z (by kernel_rfl) Z (by kernel_rfl) (e0:=ai [(0,eL cI s)]) (Ps Z Pq) qI (qF qD) (jI (oN as' (jA (jH (jI (oN mv ?_))))));refine OU false Tryz.underlying23 Z Z (λz1=>?_) ?_
 ·replace h:=(CE h).1 (by rw [z1];rfl);refine jA ?_;refine T.cond Z (λ_=>?_) (λq=>absurd (q.symm.trans Z) (by decide));refine jI (oN as' (jA (jK ?_)));obtain rfl:=Pw h
  repeat (first|refine iA ?_|refine iB ?_)
  exact jQ (vs:=[.nil]) (.cons (.tmp Z) .nil) ⟨0,true,0,λ_=>Z,Z,nofun⟩
 replace h:=(CE h).2;refine jA ?_;refine T.cond Z (λq=>absurd (q.symm.trans Z) (by decide)) (λ_=>?_);refine jG (jI (oA (EvA.mkO (c:=cI) ([]:LI) [] aD Z Z Z qD Z Z) (oN mv (jL h λg2 h=>oA (EvA.appF (l:=([]:LI)) s aD (by kernel_rfl) Z Z Z (bf.fz (l:=s) Z qD) g2) (oN (Pt.asg (hS false 0 (0+1) 1 ((([]:LI)++s).length)) Z) (jA (jK ?_)))))));obtain rfl:=Pw h
 repeat (first|refine iA ?_|refine iB ?_)
 exact jQ (vs:=[hS false 0 (0+1) 1 ((([]:LI)++s).length)]) (.cons (.tmp Z) .nil) ⟨0,false,0+1,nofun,Z,ownB Z⟩
theorem l4 (s:LI) {q} (h:aG s=some q):au Tryz.prog 61 [eL cI s] (eL cI q):=pOf (bM s h) (λ_=>rfl)
theorem rW (s1_:LI) (s2_:LI) {q} (h:dX s1_ s2_=some q):au Tryz.prog 63 [eL cI s1_,eL cI s2_] (Bo q):=by
 refine pM Tryz.func63 Z (by kernel_rfl) Z (jI (oN as' (jA (jH (jI (oN mv (oN (Pt.lenL aD Z) (oN mv (oN (Pt.lenL aD Z) (oN (Pt.ine Z Z) (jA ?_)))))))))));refine jN Z h (λq1 h=>?_) (λq1 h=>?_)
 ·refine jI (oN as' (jA (jK ?_)))
  cases h
  exact aF Z Z Z
 refine jG ?_;obtain ⟨Ks2,es2,ws2,h,ks2⟩:=qB h;refine T.join (S:=Unit) (G:=Unit) (λs2=>Ks2 s2=some q) (λs2 gh=>True) (λs2 gh=>[]) (λs2 gh=>[]) (λs2 gh h hg=>?_) ?_
 ·clear ks2;subst es2;refine jI (oN as' (jA (jK ?_)))
  cases h
  exact aF Z Z Z
 refine jI (oN mv (oN (Pt.lenL aD Z) (oN mv (jA (jE ?_)))));refine T.lU h (λs5=>[(13,I s5),(12,I (s1_.length:Int)),(0,eL cI s1_),(1,eL cI s2_)]) (λs5=>[]) (kw Z Z) (λs5 ws5 h=>?_);refine jI (oN (Pt.ilt Z Z) (jA (jH ?_)));refine jN Z h (λq7 h=>?_) (λq7 h=>?_)
 ·refine jG (jH (jE (jI (oN mv (oN as' (jA (jH (jP (λ_=>([],false)) (by kernel_rfl) (by kernel_rfl) (fN Z mv (fN Z mv (jD h λg8 h=>fN Z (Pt.ixL aD Z Z g8 qD) (fN Z (lf (I (J s1_ s5)) PL Z) (fN Z mv (fN Z mv ?_))))))))))))));refine jD h λg9 h=>fN Z (Pt.ixL aD Z Z g9 qD) (fN Z (lf (I (J s2_ s5)) PL Z) (fN Z (Pt.ine Z Z) (jR ?_)));refine jN Z h (λq10 h=>?_) (λq10 h=>?_)
  ·refine jH (T.clean (H0:=[]) (e0:=ai []) Z Pq (jC (oN as' (jA (jK (lX h λh=>?_))))));obtain rfl:=Pw h;replace h:=congrArg some (show _=_ from ks2)
   cases h
   exact aF Z Z Z
  refine jG (jC (jW h λg11 h=>oN (Pt.add Z Z g11) (oN mv (jA ?_))));exact lE h (kw Z Z)
 refine jM (lX h λh=>?_)
 cases h
 exact ⟨(),(),ks2,trivial,kw Z Z⟩
theorem qw (x:Int) (low:Int) (high:Int) {q} (h:jZ x low high=some q):au Tryz.prog 64 [I x,I low,I high] (Bo q):=by
 refine pM Tryz.func64 Z (by kernel_rfl) Z (jI (oN as' (jA (jI (oN mv (oN mv (oN (Pt.ige Z Z) (oN mv ?_))))))));refine TO.jB h 4 (λs1=>[(14,Bo s1)]) (λs1=>[]) (λs1 q2 h js1=>?_) (λs1 q2 h js1=>?_) (λs1 h=>?_)
 ·refine gN Z q2 mv (gN Z q2 mv (gN Z q2 (Pt.ile Z Z) (oN (Pt.pickT Z q2 (Bo (decide (x<=high))) Z) ?_)))
  cases h
  exact js1 _ _ (kw Z Z)
 ·refine gS Z q2 (gS Z q2 (gS Z q2 (oN (Pt.pickF Z q2 (Bo false) Z) ?_)))
  cases h
  exact js1 _ _ (kw Z Z)
 refine oN as' (jA (jK ?_))
 cases h
 exact aF Z Z Z
theorem yj (op:Int) {q} (h:mF op=some q):au Tryz.prog 164 [I op] (.tup [I q.1,St q.2.1,I q.2.2]):=by
 refine pM Tryz.func164 Z (by kernel_rfl) Z (jI (oN as' (oN as' (oN as' (jA (jH (jI (oN mv (jA (jE (jI (oN (Pt.ieq Z Z) (oN as' (jA ?_))))))))))))));refine jN Z h (λq1 h=>?_) (λq1 h=>?_)
 ·refine jI (oN as' (oN as' (oN as' (jA (jK ?_)))));obtain rfl:=Pw h
  repeat (first|refine iA ?_|refine iB ?_)
  exact jQ (vs:=[I U,St (⟨#[]⟩:ByteArray),I U]) (.cons (.tmp Z) (.cons (.tmp Z) (.cons (.tmp Z) .nil))) (.tupL (.cons (qC Z) (.cons (qC Z) (.cons (qC Z) .nil))))
 refine jI (oN (Pt.ieq Z Z) (oN as' (jA ?_)));refine jN Z h (λq2 h=>?_) (λq2 h=>?_)
 ·refine jI (oN as' (oN as' (oN as' (jA (jK ?_)))));obtain rfl:=Pw h
  repeat (first|refine iA ?_|refine iB ?_)
  exact jQ (vs:=[I (3:Int),St (⟨#[124]⟩:ByteArray),I (2:Int)]) (.cons (.tmp Z) (.cons (.tmp Z) (.cons (.tmp Z) .nil))) (.tupL (.cons (qC Z) (.cons (qC Z) (.cons (qC Z) .nil))))
 refine jI (oN (Pt.ieq Z Z) (oN as' (jA ?_)));refine jN Z h (λq3 h=>?_) (λq3 h=>?_)
 ·refine jI (oN as' (oN as' (oN as' (jA (jK ?_)))));obtain rfl:=Pw h
  repeat (first|refine iA ?_|refine iB ?_)
  exact jQ (vs:=[I (2:Int),St (⟨#[38]⟩:ByteArray),I (2:Int)]) (.cons (.tmp Z) (.cons (.tmp Z) (.cons (.tmp Z) .nil))) (.tupL (.cons (qC Z) (.cons (qC Z) (.cons (qC Z) .nil))))
 refine jI (oN (Pt.ieq Z Z) (oN as' (jA ?_)));refine jN Z h (λq4 h=>?_) (λq4 h=>?_)
 ·refine jI (oN as' (oN as' (oN as' (jA (jK ?_)))));obtain rfl:=Pw h
  repeat (first|refine iA ?_|refine iB ?_)
  exact jQ (vs:=[I (2:Int),St (⟨#[45]⟩:ByteArray),I (2:Int)]) (.cons (.tmp Z) (.cons (.tmp Z) (.cons (.tmp Z) .nil))) (.tupL (.cons (qC Z) (.cons (qC Z) (.cons (qC Z) .nil))))
 refine jI (oN (Pt.ieq Z Z) (oN as' (jA ?_)));refine jN Z h (λq5 h=>?_) (λq5 h=>?_)
 ·refine jI (oN as' (oN as' (oN as' (jA (jK ?_)))));obtain rfl:=Pw h
  repeat (first|refine iA ?_|refine iB ?_)
  exact jQ (vs:=[I V,St (⟨#[59]⟩:ByteArray),I (2:Int)]) (.cons (.tmp Z) (.cons (.tmp Z) (.cons (.tmp Z) .nil))) (.tupL (.cons (qC Z) (.cons (qC Z) (.cons (qC Z) .nil))))
 refine jI (oN (Pt.ieq Z Z) (oN as' (jA ?_)));refine jN Z h (λq6 h=>?_) (λq6 h=>?_)
 ·refine jH (T.clean (H0:=[]) (e0:=ai []) Z Pq (jC (oN as' (oN as' (oN as' (jA (jK ?_)))))));obtain rfl:=Pw h
  repeat (first|refine iA ?_|refine iB ?_)
  exact jQ (vs:=[I U,St (⟨#[126]⟩:ByteArray),I V]) (.cons (.tmp Z) (.cons (.tmp Z) (.cons (.tmp Z) .nil))) (.tupL (.cons (qC Z) (.cons (qC Z) (.cons (qC Z) .nil))))
 refine jH (T.clean (H0:=[]) (e0:=ai [(5,I op)]) Z (Ps Z Pq) (jC (oN (Pt.ieq Z Z) (oN as' (jA ?_)))));refine jN Z h (λq7 h=>?_) (λq7 h=>?_)
 ·refine jI (oN as' (oN as' (oN as' (jA (jK ?_)))));obtain rfl:=Pw h
  repeat (first|refine iA ?_|refine iB ?_)
  exact jQ (vs:=[I U,St (⟨#[43]⟩:ByteArray),I V]) (.cons (.tmp Z) (.cons (.tmp Z) (.cons (.tmp Z) .nil))) (.tupL (.cons (qC Z) (.cons (qC Z) (.cons (qC Z) .nil))))
 refine jG (jI (oN as' (oN as' (oN as' (jA (jK ?_))))));obtain rfl:=Pw h
 repeat (first|refine iA ?_|refine iB ?_)
 exact jQ (vs:=[I U,St (⟨#[]⟩:ByteArray),I (-1:Int)]) (.cons (.tmp Z) (.cons (.tmp Z) (.cons (.tmp Z) .nil))) (.tupL (.cons (qC Z) (.cons (qC Z) (.cons (qC Z) .nil))))
theorem oh (s:List ByteArray) (v:ByteArray) {q} (h:bP s v=some q):au Tryz.prog 212 [eL cS s,St v] (I q):=by
 refine pM Tryz.func212 Z (by kernel_rfl) Z (jI (oN as' (jA ?_)));obtain ⟨Ks1,es1,ws1,h,ks1⟩:=qB h;refine T.join (S:=Unit) (G:=Unit) (λs1=>Ks1 s1=some q) (λs1 gh=>True) (λs1 gh=>[]) (λs1 gh=>[]) (λs1 gh h hg=>?_) ?_
 ·clear ks1;subst es1;refine jI (oN as' (jA (jK ?_)))
  cases h
  exact aF Z Z Z
 refine jI (oN mv (oN (Pt.lenL AR Z) (oN mv (jA (jE ?_)))));refine T.lU h (λs4=>[(8,I s4),(7,I (s.length:Int)),(0,eL cS s),(1,St v)]) (λs4=>[]) (kw Z Z) (λs4 ws4 h=>?_);refine jI (oN (Pt.ilt Z Z) (jA (jH ?_)));refine jN Z h (λq6 h=>?_) (λq6 h=>?_)
 ·refine jG (jH (jE (jI (oN mv (oN as' (jA (jI (oN mv (oN mv (oN mv (jD h λg7 h=>oN (Pt.ixL AR Z Z g7 qD) (oN (lf (St (J s s4)) ty9 Z) (oN (Pt.seq Z Z) (jA ?_))))))))))))));refine jN Z h (λq8 h=>?_) (λq8 h=>?_)
  ·refine jI (oN mv (oN as' (jA (jK (lX h λh=>?_)))));obtain rfl:=Pw h;replace h:=congrArg some (show _=_ from ks1)
   cases h
   exact aF Z Z Z
  refine jG (jC (jW h λg9 h=>oN (Pt.add Z Z g9) (oN mv (jA ?_))));exact lE h (kw Z Z)
 refine jM (lX h λh=>?_)
 cases h
 exact ⟨(),(),ks1,trivial,kw Z Z⟩
theorem mX (s:List ByteArray) (v:ByteArray) {q} (h:cn s v=some q):au Tryz.prog 194 [eL cS s,St v] (Bo q):=by
 refine pM Tryz.func194 Z (by kernel_rfl) Z (jI (oN as' (jA (jI (oN mv (oN mv (oC h (λ_=>oh _ _) Z Z Z Z λv1 _ h=>oN (Pt.ige Z Z) (oN as' (jA (jK ?_))))))))))
 cases h
 exact aF Z Z Z
theorem wS (name:ByteArray) {q} (h:iD name=some q):au Tryz.prog 165 [St name] (Bo q):=by
 refine pM Tryz.func165 Z (by kernel_rfl) Z (jI (oN as' (jA (jI (oN (Pt.slG (c:=cS) zL Tryz.underlying200 ty9 Z Z Z Ju) (oN mv (oC h (λ_=>mX _ _) Z Z Z Z λv1 _ h=>oN as' (jA (jK ?_)))))))))
 cases h
 exact aF Z Z Z
theorem yl:∀ (nf:Nat) (e_:aa) (most:Int) {q} (h:eP nf e_ most=some q),au Tryz.prog 116 [.agg (aa.c e_),I most] (I q):=by
 intro nf
 induction nf with
 | zero=>intros;rename_i h;cases h
 | succ nf ih=>
  intro e_ most q h;replace h:kW (eP nf) e_ most=some q:=h;refine pM Tryz.func116 Z (by kernel_rfl) Z (jI (oN (Pt.bxF [I e_.Op,St e_.Name,eL TXimpl_RelExpr.c e_.Kids] Z Z Z) (oN as' (jA (jI (oN (fa tv Z) (oN (lf (I e_.Op) PL Z) (oC h (λ_=>yj _) Z Z Z Z λv1 _ h=>oN mv (oN (Pt.ext (I v1.1) Z Z) (oN (Pt.ext (St v1.2.1) Z Z) (oN (Pt.ext (I v1.2.2) Z Z) (oN as' (oN as' (oN as' ?_))))))))))))));refine jA ?_;obtain ⟨Ks2,es2,ws2,h,ks2⟩:=qB h;refine T.join (S:=Unit) (G:=Unit) (λs2=>Ks2 s2=some q) (λs2 gh=>True) (λs2 gh=>[(2,.fp (aa.c e_) 0),(1,I most)]) (λs2 gh=>[]) (λs2 gh h hg=>?_) ?_
  ·clear ks2;subst es2;refine jI (oN as' (jA ?_));refine T.jU h (λs10=>[(8,I s10)]) (λs10=>[]) (λs10 h=>?_) (λs10 h=>?_)
   ·refine jI (oN mv (oN as' (jA (jK ?_))))
    cases h
    exact aF Z Z Z
   refine jI (oN (fa tv Z) (oN (lf (eL TXimpl_RelExpr.c e_.Kids) FM Z) (oN (Pt.lenL De Z) (oN mv (jA (jE ?_))))));refine T.lU h (λs13=>[(49,I s13.1),(48,I (e_.Kids.length:Int)),(47,eL TXimpl_RelExpr.c e_.Kids),(8,I s13.2),(1,I most)]) (λs13=>[]) (kw Z Z) (λs13 ws13 h=>?_);refine jI (oN (Pt.ilt Z Z) (jA (jH ?_)));refine jN Z h (λq15 h=>?_) (λq15 h=>?_)
   ·refine jG (jH (jE (jI (jD h λg16 h=>oN (Pt.res (Pt.ixL De Z Z g16 TXimpl_RelExpr.len) (r' := .fp (aa.c (J e_.Kids s13.1).out) 0) (λ_ _ hr=>qd (TXimpl_RelExpr.out_c _) hr)) (oN (lf (.agg (aa.c ((J e_.Kids s13.1).out))) xS Z) (oA (EvA.al NV Z Z) (oV (sr (aa.c ((J e_.Kids s13.1).out)) xS Z Z Z Z) (jA (jI (oN mv (oA (lh (.agg (aa.c ((J e_.Kids s13.1).out))) xS Z Z Z) (oN mv (jW h λg17 h=>oN (Pt.sub Z Z g17) ?_)))))))))))));refine oC h (λ_=>ih _ _) Z Z Z Z λv18 _ h=>jW h λg19 h=>oN (Pt.add Z Z g19) (oN as' (jA (jI (oN mv (oN (Pt.igt Z Z) (jA ?_))))));refine jN Z h (λq20 h=>?_) (λq20 h=>?_)
    ·refine jM (lX h λh=>?_)
     cases h
     exact ⟨(),trivial,ow Z .nil (ae (.fz (qC Z)) aN)⟩
    refine jG (jC (jW h λg21 h=>oN (Pt.add Z Z g21) (oN mv (jA ?_))));exact lE h (ow Z .nil (ae (.fz (qC Z)) (ae (.fz (qC Z)) (ae (.fz (qC Z)) (ae (.fz (qC Z)) (ae (.fz (qC Z)) aN))))))
   refine jM (lX h λh=>?_)
   cases h
   exact ⟨(),trivial,kw Z Z⟩
  refine T.jU h (λs3=>[(45,Bo s3),(2,.fp (aa.c e_) 0),(1,I most)]) (λs3=>[]) (λs3 h=>?_) (λs3 h=>?_)
  ·refine jN Z h (λq9 h=>?_) (λq9 h=>?_)
   ·refine jI (oN as' (jA (jK ?_)));obtain rfl:=Pw h;replace h:=congrArg some (show _=_ from ks2)
    cases h
    exact aF Z Z Z
   refine jG ?_
   cases h
   exact ⟨(),(),ks2,trivial,kw Z Z⟩
  refine T.drawG (λ_=>([],false)) (by kernel_rfl) (by kernel_rfl) (tN Z mv (tN Z (Pt.ieq Z Z) (tN Z mv ?_)));rcases yH h with ⟨q4,h⟩ | ⟨q4,h⟩
  ·refine PN Z q4 (PN Z q4 (PN Z q4 (PN Z q4 (PN Z q4 (tN Z (Pt.pickT Z q4 (Bo true) Z) (tN Z mv (PN Z Z (PN Z Z (PN Z Z (PN Z Z (PN Z Z (PN Z Z (PN Z Z (tN Z (Pt.pickT Z Z (Bo true) Z) (tN Z mv ?_)))))))))))))));refine PN Z Z (PN Z Z (PN Z Z (PN Z Z (tgU Z (tgU Z (tgU Z (PN Z Z (tN Z (Pt.pickT Z Z (Bo true) Z) (TG.nil ?_)))))))))
   cases h
   exact ⟨(),trivial,kw Z Z⟩
  refine PM Z q4 Z (fa tv Z) (PM Z q4 Z (lf (eL TXimpl_RelExpr.c e_.Kids) FM Z) (PM Z q4 Z (Pt.lenL De Z) (PM Z q4 Z mv (PM Z q4 Z (Pt.ine Z Z) (tN Z (Pt.pickF Z q4 (Bo ((e_.Kids.length:Int) != v1.2.2)) Z) (tN Z mv ?_))))));rcases yH h with ⟨q5,h⟩ | ⟨q5,h⟩
  ·refine PN Z q5 (PN Z q5 (PN Z q5 (PN Z q5 (PN Z q5 (PN Z q5 (PN Z q5 (tN Z (Pt.pickT Z q5 (Bo true) Z) (tN Z mv (PN Z Z (PN Z Z (PN Z Z (PN Z Z (tgU Z (tgU Z (tgU Z ?_)))))))))))))));refine PN Z Z (tN Z (Pt.pickT Z Z (Bo true) Z) (TG.nil ?_))
   cases h
   exact ⟨(),trivial,kw Z Z⟩
  refine PM Z q5 Z (fa tv Z) (PM Z q5 Z (lf (I e_.Op) PL Z) (PM Z q5 Z (Pt.ieq Z Z) (PM Z q5 Z (fa tv Z) (PM Z q5 Z (lf (St e_.Name) ty9 Z) (jB h λv6 cv6 h=>PM Z q5 Z (Pt.call Z Z Z (wS e_.Name cv6) Z) (PM Z q5 Z (Pt.bne bt4 Z Z) (tN Z (Pt.pickF Z q5 (Bo (!((e_.Op==V)==v6))) Z) (tN Z mv ?_))))))));rcases yH h with ⟨q7,h⟩ | ⟨q7,h⟩
  ·refine PN Z q7 (PN Z q7 (PN Z q7 (PN Z q7 (tgU Z (tgU Z (tgU Z (PN Z q7 (tN Z (Pt.pickT Z q7 (Bo true) Z) (TG.nil ?_)))))))))
   cases h
   exact ⟨(),trivial,kw Z Z⟩
  refine PM Z q7 Z (fa tv Z) (PM Z q7 Z (lf (I e_.Op) PL Z) (PM Z q7 Z (Pt.ine Z Z) (PM Z q7 Z mv ?_)));rcases yH h with ⟨q8,h⟩ | ⟨q8,h⟩
  ·refine PM Z q8 Z (fa tv Z) (PM Z q8 Z (lf (St e_.Name) ty9 Z) (PM Z q8 Z (Pt.sne Z Z) (PM Z q7 Z (Pt.pickT Z q8 (Bo (!decide (e_.Name=(⟨#[]⟩:ByteArray)))) Z) (tN Z (Pt.pickF Z q7 (Bo (!decide (e_.Name=(⟨#[]⟩:ByteArray)))) Z) (TG.nil ?_)))))
   cases h
   exact ⟨(),trivial,kw Z Z⟩
  refine PN Z q8 (PN Z q8 (PN Z q8 (PM Z q7 Z (Pt.pickF Z q8 (Bo false) Z) (tN Z (Pt.pickF Z q7 (Bo false) Z) (TG.nil ?_)))))
  cases h
  exact ⟨(),trivial,kw Z Z⟩
theorem zy (e_:aa) (most:Int) {q} (h:uU e_ most=some q):au Tryz.prog 116 [.agg (aa.c e_),I most] (I q):=by
 obtain ⟨nf,h⟩:=mb h;exact yl nf e_ most h
theorem ul (e_:aa) {q} (h:ic e_=some q):au Tryz.prog 67 [.agg (aa.c e_)] (Bo q):=by
 refine pM Tryz.func67 Z (by kernel_rfl) Z (jI (oN (Pt.bxF [I e_.Op,St e_.Name,eL TXimpl_RelExpr.c e_.Kids] Z Z Z) (oN as' (jA (jI (oN (lf (.agg (aa.c e_)) xS Z) (oC h (λ_=>zy _ _) Z Z Z Z λv1 _ h=>oN (Pt.ile Z Z) (oN as' (jA (jK ?_))))))))))
 cases h
 exact aF Z Z Z
theorem um (r_:ah) {q} (h:lJ r_=some q):au Tryz.prog 66 [.agg (ah.c r_)] (Bo q):=by
 refine pM Tryz.func66 Z (by kernel_rfl) Z (jI (oN (Pt.bxF (ah.c r_) Z Z Z) (oN as' (jA (jI (oN (fa Gy Z) (oN (lf (I r_.Kind) PL Z) (oC h (λ_=>qw _ _ _) Z Z Z Z λv1 _ h=>oN (Pt.not Z) (oN mv ?_)))))))));refine TO.jB h 5 (λs2=>[(12,Bo s2)]) (λs2=>[]) (λs2 q3 h js2=>?_) (λs2 q3 h js2=>?_) (λs2 h=>?_)
 ·refine gS Z q3 (gS Z q3 (gS Z q3 (gS Z q3 (oN (Pt.pickT Z q3 (Bo true) Z) ?_))))
  cases h
  exact js2 _ _ (kw Z Z)
 ·refine gN Z q3 (Pt.fafpS 3 Tryz.underlying65 Z (by kernel_rfl) Z Z (row2:=aa.c r_.Expr)) (gN Z q3 (lf (.agg (aa.c r_.Expr)) xS Z) (jB h λv4 cv4 h=>gN Z q3 (Pt.call Z Z Z (ul r_.Expr cv4) Z) (gN Z q3 (Pt.not Z) (oN (Pt.pickF Z q3 (Bo (!v4)) Z) ?_))))
  cases h
  exact js2 _ _ (kw Z Z)
 refine oN as' (jA (jK ?_))
 cases h
 exact aF Z Z Z
theorem cA (s:List ah) {q} (h:aL s=some q):au Tryz.prog 115 [eL ah.c s,.fn (.func 66) []] (I q):=by
 refine pM Tryz.func115 Z (by kernel_rfl) Z (jI (oN as' (jA ?_)));obtain ⟨Ks1,es1,ws1,h,ks1⟩:=qB h;refine T.join (S:=Unit) (G:=Unit) (λs1=>Ks1 s1=some q) (λs1 gh=>True) (λs1 gh=>[]) (λs1 gh=>[]) (λs1 gh h hg=>?_) ?_
 ·clear ks1;subst es1;refine jI (oN as' (jA (jK ?_)))
  cases h
  exact aF Z Z Z
 refine jI (oN mv (oN (Pt.lenL zU Z) (oN mv (jA (jE ?_)))));refine T.lU h (λs4=>[(8,I s4),(7,I (s.length:Int)),(0,eL ah.c s),(1,.fn (.func 66) [])]) (λs4=>[]) (kw Z Z) (λs4 ws4 h=>?_);refine jI (oN (Pt.ilt Z Z) (jA (jH ?_)));refine jN Z h (λq6 h=>?_) (λq6 h=>?_)
 ·refine jG (jH (jE (jI (oN mv (oN as' (jA (jI (oN mv (oN mv (oN mv (jD h λg7 h=>oN (Pt.ixL zU Z Z g7 qD) (oN (lf (.agg (ah.c (J s s4))) Jc Z) (oC h (λ_=>um _) Z Z Z Z λv8 _ h=>jA ?_)))))))))))));refine jN Z h (λq9 h=>?_) (λq9 h=>?_)
  ·refine jI (oN mv (oN as' (jA (jK (lX h λh=>?_)))));obtain rfl:=Pw h;replace h:=congrArg some (show _=_ from ks1)
   cases h
   exact aF Z Z Z
  refine jG (jC (jW h λg10 h=>oN (Pt.add Z Z g10) (oN mv (jA ?_))));exact lE h (kw Z Z)
 refine jM (lX h λh=>?_)
 cases h
 exact ⟨(),(),ks1,trivial,kw Z Z⟩
theorem bV (s:List ah) {q} (h:aK s=some q):au Tryz.prog 65 [eL ah.c s,.fn (.func 66) []] (Bo q):=by
 refine pM Tryz.func65 Z (by kernel_rfl) Z (jI (oN as' (jA (jI (oN mv (oN mv (oC h (λ_=>cA _) Z Z Z Z λv1 _ h=>oN (Pt.ige Z Z) (oN as' (jA (jK ?_))))))))))
 cases h
 exact aF Z Z Z
theorem vG (m:List ah) {q} (h:gB m=some q):au Tryz.prog 31 [eL ah.c m] (Bo q):=by
 refine pM Tryz.func31 Z (by kernel_rfl) Z (jI (oN as' (jA (jI (oN mv (oN (Pt.lenL zU Z) (oC h (λ_=>qw _ _ _) Z Z Z Z λv1 _ h=>oN mv ?_)))))));refine TO.jB h 4 (λs2=>[(10,Bo s2)]) (λs2=>[]) (λs2 q3 h js2=>?_) (λs2 q3 h js2=>?_) (λs2 h=>?_)
 ·refine gN Z q3 mv (jB h λv4 cv4 h=>gN Z q3 (Pt.call Z Z Z (bV m cv4) Z) (gN Z q3 (Pt.not Z) (oN (Pt.pickT Z q3 (Bo (!v4)) Z) ?_)))
  cases h
  exact js2 _ _ (kw Z Z)
 ·refine gS Z q3 (gS Z q3 (gS Z q3 (oN (Pt.pickF Z q3 (Bo false) Z) ?_)))
  cases h
  exact js2 _ _ (kw Z Z)
 refine oN as' (jA (jK ?_))
 cases h
 exact aF Z Z Z
theorem rX (v:aB) (t:Int) (index:Int) (reg:Int) (iL:Nat) (kE:Nat) (jq:Nat) (gw1:Bool) (hgw1:gw1=true->v.values=[]) {q} (h:dY v t index reg=some q):cg Tryz.prog 166 [.hp 0 iL 6 0 0,I t,I index,I reg] [some ⟨iL,6,136,[[eL (cL Px.c) v.p,eL cI v.x.From,eL (cL cI) v.x.Order,eL Pz.c v.events,hS gw1 1 kE 1 v.values.length,hS false 2 jq 1 v.busy.length]]⟩,bE gw1 kE 1 3 (v.values.map cI),bE false jq 1 4 (v.busy.map cB)] (Mj (I q.2) λver=>[some ⟨iL,6,136,[[eL (cL Px.c) q.1.p,eL cI q.1.x.From,eL (cL cI) q.1.x.Order,eL Pz.c q.1.events,hS gw1 1 kE 1 v.values.length,hS false 2 jq 1 q.1.busy.length]]⟩,bE gw1 kE 1 3 (v.values.map cI),bE false jq 1 4 (q.1.busy.map cB)]):=by
 refine cg.mkS Tryz.func166 Z (by kernel_rfl) Z (by kernel_rfl) (e0:=ai [(0,.hp 0 iL 6 0 0),(1,I t),(2,I index),(3,I reg)]) (Ps Z (Ps Z (Ps Z (Ps Z Pq)))) (jI (oN as' (jA (jI (oN as' (jA ?_))))));refine T.jU h (λs1=>[(9,I s1)]) (λs1=>[some ⟨iL,6,136,[[eL (cL Px.c) v.p,eL cI v.x.From,eL (cL cI) v.x.Order,eL Pz.c v.events,hS gw1 1 kE 1 v.values.length,hS false 2 jq 1 v.busy.length]]⟩,bE gw1 kE 1 3 (v.values.map cI),bE false jq 1 4 (v.busy.map cB)]) (λs1 h=>?_) (λs1 h=>?_)
 ·refine jI (oN mv (oN as' (jA (jK ?_))));obtain rfl:=Pw h
  repeat (first|refine iA ?_|refine iB ?_)
  exact ⟨ai [(8,I s1)],[some ⟨iL,6,136,[[eL (cL Px.c) v.p,eL cI v.x.From,eL (cL cI) v.x.Order,eL Pz.c v.events,hS gw1 1 kE 1 v.values.length,hS false 2 jq 1 v.busy.length]]⟩,bE gw1 kE 1 3 (v.values.map cI),bE false jq 1 4 (v.busy.map cB)],kw Z Z,jQ (vs:=[I s1]) (.cons (.tmp Z) .nil) ⟨0,Z,Z⟩⟩
 refine jI (oN mv (oN (nl Z) (oN (fa vC Z) (oA (lh (eL Pz.c v.events) Mb Z Z Z) (oN (Pt.lenL pG Z) (oN mv (jA (jE ?_))))))));refine T.lU h (λs4=>[(17,I s4.1),(16,I (v.events.length:Int)),(15,eL Pz.c v.events),(9,I s4.2),(0,.hp 0 iL 6 0 0),(1,I t),(2,I index),(3,I reg)]) (λs4=>[some ⟨iL,6,136,[[eL (cL Px.c) v.p,eL cI v.x.From,eL (cL cI) v.x.Order,eL Pz.c v.events,hS gw1 1 kE 1 v.values.length,hS false 2 jq 1 v.busy.length]]⟩,bE gw1 kE 1 3 (v.values.map cI),bE false jq 1 4 (v.busy.map cB)]) (kw Z Z) (λs4 ws4 h=>?_);let d0:=v.events.getD s4.1.toNat default;refine jI (oN (Pt.ilt Z Z) (jA (jH ?_)));refine jN Z h (λq6 h=>?_) (λq6 h=>?_)
 ·refine jG ?_;refine T.jU h (λs7=>[(9,I s7),(17,I s4.1),(16,I (v.events.length:Int)),(15,eL Pz.c v.events),(0,.hp 0 iL 6 0 0),(1,I t),(2,I index),(3,I reg)]) (λs7=>[some ⟨iL,6,136,[[eL (cL Px.c) v.p,eL cI v.x.From,eL (cL cI) v.x.Order,eL Pz.c v.events,hS gw1 1 kE 1 v.values.length,hS false 2 jq 1 v.busy.length]]⟩,bE gw1 kE 1 3 (v.values.map cI),bE false jq 1 4 (v.busy.map cB)]) (λs7 h=>?_) (λs7 h=>?_)
  ·refine jC (jW h λg16 h=>oN (Pt.add Z Z g16) (oN mv (jA ?_)));exact lE h (kw Z Z)
  refine jE (jI (oN mv (jD h λg8 h=>oN (Pt.ixL pG Z Z g8 qD) (oN (lf (.agg (Pz.c d0)) vB Z) (oA (EvA.al Ee Z Z) (oN as' (oV (sr (Pz.c d0) vB Z Z Z Z) (jA ?_))))))));refine T.jU h (λs9=>[(51,Bo s9),(10,I s4.1),(17,I s4.1),(16,I (v.events.length:Int)),(15,eL Pz.c v.events),(9,I s4.2),(0,.hp 0 iL 6 0 0),(1,I t),(2,I index),(3,I reg)]) (λs9=>[some ⟨iL,6,136,[[eL (cL Px.c) v.p,eL cI v.x.From,eL (cL cI) v.x.Order,eL Pz.c v.events,hS gw1 1 kE 1 v.values.length,hS false 2 jq 1 v.busy.length]]⟩,bE gw1 kE 1 3 (v.values.map cI),bE false jq 1 4 (v.busy.map cB),some ⟨0,5,80,[(Pz.c d0)]⟩]) (λs9 h=>?_) (λs9 h=>?_)
  ·refine jN Z h (λq15 h=>?_) (λq15 h=>?_)
   ·refine jC (oN mv (oN as' (jA ?_)))
    cases h
    exact ⟨(),trivial,ow Z (.cons (.row (.cons (.fz (qC Z)) (.cons (.fz (qC Z)) (.cons (.fz (qC Z)) (.cons (.fz (qC Z)) (.cons (.hS (g:=gw1) (b:=1) (ver:=kE) (s:=1) (n:=v.values.length) Z) (.cons (.hS (g:=false) (b:=2) (ver:=jq) (s:=1) (n:=v.busy.length) Z) .nil))))))) (.cons (.list (g:=gw1) (ver:=kE) (l:=v.values) qD) (.cons (.list (g:=false) (ver:=jq) (l:=v.busy) qD) .nil))) (ae (.fz (qC Z)) (ae (.fz (qC Z)) (ae (.fz (qC Z)) (ae (.fz (qC Z)) (ae (.hp (nlb Z)) (ae (.fz (qC Z)) (ae (.fz (qC Z)) (ae (.fz (qC Z)) aN))))))))⟩
   refine jG ?_
   cases h
   exact ⟨(),trivial,ow Z (.cons (.row (.cons (.fz (qC Z)) (.cons (.fz (qC Z)) (.cons (.fz (qC Z)) (.cons (.fz (qC Z)) (.cons (.hS (g:=gw1) (b:=1) (ver:=kE) (s:=1) (n:=v.values.length) Z) (.cons (.hS (g:=false) (b:=2) (ver:=jq) (s:=1) (n:=v.busy.length) Z) .nil))))))) (.cons (.list (g:=gw1) (ver:=kE) (l:=v.values) qD) (.cons (.list (g:=false) (ver:=jq) (l:=v.busy) qD) .nil))) (ae (.fz (qC Z)) (ae (.fz (qC Z)) (ae (.fz (qC Z)) (ae (.fz (qC Z)) (ae (.hp (nlb Z)) (ae (.fz (qC Z)) (ae (.fz (qC Z)) (ae (.fz (qC Z)) aN))))))))⟩
  refine T.drawG (dG [dF,([3],false),dF,dF,dF,dF,([3],false),dF,dF,dF,dF,dF,([3],false),dF,dF,dF,dF,dF,([0],false),dF,dF,dF,dF,([3],false),dF,dF,dF,dF,dF,dF]) (by kernel_rfl) (by kernel_rfl) (tN Z (fa dA Z) (tR [3] Z (λG hG=>EvA.loadhp (I (d0.Thread)) PL Z (hG.a0 Z) Z Z Z Z) (tN Z mv (tN Z (Pt.ieq Z Z) (tN Z mv ?_)))));rcases yH h with ⟨q10,h⟩ | ⟨q10,h⟩
  ·refine PM Z q10 Z (fa dA Z) (tgR Z q10 [3] Z (λG hG=>EvA.loadhp (I (d0.Index)) PL Z (hG.a0 Z) Z Z Z Z) (PM Z q10 Z mv (PM Z q10 Z (Pt.ilt Z Z) (tN Z (Pt.pickT Z q10 (Bo (decide ((d0.Index)<index))) Z) (tN Z mv ?_)))));rcases yH h with ⟨q11,h⟩ | ⟨q11,h⟩
   ·refine PM Z q11 Z (fa dA Z) (tgR Z q11 [3] Z (λG hG=>EvA.loadhp (Bo (d0.Reads)) ty4 Z (hG.a0 Z) Z Z Z Z) (tN Z (Pt.pickT Z q11 (Bo (d0.Reads)) Z) (tN Z mv ?_)));rcases yH h with ⟨q12,h⟩ | ⟨q12,h⟩
    ·refine PM Z q12 Z mv (PM Z q12 Z (nl Z) (PM Z q12 Z (fa vC Z) (tgR Z q12 [0] Z (λG hG=>EvA.loadhp (eL (cL Px.c) v.p) KI Z (hG.a0 Z) Z Z Z Z) (PM Z q12 Z mv (jD h λg13 h=>PM Z q12 Z (Pt.ixL yM Z Z g13 qD) (PM Z q12 Z (lf (eL Px.c (J v.p t)) Ed Z) (PM Z q12 Z (fa dA Z) (tgR Z q12 [3] Z (λG hG=>EvA.loadhp (I (d0.Index)) PL Z (hG.a0 Z) Z Z Z Z) (jD h λg14 h=>PM Z q12 Z (Pt.ixL AP Z Z g14 qD) (PM Z q12 Z (fa p6 Z) (PM Z q12 Z (lf (I ((J (J v.p t) (d0.Index)).Reg)) PL Z) (PM Z q12 Z mv (PM Z q12 Z (Pt.ieq Z Z) ?_)))))))))))));refine tN Z (Pt.pickT Z q12 (Bo (((J (J v.p t) (d0.Index)).Reg)==reg)) Z) (TG.nil ?_)
     cases h
     exact ⟨(),trivial,kw Z Z⟩
    refine PN Z q12 (PN Z q12 (PN Z q12 (PN Z q12 (PN Z q12 (PN Z q12 (PN Z q12 (PN Z q12 (PN Z q12 (PN Z q12 (PN Z q12 (PN Z q12 (PN Z q12 (PN Z q12 (tN Z (Pt.pickF Z q12 (Bo false) Z) (TG.nil ?_)))))))))))))))
    cases h
    exact ⟨(),trivial,kw Z Z⟩
   refine PN Z q11 (PN Z q11 (tN Z (Pt.pickF Z q11 (Bo false) Z) (tN Z mv (PN Z Z (PN Z Z (PN Z Z (PN Z Z (PN Z Z (PN Z Z (PN Z Z (PN Z Z (PN Z Z (PN Z Z (PN Z Z (PN Z Z ?_)))))))))))))));refine PN Z Z (PN Z Z (tN Z (Pt.pickF Z Z (Bo false) Z) (TG.nil ?_)))
   cases h
   exact ⟨(),trivial,kw Z Z⟩
  refine PN Z q10 (PN Z q10 (PN Z q10 (PN Z q10 (tN Z (Pt.pickF Z q10 (Bo false) Z) (tN Z mv (PN Z Z (PN Z Z (tN Z (Pt.pickF Z Z (Bo false) Z) (tN Z mv (PN Z Z (PN Z Z (PN Z Z (PN Z Z (PN Z Z (PN Z Z ?_)))))))))))))));refine PN Z Z (PN Z Z (PN Z Z (PN Z Z (PN Z Z (PN Z Z (PN Z Z (PN Z Z (tN Z (Pt.pickF Z Z (Bo false) Z) (TG.nil ?_)))))))))
  cases h
  exact ⟨(),trivial,kw Z Z⟩
 refine jM (lX h λh=>?_)
 cases h
 exact ⟨(),trivial,kw Z Z⟩
theorem tE:∀ (nf:Nat) (v:aB) (i:Int) (iL:Nat) (kE:Nat) (jq:Nat) (gw1:Bool) (hgw1:gw1=true->v.values=[]) {q} (h:bG nf v i=some q),cg Tryz.prog 117 [.hp 0 iL 6 0 0,I i] [some ⟨iL,6,136,[[eL (cL Px.c) v.p,eL cI v.x.From,eL (cL cI) v.x.Order,eL Pz.c v.events,hS gw1 1 kE 1 v.values.length,hS false 2 jq 1 v.busy.length]]⟩,bE gw1 kE 1 3 (v.values.map cI),bE false jq 1 4 (v.busy.map cB)] (Mj (.tup [I q.2.1,Bo q.2.2]) λver=>[some ⟨iL,6,136,[[eL (cL Px.c) q.1.p,eL cI q.1.x.From,eL (cL cI) q.1.x.Order,eL Pz.c q.1.events,hS gw1 1 kE 1 v.values.length,hS false 2 jq 1 q.1.busy.length]]⟩,bE gw1 kE 1 3 (v.values.map cI),bE false jq 1 4 (q.1.busy.map cB)]):=by
 intro nf
 induction nf with
 | zero=>intros;rename_i h;cases h
 | succ nf ih=>
  intro v i iL kE jq gw1 hgw1 q h;let d0:=v.events.getD i.toNat default;replace h:fo (bG nf) v i=some q:=h;refine cg.mkS Tryz.func117 Z (by kernel_rfl) Z (by kernel_rfl) (e0:=ai [(0,.hp 0 iL 6 0 0),(1,I i)]) (Ps Z (Ps Z Pq)) (jI (oN as' (oN as' (jA (jI (oN mv (oN (nl Z) (oN (fa vC Z) (oA (lh (eL Pz.c v.events) Mb Z Z Z) (oN mv (jD h λg1 h=>oN (Pt.ixL pG Z Z g1 qD) (oN (lf (.agg (Pz.c d0)) vB Z) (oA (EvA.al Ee Z Z) (oV (sr (Pz.c d0) vB Z Z Z Z) ?_))))))))))))));refine jA (jH (jI (oN (fa dA Z) (oA (lh (I (d0.Thread)) PL Z Z Z) (oN (Pt.ilt Z Z) (jA ?_))))));refine jN Z h (λq2 h=>?_) (λq2 h=>?_)
  ·refine jI (oN as' (oN as' (jA (jK ?_))));obtain rfl:=Pw h
   repeat (first|refine iA ?_|refine iB ?_)
   exact ⟨ai [(4,I U),(5,Bo true)],[some ⟨iL,6,136,[[eL (cL Px.c) v.p,eL cI v.x.From,eL (cL cI) v.x.Order,eL Pz.c v.events,hS gw1 1 kE 1 v.values.length,hS false 2 jq 1 v.busy.length]]⟩,bE gw1 kE 1 3 (v.values.map cI),bE false jq 1 4 (v.busy.map cB)],ow Z (.cons (.row (.cons (.fz (qC Z)) (.cons (.fz (qC Z)) (.cons (.fz (qC Z)) (.cons (.fz (qC Z)) (.cons (.hS (g:=gw1) (b:=1) (ver:=kE) (s:=1) (n:=v.values.length) Z) (.cons (.hS (g:=false) (b:=2) (ver:=jq) (s:=1) (n:=v.busy.length) Z) .nil))))))) (.cons (.list (g:=gw1) (ver:=kE) (l:=v.values) qD) (.cons (.list (g:=false) (ver:=jq) (l:=v.busy) qD) .nil))) (ae (.fz (qC Z)) (ae (.fz (qC Z)) aN)),jQ (vs:=[I U,Bo true]) (.cons (.tmp Z) (.cons (.tmp Z) .nil)) ⟨0,Z,Z⟩⟩
  refine jG (jH (T.reserve (jP (dG [dF,dF,dF,([0],false),dF,([3],false),dF,dF,dF,([3],false),dF,dF,([4],true),([4],true)]) (by kernel_rfl) (by kernel_rfl) (fN Z mv (fN Z (nl Z) (fN Z (fa vC Z) (fR [0] Z (λG hG=>EvA.loadhp (eL (cL Px.c) v.p) KI Z (hG.a0 Z) Z Z Z Z) (fN Z (fa dA Z) (fR [3] Z (λG hG=>EvA.loadhp (I (d0.Thread)) PL Z (hG.a0 Z) Z Z Z Z) (jD h λg3 h=>fN Z (Pt.ixL yM Z Z g3 qD) (fN Z (lf (eL Px.c (J v.p (d0.Thread))) Ed Z) (fN Z (fa dA Z) (fR [3] Z (λG hG=>EvA.loadhp (I (d0.Index)) PL Z (hG.a0 Z) Z Z Z Z) (jD h λg4 h=>?_))))))))))))));refine fN Z (Pt.ixL AP Z Z g4 qD) (fN Z (lf (.agg (Px.c (J (J v.p (d0.Thread)) (d0.Index)))) Bm Z) (fW 4 [] Z Z (λG hG=>EvA.alR 4 Mc Z Z (hG.a0 Z)) (fV 4 [] Z Z (λG hG=>EvA.st (cs:=(Px.c (J (J v.p (d0.Thread)) (d0.Index)))) ⟨0,4,90,[(Px.c (J (J v.p (d0.Thread)) (d0.Index)))]⟩ Bm Z Z (hG.a0 Z) Z Z Z Z Z Z) (jR (jH (jH (T.clean (H0:=[some ⟨iL,6,136,[[eL (cL Px.c) v.p,eL cI v.x.From,eL (cL cI) v.x.Order,eL Pz.c v.events,hS gw1 1 kE 1 v.values.length,hS false 2 jq 1 v.busy.length]]⟩,bE gw1 kE 1 3 (v.values.map cI),bE false jq 1 4 (v.busy.map cB),some ⟨0,5,80,[(Pz.c d0)]⟩,some ⟨0,4,90,[(Px.c (J (J v.p (d0.Thread)) (d0.Index)))]⟩]) (e0:=ai [(7,.hp 4 0 4 0 0),(6,.hp 3 0 5 0 0),(0,.hp 0 iL 6 0 0),(1,I i)]) Z (Ps Z (Ps Z (Ps Z (Ps Z Pq)))) (jC (oN (fa p6 Z) (oA (lh (I ((J (J v.p (d0.Thread)) (d0.Index)).Op)) PL Z Z Z) (oN (Pt.ine Z Z) (jA ?_))))))))))));refine jN Z h (λq5 h=>?_) (λq5 h=>?_)
  ·refine jI (oN (fa p6 Z) (oA (lh (I ((J (J v.p (d0.Thread)) (d0.Index)).Val)) PL Z Z Z) (oN as' (oN as' (jA (jK ?_))))));obtain rfl:=Pw h
   repeat (first|refine iA ?_|refine iB ?_)
   exact ⟨ai [(4,I ((J (J v.p (d0.Thread)) (d0.Index)).Val)),(5,Bo true)],[some ⟨iL,6,136,[[eL (cL Px.c) v.p,eL cI v.x.From,eL (cL cI) v.x.Order,eL Pz.c v.events,hS gw1 1 kE 1 v.values.length,hS false 2 jq 1 v.busy.length]]⟩,bE gw1 kE 1 3 (v.values.map cI),bE false jq 1 4 (v.busy.map cB)],ow Z (.cons (.row (.cons (.fz (qC Z)) (.cons (.fz (qC Z)) (.cons (.fz (qC Z)) (.cons (.fz (qC Z)) (.cons (.hS (g:=gw1) (b:=1) (ver:=kE) (s:=1) (n:=v.values.length) Z) (.cons (.hS (g:=false) (b:=2) (ver:=jq) (s:=1) (n:=v.busy.length) Z) .nil))))))) (.cons (.list (g:=gw1) (ver:=kE) (l:=v.values) qD) (.cons (.list (g:=false) (ver:=jq) (l:=v.busy) qD) .nil))) (ae (.fz (qC Z)) (ae (.fz (qC Z)) aN)),jQ (vs:=[I ((J (J v.p (d0.Thread)) (d0.Index)).Val),Bo true]) (.cons (.tmp Z) (.cons (.tmp Z) .nil)) ⟨0,Z,Z⟩⟩
  refine jG (jH (jI (oN mv (oN (nl Z) (oN (fa vC Z) (oA (lh (hS false 2 jq 1 v.busy.length) J6 Z Z Z) (oN mv (jD h λg6 h=>oN (Pt.ixO (g:=false) J8 Z Z nofun g6) (oA (EvA.ldO (g:=false) (l:=v.busy) (Bo (J v.busy i)) ty4 Z Z nofun (aH Z g6) Z) (jA ?_))))))))));refine jN Z h (λq7 h=>?_) (λq7 h=>?_)
  ·refine jI (oN as' (oN as' (jA (jK ?_))));obtain rfl:=Pw h
   repeat (first|refine iA ?_|refine iB ?_)
   exact ⟨ai [(4,I U),(5,Bo false)],[some ⟨iL,6,136,[[eL (cL Px.c) v.p,eL cI v.x.From,eL (cL cI) v.x.Order,eL Pz.c v.events,hS gw1 1 kE 1 v.values.length,hS false 2 jq 1 v.busy.length]]⟩,bE gw1 kE 1 3 (v.values.map cI),bE false jq 1 4 (v.busy.map cB)],ow Z (.cons (.row (.cons (.fz (qC Z)) (.cons (.fz (qC Z)) (.cons (.fz (qC Z)) (.cons (.fz (qC Z)) (.cons (.hS (g:=gw1) (b:=1) (ver:=kE) (s:=1) (n:=v.values.length) Z) (.cons (.hS (g:=false) (b:=2) (ver:=jq) (s:=1) (n:=v.busy.length) Z) .nil))))))) (.cons (.list (g:=gw1) (ver:=kE) (l:=v.values) qD) (.cons (.list (g:=false) (ver:=jq) (l:=v.busy) qD) .nil))) (ae (.fz (qC Z)) (ae (.fz (qC Z)) aN)),jQ (vs:=[I U,Bo false]) (.cons (.tmp Z) (.cons (.tmp Z) .nil)) ⟨0,Z,Z⟩⟩
  refine jG (jI (oN mv (oN (fa dA Z) (oA (lh (I (d0.Thread)) PL Z Z Z) (oN (fa dA Z) (oA (lh (I (d0.Index)) PL Z Z Z) (oN (fa p6 Z) (oA (lh (I ((J (J v.p (d0.Thread)) (d0.Index)).Reg)) PL Z Z Z) (jB h λv8 cv8 h=>?_)))))))));refine oW Z Z Z (cg.outAt (rX (⟨v.p,(⟨v.x.From,v.x.Order⟩:Py),v.events,v.values,v.busy⟩:aB) (d0.Thread) (d0.Index) ((J (J v.p (d0.Thread)) (d0.Index)).Reg) iL kE jq gw1 hgw1 cv8) [0,1,2] (by decide) (.cons Z (.rowL (.cons (bw 9 _ Z) (.cons (bw 9 _ Z) (.cons (bw 9 _ Z) (.cons (bw 9 _ Z) (.cons (lq Z) (.cons (lq Z) .nil))))))) (.bE Z qD (.cons Z (RenK.bE' qD) .nil))) (.cons (.hp Z) (.cons (bw 9 _ Z) (.cons (bw 9 _ Z) (.cons (bw 9 _ Z) .nil)))) (G:=λv_=>[some ⟨iL,6,136,[[eL (cL Px.c) v8.1.p,eL cI v8.1.x.From,eL (cL cI) v8.1.x.Order,eL Pz.c v8.1.events,hS gw1 1 kE 1 v.values.length,hS false 2 jq 1 v8.1.busy.length]]⟩,bE gw1 kE 1 3 (v.values.map cI),bE false jq 1 4 (v8.1.busy.map cB)]) (G':=λv_=>[some ⟨iL,6,136,[[eL (cL Px.c) v8.1.p,eL cI v8.1.x.From,eL (cL cI) v8.1.x.Order,eL Pz.c v8.1.events,hS gw1 1 kE 1 v.values.length,hS false 2 jq 1 v8.1.busy.length]]⟩,bE gw1 kE 1 3 (v.values.map cI),bE false jq 1 4 (v8.1.busy.map cB),some ⟨0,5,80,[(Pz.c d0)]⟩,some ⟨0,4,90,[(Px.c (J (J v.p (d0.Thread)) (d0.Index)))]⟩]) 5 Z (λv_ => .some (.rowL (.cons (bw 9 _ Z) (.cons (bw 9 _ Z) (.cons (bw 9 _ Z) (.cons (bw 9 _ Z) (.cons (lq (.inl Z)) (.cons (lq (.inl Z)) .nil))))))) (.bE qD (.some (RenK.bE' qD) .nil))) qD (r:=I v8.2) (bw 9 _ Z) qD) (λu9=>?_);refine oN as' (jA (jH (jH (T.clean (H0:=[some ⟨iL,6,136,[[eL (cL Px.c) v8.1.p,eL cI v8.1.x.From,eL (cL cI) v8.1.x.Order,eL Pz.c v8.1.events,hS gw1 1 kE 1 v.values.length,hS false 2 jq 1 v8.1.busy.length]]⟩,bE gw1 kE 1 3 (v.values.map cI),bE false jq 1 4 (v8.1.busy.map cB),some ⟨0,5,80,[(Pz.c d0)]⟩,some ⟨0,4,90,[(Px.c (J (J v.p (d0.Thread)) (d0.Index)))]⟩]) (e0:=ai [(8,I v8.2),(0,.hp 0 iL 6 0 0),(1,I i)]) Z (Ps Z (Ps Z (Ps Z Pq))) (jC (oN mv (oN (Pt.ilt Z Z) (jA ?_))))))));refine jN Z h (λq10 h=>?_) (λq10 h=>?_)
  ·refine jI (oN as' (oN as' (jA (jK ?_))));obtain rfl:=Pw h
   repeat (first|refine iA ?_|refine iB ?_)
   exact ⟨ai [(4,I U),(5,Bo true)],[some ⟨iL,6,136,[[eL (cL Px.c) v8.1.p,eL cI v8.1.x.From,eL (cL cI) v8.1.x.Order,eL Pz.c v8.1.events,hS gw1 1 kE 1 v.values.length,hS false 2 jq 1 v8.1.busy.length]]⟩,bE gw1 kE 1 3 (v.values.map cI),bE false jq 1 4 (v8.1.busy.map cB)],ow Z (.cons (.row (.cons (.fz (qC Z)) (.cons (.fz (qC Z)) (.cons (.fz (qC Z)) (.cons (.fz (qC Z)) (.cons (.hS (g:=gw1) (b:=1) (ver:=kE) (s:=1) (n:=v.values.length) Z) (.cons (.hS (g:=false) (b:=2) (ver:=jq) (s:=1) (n:=v8.1.busy.length) Z) .nil))))))) (.cons (.list (g:=gw1) (ver:=kE) (l:=v.values) qD) (.cons (.list (g:=false) (ver:=jq) (l:=v8.1.busy) qD) .nil))) (ae (.fz (qC Z)) (ae (.fz (qC Z)) aN)),jQ (vs:=[I U,Bo true]) (.cons (.tmp Z) (.cons (.tmp Z) .nil)) ⟨0,Z,Z⟩⟩
  refine jG (jI (oN mv (oN (nl Z) (oN (fa vC Z) (oA (lh (hS false 2 jq 1 v8.1.busy.length) J6 Z Z Z) (oN mv (jD h λg11 h=>oN (Pt.ixO (g:=false) J8 Z Z nofun g11) (oV (EvA.stO (g:=false) (l:=v8.1.busy) (cs:=[Bo true]) true ty4 Z Z Z nofun (aH Z g11) Z Z Z) (jA (jI (oN mv (oN mv (oN (nl Z) (oN (fa vC Z) ?_))))))))))))));refine oN (fa r9 Z) (oA (lh (eL cI v8.1.x.From) mZ Z Z Z) (oN mv (jD h λg12 h=>oN (Pt.ixL aD Z Z g12 qD) (oN (lf (I (J v8.1.x.From v8.2)) PL Z) (jB h λv13 cv13 h=>?_)))));refine oW Z Z Z (cg.outAt (ih (⟨v8.1.p,(⟨v8.1.x.From,v8.1.x.Order⟩:Py),v8.1.events,v.values,(v8.1.busy.set i.toNat true)⟩:aB) (J v8.1.x.From v8.2) iL kE jq gw1 hgw1 cv13) [0,1,2] (by decide) (.cons Z (.rowL (.cons (bw 9 _ Z) (.cons (bw 9 _ Z) (.cons (bw 9 _ Z) (.cons (bw 9 _ Z) (.cons (lq Z) (.cons (Jr Z ((by simp))) .nil))))))) (.bE Z qD (.cons Z (RenK.bE' qD) .nil))) (.cons (.hp Z) (.cons (bw 9 _ Z) .nil)) (G:=λv_=>[some ⟨iL,6,136,[[eL (cL Px.c) v13.1.p,eL cI v13.1.x.From,eL (cL cI) v13.1.x.Order,eL Pz.c v13.1.events,hS gw1 1 kE 1 v.values.length,hS false 2 jq 1 v13.1.busy.length]]⟩,bE gw1 kE 1 3 (v.values.map cI),bE false jq 1 4 (v13.1.busy.map cB)]) (G':=λv_=>[some ⟨iL,6,136,[[eL (cL Px.c) v13.1.p,eL cI v13.1.x.From,eL (cL cI) v13.1.x.Order,eL Pz.c v13.1.events,hS gw1 1 kE 1 v.values.length,hS false 2 jq 1 v13.1.busy.length]]⟩,bE gw1 kE 1 3 (v.values.map cI),bE false jq 1 4 (v13.1.busy.map cB),some ⟨0,5,80,[(Pz.c d0)]⟩,some ⟨0,4,90,[(Px.c (J (J v.p (d0.Thread)) (d0.Index)))]⟩]) 5 Z (λv_ => .some (.rowL (.cons (bw 9 _ Z) (.cons (bw 9 _ Z) (.cons (bw 9 _ Z) (.cons (bw 9 _ Z) (.cons (lq (.inl Z)) (.cons (lq (.inl Z)) .nil))))))) (.bE qD (.some (RenK.bE' qD) .nil))) qD (r:=.tup [I v13.2.1,Bo v13.2.2]) (bw 9 _ Z) qD) (λu14=>?_);refine oN mv (oN (Pt.ext (I v13.2.1) Z Z) (oN (Pt.ext (Bo v13.2.2) Z Z) (oN as' (oN as' (jA (jH (T.clean (H0:=[some ⟨iL,6,136,[[eL (cL Px.c) v13.1.p,eL cI v13.1.x.From,eL (cL cI) v13.1.x.Order,eL Pz.c v13.1.events,hS gw1 1 kE 1 v.values.length,hS false 2 jq 1 v13.1.busy.length]]⟩,bE gw1 kE 1 3 (v.values.map cI),bE false jq 1 4 (v13.1.busy.map cB),some ⟨0,5,80,[(Pz.c d0)]⟩,some ⟨0,4,90,[(Px.c (J (J v.p (d0.Thread)) (d0.Index)))]⟩]) (e0:=ai [(10,Bo v13.2.2),(9,I v13.2.1),(0,.hp 0 iL 6 0 0),(1,I i)]) Z (Ps Z (Ps Z (Ps Z (Ps Z Pq)))) (jC (oN mv (oN (nl Z) (oN (fa vC Z) (oA (lh (hS false 2 jq 1 v13.1.busy.length) J6 Z Z Z) (oN mv (jD h λg15 h=>oN (Pt.ixO (g:=false) J8 Z Z nofun g15) ?_))))))))))))));refine oV (EvA.stO (g:=false) (l:=v13.1.busy) (cs:=[Bo false]) false ty4 Z Z Z nofun (aH Z g15) Z Z Z) (jA (jI (oN mv (oN mv (oN as' (oN as' (jA (jK ?_))))))));obtain rfl:=Pw h
  repeat (first|refine iA ?_|refine iB ?_)
  exact ⟨ai [(4,I v13.2.1),(5,Bo v13.2.2)],[some ⟨iL,6,136,[[eL (cL Px.c) v13.1.p,eL cI v13.1.x.From,eL (cL cI) v13.1.x.Order,eL Pz.c v13.1.events,hS gw1 1 kE 1 v.values.length,hS false 2 jq 1 ((v13.1.busy.set i.toNat false).length)]]⟩,bE gw1 kE 1 3 (v.values.map cI),bE false jq 1 4 ((v13.1.busy.set i.toNat false).map cB)],ow Z (.cons (.row (.cons (.fz (qC Z)) (.cons (.fz (qC Z)) (.cons (.fz (qC Z)) (.cons (.fz (qC Z)) (.cons (.hS (g:=gw1) (b:=1) (ver:=kE) (s:=1) (n:=v.values.length) Z) (.cons (.eqv (congrArg (hS false 2 jq 1) (by simp:v13.1.busy.length=(v13.1.busy.set i.toNat false).length)) (.hS (g:=false) (b:=2) (ver:=jq) (s:=1) (n:=(v13.1.busy.set i.toNat false).length) Z)) .nil))))))) (.cons (.list (g:=gw1) (ver:=kE) (l:=v.values) qD) (.cons (.list (g:=false) (ver:=jq) (l:=(v13.1.busy.set i.toNat false)) qD) .nil))) (ae (.fz (qC Z)) (ae (.fz (qC Z)) aN)),jQ (vs:=[I v13.2.1,Bo v13.2.2]) (.cons (.tmp Z) (.cons (.tmp Z) .nil)) ⟨0,Z,Z⟩⟩
theorem uo (v:aB) (i:Int) (iL:Nat) (kE:Nat) (jq:Nat) (gw1:Bool) (hgw1:gw1=true->v.values=[]) {q} (h:lK v i=some q):cg Tryz.prog 117 [.hp 0 iL 6 0 0,I i] [some ⟨iL,6,136,[[eL (cL Px.c) v.p,eL cI v.x.From,eL (cL cI) v.x.Order,eL Pz.c v.events,hS gw1 1 kE 1 v.values.length,hS false 2 jq 1 v.busy.length]]⟩,bE gw1 kE 1 3 (v.values.map cI),bE false jq 1 4 (v.busy.map cB)] (Mj (.tup [I q.2.1,Bo q.2.2]) λver=>[some ⟨iL,6,136,[[eL (cL Px.c) q.1.p,eL cI q.1.x.From,eL (cL cI) q.1.x.Order,eL Pz.c q.1.events,hS gw1 1 kE 1 v.values.length,hS false 2 jq 1 q.1.busy.length]]⟩,bE gw1 kE 1 3 (v.values.map cI),bE false jq 1 4 (q.1.busy.map cB)]):=by
 obtain ⟨nf,h⟩:=mb h;exact tE nf v i iL kE jq gw1 hgw1 h
theorem rY (p:List (List Px)) (x:Py) {q} (h:cT p x=some q):au Tryz.prog 68 [eL (cL Px.c) p,.agg (Py.c x)] (.tup [eL cI q.1,Bo q.2]):=by
 refine pM Tryz.func68 Z (by kernel_rfl) Z (jI (oN (Pt.bxF [eL cI x.From,eL (cL cI) x.Order] Z Z Z) (oN as' (oN as' (jA (jH (T.reserve (T.reserve (jP (dG [dF,dF,dF,dF,dF,([1],true),dF]) (by kernel_rfl) (by kernel_rfl) (fN Z mv (fN Z (lf (.agg (Py.c x)) pE Z) (fN Z mv (fC h (λ_=>jp _) Z Z Z Z Z λv1 _ h=>fN Z (Pt.build [eL (cL Px.c) p,eL cI x.From,eL (cL cI) x.Order,eL Pz.c v1,hS true 0 0 1 (([]:LI).length),.nil] Tryz.underlying136 OI vC Z Z) (fW 1 [] Z Z (λG hG=>EvA.bxA (cs:=[eL (cL Px.c) p,eL cI x.From,eL (cL cI) x.Order,eL Pz.c v1,hS true 0 0 1 (([]:LI).length),.nil]) 1 Z Z (hG.a0 Z)) ?_))))))))))))));refine fN Z as' (jR (jI (oN mv (oN mv (oN (nl Z) (oN (fa vC Z) (oA (lh (eL Pz.c v1) Mb Z Z Z) (oN (Pt.lenL pG Z) (jD h λg2 h=>oA (EvA.mkN (c:=cB) (default:Bool) J8 Z Z g2 Z Z Z) (oN (nl Z) (oN (fa vC Z) (oV (sr [eL (cL Px.c) p,eL cI x.From,eL (cL cI) x.Order,eL Pz.c v1,hS true 0 0 1 (([]:LI).length),hS false 2 0 1 ((V8 (v1.length:Int).toNat (default:Bool)).length)] J6 Z Z Z Z) (jA ?_)))))))))))));obtain ⟨Ks3,es3,ws3,h,ks3⟩:=qB h;refine T.join (S:=(LI)×(List (List Px))×(LI)×(LL)×(List Pz)×(List Bool)) (G:=(Bool×Nat)×Nat) (λs3=>Ks3 s3=some q) (λs3 gh=>(gh.1.1=true->s3.1=[])) (λs3 gh=>[(6,.hp 1 0 6 0 0)]) (λs3 gh=>[bE gh.1.1 gh.1.2 1 3 (s3.1.map cI),some ⟨0,6,136,[[eL (cL Px.c) s3.2.1,eL cI s3.2.2.1,eL (cL cI) s3.2.2.2.1,eL Pz.c s3.2.2.2.2.1,hS gh.1.1 0 gh.1.2 1 s3.1.length,hS false 2 gh.2 1 s3.2.2.2.2.2.length]]⟩,bE false gh.2 1 4 (s3.2.2.2.2.2.map cB)]) (λs3 gh h n28=>?_) ?_
 ·clear ks3;subst es3;obtain ⟨⟨b27,u26⟩,u29⟩:=gh;refine jI (oN mv (oN (nl Z) (oN (fa vC Z) (oA (lh (hS b27 0 u26 1 s3.1.length) mZ Z Z Z) (oN (Pt.asg (hS b27 0 u26 1 s3.1.length) Z) (oN as' (jA (jK ?_))))))));obtain rfl:=Pw h
  repeat (first|refine iA ?_|refine iB ?_)
  exact jQ (vs:=[hS b27 0 u26 1 s3.1.length,Bo true]) (.cons (.tmp Z) (.cons (.tmp Z) .nil)) (.tupL (.cons (Fz.own (g:=b27) (ver:=u26) (l:=s3.1) Z Z Z n28 qD) (.cons (qC Z) .nil)))
 refine jH (T.clean (H0:=[bE true 0 1 3 (([]:LI).map cI),some ⟨0,6,136,[[eL (cL Px.c) p,eL cI x.From,eL (cL cI) x.Order,eL Pz.c v1,hS true 0 0 1 (([]:LI).length),hS false 2 0 1 ((V8 (v1.length:Int).toNat (default:Bool)).length)]]⟩,bE false 0 1 4 ((V8 (v1.length:Int).toNat (default:Bool)).map cB)]) (e0:=ai [(6,.hp 1 0 6 0 0)]) Z (Ps Z Pq) (jC (oN mv (oN (nl Z) (oN (fa vC Z) (oA (lh (eL Pz.c v1) Mb Z Z Z) (oN (Pt.lenL pG Z) (oN mv (jA (jE ?_))))))))));refine jO (S:=(LI)×(List (List Px))×(LI)×(LL)×(List Pz)×(List Bool)×Int) (G:=(Bool×Nat)×Nat) (lL v1) (λs10 gh=>(gh.1.1=true->s10.1=[])) (λs10 gh=>[(32,I s10.2.2.2.2.2.2),(31,I (v1.length:Int)),(30,eL Pz.c v1),(6,.hp 1 0 6 0 0)]) (λs10 gh=>[bE gh.1.1 gh.1.2 1 3 (s10.1.map cI),some ⟨0,6,136,[[eL (cL Px.c) s10.2.1,eL cI s10.2.2.1,eL (cL cI) s10.2.2.2.1,eL Pz.c s10.2.2.2.2.1,hS gh.1.1 0 gh.1.2 1 s10.1.length,hS false 2 gh.2 1 s10.2.2.2.2.2.1.length]]⟩,bE false gh.2 1 4 (s10.2.2.2.2.2.1.map cB)]) (s0:=(([]:LI),p,x.From,x.Order,v1,(V8 (v1.length:Int).toNat (default:Bool)),U)) ((true,0),0) h qD (kw Z Z) (λs10 gh ws10 h n14=>?_);obtain ⟨⟨b13,u12⟩,u15⟩:=gh;refine jI (oN (Pt.ilt Z Z) (jA (jH ?_)));refine jN Z h (λq16 h=>?_) (λq16 h=>?_)
 ·refine jG (jH (jE (jI (oN mv (jD h λg17 h=>oN (Pt.ixL pG Z Z g17 qD) (oN (lf (.agg (Pz.c (J v1 s10.2.2.2.2.2.2))) vB Z) (oA (EvA.al Ee Z Z) (oN as' (oV (sr (Pz.c (J v1 s10.2.2.2.2.2.2)) vB Z Z Z Z) (jA (jI (oN as' (jA ?_)))))))))))));obtain ⟨Ks18,es18,ws18,h,ks18⟩:=qB h;refine T.join (S:=(List (List Px))×(LI)×(LL)×(List Pz)×(List Bool)×Int) (G:=Nat) (λs18=>Ks18 s18=some ws10) (λs18 gh=>True) (λs18 gh=>[(9,I s18.2.2.2.2.2),(32,I s10.2.2.2.2.2.2),(31,I (v1.length:Int)),(30,eL Pz.c v1),(6,.hp 1 0 6 0 0)]) (λs18 gh=>[bE b13 u12 1 3 (s10.1.map cI),some ⟨0,6,136,[[eL (cL Px.c) s18.1,eL cI s18.2.1,eL (cL cI) s18.2.2.1,eL Pz.c s18.2.2.2.1,hS b13 0 u12 1 s10.1.length,hS false 2 gh 1 s18.2.2.2.2.1.length]]⟩,bE false gh 1 4 (s18.2.2.2.2.1.map cB),some ⟨0,5,80,[(Pz.c (J v1 s10.2.2.2.2.2.2))]⟩]) (λs18 u23 h hg=>?_) ?_
  ·clear ks18;subst es18;refine jC (oN mv (oN mv (oN (nl Z) (oN (fa vC Z) (oA (lh (hS b13 0 u12 1 s10.1.length) mZ Z Z Z) (oN mv (oN (Pt.mkF (c:=cI) ([s18.2.2.2.2.2]:LI) [[I s18.2.2.2.2.2]] aD Z Z Z qD qD Z) (jL h λg24 h=>oA (EvA.app1 (g:=b13) (l:=s10.1) s18.2.2.2.2.2 aD (by kernel_rfl) Z Z Z n14 (bf.fz (l:=([s18.2.2.2.2.2]:LI)) Z qD) g24) (oN (nl Z) (oN (fa vC Z) (oV (sr [eL (cL Px.c) s18.1,eL cI s18.2.1,eL (cL cI) s18.2.2.1,eL Pz.c s18.2.2.2.1,hS false 0 (u12+1) 1 ((s10.1++[s18.2.2.2.2.2]).length),hS false 2 u23 1 s18.2.2.2.2.1.length] mZ Z Z Z Z) (jA (jC (jW h λg25 h=>?_))))))))))))));refine oN (Pt.add Z Z g25) (oN mv (jA ?_));obtain rfl:=Pw h;exact ⟨((s10.1++[s18.2.2.2.2.2]),s18.1,s18.2.1,s18.2.2.1,s18.2.2.2.1,s18.2.2.2.2.1,(s10.2.2.2.2.2.2+V)),((false,u12+1),u23),Z,nofun,ow Z (.cons (.list (g:=false) (ver:=u12+1) (l:=(s10.1++[s18.2.2.2.2.2])) qD) (.cons (.row (.cons (.fz (qC Z)) (.cons (.fz (qC Z)) (.cons (.fz (qC Z)) (.cons (.fz (qC Z)) (.cons (.hS (g:=false) (b:=0) (ver:=u12+1) (s:=1) (n:=(s10.1++[s18.2.2.2.2.2]).length) Z) (.cons (.hS (g:=false) (b:=2) (ver:=u23) (s:=1) (n:=s18.2.2.2.2.1.length) Z) .nil))))))) (.cons (.list (g:=false) (ver:=u23) (l:=s18.2.2.2.2.1) qD) .nil))) (ae (.fz (qC Z)) (ae (.fz (qC Z)) (ae (.fz (qC Z)) (ae (.hp (nlb Z)) aN))))⟩
  refine jI (oN (fa dA Z) (oA (lh (Bo ((J v1 s10.2.2.2.2.2.2).az)) ty4 Z Z Z) (jA ?_)));refine jN Z h (λq19 h=>?_) (λq19 h=>?_)
  ·refine jI (oN mv (oN mv (jB h λv20 cv20 h=>?_)));refine oW Z Z Z (cg.outAt (uo (⟨s10.2.1,(⟨s10.2.2.1,s10.2.2.2.1⟩:Py),s10.2.2.2.2.1,s10.1,s10.2.2.2.2.2.1⟩:aB) s10.2.2.2.2.2.2 0 u12 u15 b13 n14 cv20) [1,0,2] (by decide) (.cons Z (.rowL (.cons (bw 9 _ Z) (.cons (bw 9 _ Z) (.cons (bw 9 _ Z) (.cons (bw 9 _ Z) (.cons (lq Z) (.cons (lq Z) .nil))))))) (.bE Z qD (.cons Z (RenK.bE' qD) .nil))) (.cons (.hp Z) (.cons (bw 9 _ Z) .nil)) (G:=λv_=>[some ⟨0,6,136,[[eL (cL Px.c) v20.1.p,eL cI v20.1.x.From,eL (cL cI) v20.1.x.Order,eL Pz.c v20.1.events,hS b13 0 u12 1 s10.1.length,hS false 2 u15 1 v20.1.busy.length]]⟩,bE b13 u12 1 3 (s10.1.map cI),bE false u15 1 4 (v20.1.busy.map cB)]) (G':=λv_=>[bE b13 u12 1 3 (s10.1.map cI),some ⟨0,6,136,[[eL (cL Px.c) v20.1.p,eL cI v20.1.x.From,eL (cL cI) v20.1.x.Order,eL Pz.c v20.1.events,hS b13 0 u12 1 s10.1.length,hS false 2 u15 1 v20.1.busy.length]]⟩,bE false u15 1 4 (v20.1.busy.map cB),some ⟨0,5,80,[(Pz.c (J v1 s10.2.2.2.2.2.2))]⟩]) 4 Z (λv_ => .some (.rowL (.cons (bw 9 _ Z) (.cons (bw 9 _ Z) (.cons (bw 9 _ Z) (.cons (bw 9 _ Z) (.cons (lq (.inl Z)) (.cons (lq (.inl Z)) .nil))))))) (.bE qD (.some (RenK.bE' qD) .nil))) qD (r:=.tup [I v20.2.1,Bo v20.2.2]) (bw 9 _ Z) qD) (λu21=>?_);refine oN mv (oN (Pt.ext (I v20.2.1) Z Z) (oN (Pt.ext (Bo v20.2.2) Z Z) (oN as' (oN as' (jA (jH (jI (oN mv (oN (Pt.not Z) (jA ?_))))))))));refine jN Z h (λq22 h=>?_) (λq22 h=>?_)
   ·refine jH (T.clean (H0:=[bE b13 u12 1 3 (s10.1.map cI),some ⟨0,6,136,[[eL (cL Px.c) v20.1.p,eL cI v20.1.x.From,eL (cL cI) v20.1.x.Order,eL Pz.c v20.1.events,hS b13 0 u12 1 s10.1.length,hS false 2 u15 1 v20.1.busy.length]]⟩,bE false u15 1 4 (v20.1.busy.map cB),some ⟨0,5,80,[(Pz.c (J v1 s10.2.2.2.2.2.2))]⟩]) (e0:=ai []) Z Pq (jC (oN as' (oN as' (jA (jK ?_))))));obtain rfl:=Pw h;replace h:=congrArg some (show _=_ from ks18);refine lX h λh=>?_;obtain rfl:=Pw h;replace h:=congrArg some (show _=_ from ks3);obtain rfl:=Pw h
    repeat (first|refine iA ?_|refine iB ?_)
    exact jQ (vs:=[.nil,Bo false]) (.cons (.tmp Z) (.cons (.tmp Z) .nil)) (.tupL (.cons .nil0 (.cons (qC Z) .nil)))
   refine jG (T.clean (H0:=[bE b13 u12 1 3 (s10.1.map cI),some ⟨0,6,136,[[eL (cL Px.c) v20.1.p,eL cI v20.1.x.From,eL (cL cI) v20.1.x.Order,eL Pz.c v20.1.events,hS b13 0 u12 1 s10.1.length,hS false 2 u15 1 v20.1.busy.length]]⟩,bE false u15 1 4 (v20.1.busy.map cB),some ⟨0,5,80,[(Pz.c (J v1 s10.2.2.2.2.2.2))]⟩]) (e0:=ai [(10,I v20.2.1),(32,I s10.2.2.2.2.2.2),(31,I (v1.length:Int)),(30,eL Pz.c v1),(6,.hp 1 0 6 0 0)]) Z (Ps Z (Ps Z (Ps Z (Ps Z (Ps Z Pq))))) (jC (oN mv (oN as' (jA ?_)))));obtain rfl:=Pw h;exact ⟨(v20.1.p,v20.1.x.From,v20.1.x.Order,v20.1.events,v20.1.busy,v20.2.1),u15,ks18,trivial,kw Z Z⟩
  refine jG ?_;obtain rfl:=Pw h;exact ⟨(s10.2.1,s10.2.2.1,s10.2.2.2.1,s10.2.2.2.2.1,s10.2.2.2.2.2.1,(-1:Int)),u15,ks18,trivial,kw Z Z⟩
 refine jM (lX h λh=>?_);obtain rfl:=Pw h;exact ⟨(s10.1,s10.2.1,s10.2.2.1,s10.2.2.2.1,s10.2.2.2.2.1,s10.2.2.2.2.2.1),((b13,u12),u15),ks3,n14,kw Z Z⟩
theorem m7 (x:Py) (loc:Int) (i:Int) (k_:Int) {q} (h:dw x loc i k_=some q):au Tryz.prog 213 [.agg (Py.c x),I loc,I i,I k_] (Bo q):=by
 refine pM Tryz.func213 Z (by kernel_rfl) Z (jI (oN (Pt.bxF [eL cI x.From,eL (cL cI) x.Order] Z Z Z) (oN as' (jA (jH (jP (λ_=>([],false)) (by kernel_rfl) (by kernel_rfl) (fN Z (fa r9 Z) (fN Z (lf (eL (cL cI) x.Order) zT Z) (fN Z mv (jD h λg1 h=>fN Z (Pt.ixL gT Z Z g1 qD) (fN Z (lf (eL cI (J x.Order loc)) mZ Z) (fN Z mv (fC h (λ_=>lZ _ _) Z Z Z Z Z λv2 _ h=>fN Z (fa r9 Z) ?_)))))))))))));refine fN Z (lf (eL (cL cI) x.Order) zT Z) (fN Z mv (fN Z (Pt.ixL gT Z Z g1 qD) (fN Z (lf (eL cI (J x.Order loc)) mZ Z) (fN Z mv (fC h (λ_=>lZ _ _) Z Z Z Z Z λv3 _ h=>fN Z as' (fN Z as' (jR (jH (T.clean (H0:=[]) (e0:=ai [(10,I v3),(9,I v2)]) Z (Ps Z (Ps Z Pq)) (jC (oN mv (oN (Pt.ige Z Z) (oN mv ?_)))))))))))));refine TO.jB h 3 (λs4=>[(30,Bo s4),(10,I v3),(9,I v2)]) (λs4=>[]) (λs4 q5 h js4=>?_) (λs4 q5 h js4=>?_) (λs4 h=>?_)
 ·refine gN Z q5 mv (gN Z q5 (Pt.ige Z Z) (oN (Pt.pickT Z q5 (Bo (decide (U<=v3))) Z) ?_))
  cases h
  exact js4 _ _ (kw Z Z)
 ·refine gS Z q5 (gS Z q5 (oN (Pt.pickF Z q5 (Bo false) Z) ?_))
  cases h
  exact js4 _ _ (kw Z Z)
 refine oN mv ?_;refine TO.jB h 4 (λs6=>[(35,Bo s6)]) (λs6=>[]) (λs6 q7 h js6=>?_) (λs6 q7 h js6=>?_) (λs6 h=>?_)
 ·refine gN Z q7 mv (gN Z q7 mv (gN Z q7 (Pt.ilt Z Z) (oN (Pt.pickT Z q7 (Bo (decide (v2<v3))) Z) ?_)))
  cases h
  exact js6 _ _ (kw Z Z)
 ·refine gS Z q7 (gS Z q7 (gS Z q7 (oN (Pt.pickF Z q7 (Bo false) Z) ?_)))
  cases h
  exact js6 _ _ (kw Z Z)
 refine oN as' (jA (jK ?_))
 cases h
 exact aF Z Z Z
theorem ym (y:Px) {q} (h:qi y=some q):au Tryz.prog 215 [.agg (Px.c y)] (Bo q):=by
 refine pM Tryz.func215 Z (by kernel_rfl) Z (jI (oN (Pt.bxF (Px.c y) Z Z Z) (oN as' (jA (jI (oN (fa p6 Z) (oN (lf (I y.Op) PL Z) (oN (Pt.ieq Z Z) (oN as' (jA (jK ?_)))))))))))
 cases h
 exact aF Z Z Z
theorem db (s:List Px) {q} (h:aR s=some q):au Tryz.prog 223 [eL Px.c s,.fn (.func 215) []] (I q):=by
 refine pM Tryz.func223 Z (by kernel_rfl) Z (jI (oN as' (jA ?_)));obtain ⟨Ks1,es1,ws1,h,ks1⟩:=qB h;refine T.join (S:=Unit) (G:=Unit) (λs1=>Ks1 s1=some q) (λs1 gh=>True) (λs1 gh=>[]) (λs1 gh=>[]) (λs1 gh h hg=>?_) ?_
 ·clear ks1;subst es1;refine jI (oN as' (jA (jK ?_)))
  cases h
  exact aF Z Z Z
 refine jI (oN mv (oN (Pt.lenL AP Z) (oN mv (jA (jE ?_)))));refine T.lU h (λs4=>[(8,I s4),(7,I (s.length:Int)),(0,eL Px.c s),(1,.fn (.func 215) [])]) (λs4=>[]) (kw Z Z) (λs4 ws4 h=>?_);refine jI (oN (Pt.ilt Z Z) (jA (jH ?_)));refine jN Z h (λq6 h=>?_) (λq6 h=>?_)
 ·refine jG (jH (jE (jI (oN mv (oN as' (jA (jI (oN mv (oN mv (oN mv (jD h λg7 h=>oN (Pt.ixL AP Z Z g7 qD) (oN (lf (.agg (Px.c (J s s4))) Bm Z) (oC h (λ_=>ym _) Z Z Z Z λv8 _ h=>jA ?_)))))))))))));refine jN Z h (λq9 h=>?_) (λq9 h=>?_)
  ·refine jI (oN mv (oN as' (jA (jK (lX h λh=>?_)))));obtain rfl:=Pw h;replace h:=congrArg some (show _=_ from ks1)
   cases h
   exact aF Z Z Z
  refine jG (jC (jW h λg10 h=>oN (Pt.add Z Z g10) (oN mv (jA ?_))));exact lE h (kw Z Z)
 refine jM (lX h λh=>?_)
 cases h
 exact ⟨(),(),ks1,trivial,kw Z Z⟩
theorem cf (s:List Px) {q} (h:aA s=some q):au Tryz.prog 214 [eL Px.c s,.fn (.func 215) []] (Bo q):=by
 refine pM Tryz.func214 Z (by kernel_rfl) Z (jI (oN as' (jA (jI (oN mv (oN mv (oC h (λ_=>db _) Z Z Z Z λv1 _ h=>oN (Pt.ige Z Z) (oN as' (jA (jK ?_))))))))))
 cases h
 exact aF Z Z Z
theorem iz (e_:Pz) (writes:Bool) {q} (h:cu e_ writes=some q):au Tryz.prog 216 [.agg (Pz.c e_),Bo writes] (Bo q):=by
 refine pM Tryz.func216 Z (by kernel_rfl) Z (jI (oN (Pt.bxF [I e_.Thread,I e_.Index,I e_.Loc,Bo e_.Reads,Bo e_.az] Z Z Z) (oN as' (jA (jI (oN (fa dA Z) (oN (lf (Bo e_.az) ty4 Z) (oN mv (oN (Pt.beq bt4 Z Z) (oN mv ?_))))))))));refine TO.jB h 5 (λs1=>[(14,Bo s1)]) (λs1=>[]) (λs1 q2 h js1=>?_) (λs1 q2 h js1=>?_) (λs1 h=>?_)
 ·refine gN Z q2 (fa dA Z) (gN Z q2 (lf (Bo e_.Reads) ty4 Z) (gN Z q2 mv (gN Z q2 (Pt.bne bt4 Z Z) (oN (Pt.pickT Z q2 (Bo (!(e_.Reads==writes))) Z) ?_))))
  cases h
  exact js1 _ _ (kw Z Z)
 ·refine gS Z q2 (gS Z q2 (gS Z q2 (gS Z q2 (oN (Pt.pickF Z q2 (Bo false) Z) ?_))))
  cases h
  exact js1 _ _ (kw Z Z)
 refine oN as' (jA (jK ?_))
 cases h
 exact aF Z Z Z
theorem Bd (p:List (List Px)) (x:Py) (list:List Pz) (name:ByteArray) (i:Int) (k_:Int) {q} (h:pV p x list name i k_=some q):au Tryz.prog 197 [eL (cL Px.c) p,.agg (Py.c x),eL Pz.c list,St name,I i,I k_] (Bo q):=by
 let d2:=(J list i).Thread;let d1:=Pz.c (J list i);let d0:=Pz.c (J list k_);refine pM Tryz.func197 Z (by kernel_rfl) Z (jI (oN (Pt.bxF [eL cI x.From,eL (cL cI) x.Order] Z Z Z) (oN as' (jA (jH (T.reserve (T.reserve (jP (dG [dF,dF,dF,dF,dF,dF,dF,dF,([0],true),([1],true),([0],true),([1],true)]) (by kernel_rfl) (by kernel_rfl) (fN Z mv (fN Z mv (jD h λg1 h=>fN Z (Pt.ixL pG Z Z g1 qD) (fN Z (lf (.agg d1) vB Z) (fN Z mv (fN Z mv ?_))))))))))))));refine jD h λg2 h=>fN Z (Pt.ixL pG Z Z g2 qD) (fN Z (lf (.agg d0) vB Z) (fW 0 [] Z Z (λG hG=>EvA.alR 0 Ee Z Z (hG.a0 Z)) (fW 1 [] Z Z (λG hG=>EvA.alR 1 Ee Z Z (hG.a0 Z)) (fV 0 [] Z Z (λG hG=>EvA.st (cs:=d1) ⟨0,5,80,[d1]⟩ vB Z Z (hG.a0 Z) Z Z Z Z Z Z) (fV 1 [] Z Z (λG hG=>EvA.st (cs:=d0) ⟨0,5,80,[d0]⟩ vB Z Z (hG.a0 Z) Z Z Z Z Z Z) (jR (jI (oN (fa dA Z) (oA (lh (I d2) PL Z Z Z) (oN (Pt.ige Z Z) (oN mv ?_)))))))))));refine TO.jB h 6 (λs3=>[(33,Bo s3),(14,.hp 1 0 5 0 0),(13,.hp 0 0 5 0 0),(7,.fp (Py.c x) 0),(0,eL (cL Px.c) p),(3,St name),(4,I i),(5,I k_)]) (λs3=>[some ⟨0,5,80,[d1]⟩,some ⟨0,5,80,[d0]⟩]) (λs3 q4 h js3=>?_) (λs3 q4 h js3=>?_) (λs3 h=>?_)
 ·refine gN Z q4 (fa dA Z) (gA Z q4 (lh (I d2) PL Z Z Z) (gN Z q4 (fa dA Z) (gA Z q4 (lh (I ((J list k_).Thread)) PL Z Z Z) (gN Z q4 (Pt.ieq Z Z) (oN (Pt.pickT Z q4 (Bo (d2==((J list k_).Thread))) Z) ?_)))))
  cases h
  exact js3 _ _ (kw Z Z)
 ·refine gS Z q4 (gS Z q4 (gS Z q4 (gS Z q4 (gS Z q4 (oN (Pt.pickF Z q4 (Bo false) Z) ?_)))))
  cases h
  exact js3 _ _ (kw Z Z)
 refine oN mv ?_;refine TO.jB h 6 (λs5=>[(40,Bo s5),(14,.hp 1 0 5 0 0),(13,.hp 0 0 5 0 0),(7,.fp (Py.c x) 0),(0,eL (cL Px.c) p),(3,St name),(4,I i),(5,I k_)]) (λs5=>[some ⟨0,5,80,[d1]⟩,some ⟨0,5,80,[d0]⟩]) (λs5 q6 h js5=>?_) (λs5 q6 h js5=>?_) (λs5 h=>?_)
 ·refine gN Z q6 (fa dA Z) (gA Z q6 (lh (I ((J list i).Index)) PL Z Z Z) (gN Z q6 (fa dA Z) (gA Z q6 (lh (I ((J list k_).Index)) PL Z Z Z) (gN Z q6 (Pt.ilt Z Z) (oN (Pt.pickT Z q6 (Bo (decide (((J list i).Index)<((J list k_).Index)))) Z) ?_)))))
  cases h
  exact js5 _ _ (kw Z Z)
 ·refine gS Z q6 (gS Z q6 (gS Z q6 (gS Z q6 (gS Z q6 (oN (Pt.pickF Z q6 (Bo false) Z) ?_)))))
  cases h
  exact js5 _ _ (kw Z Z)
 refine oN as' (jA ?_);obtain ⟨Ks7,es7,ws7,h,ks7⟩:=qB h;refine T.join (S:=Unit) (G:=Unit) (λs7=>Ks7 s7=some q) (λs7 gh=>True) (λs7 gh=>[(4,I i),(5,I k_)]) (λs7 gh=>[some ⟨0,5,80,[d1]⟩,some ⟨0,5,80,[d0]⟩]) (λs7 gh h hg=>?_) ?_
 ·clear ks7;subst es7;refine jI (oN mv (oN mv (oN (Pt.ieq Z Z) (oN as' (jA (jK ?_))))))
  cases h
  exact aF Z Z Z
 refine jI (oN mv (jA (jE (jI (oN (Pt.seq Z Z) (oN as' (jA ?_)))))));refine jN Z h (λq8 h=>?_) (λq8 h=>?_)
 ·refine jI (oN mv (oN as' (jA (jK ?_))));obtain rfl:=Pw h;replace h:=congrArg some (show _=_ from ks7)
  cases h
  exact aF Z Z Z
 refine jI (oN (Pt.seq Z Z) (oN as' (jA ?_)));refine jN Z h (λq9 h=>?_) (λq9 h=>?_)
 ·refine jI (oN (fa dA Z) (oA (lh (I ((J list i).Loc)) PL Z Z Z) (oN (fa dA Z) (oA (lh (I ((J list k_).Loc)) PL Z Z Z) (oN (Pt.ieq Z Z) (oN as' (jA (jK ?_))))))));obtain rfl:=Pw h;replace h:=congrArg some (show _=_ from ks7)
  cases h
  exact aF Z Z Z
 refine jI (oN (Pt.seq Z Z) (oN as' (jA ?_)));refine jN Z h (λq10 h=>?_) (λq10 h=>?_)
 ·refine jI (oN (fa dA Z) (oA (lh (I d2) PL Z Z Z) (oN (fa dA Z) (oA (lh (I ((J list k_).Thread)) PL Z Z Z) (oN (Pt.ine Z Z) (oN mv ?_))))));refine TO.jB h 4 (λs11=>[(63,Bo s11)]) (λs11=>[some ⟨0,5,80,[d1]⟩,some ⟨0,5,80,[d0]⟩]) (λs11 q12 h js11=>?_) (λs11 q12 h js11=>?_) (λs11 h=>?_)
  ·refine gS Z q12 (gS Z q12 (gS Z q12 (oN (Pt.pickT Z q12 (Bo true) Z) ?_)))
   cases h
   exact js11 _ _ (kw Z Z)
  ·refine gN Z q12 (fa dA Z) (gA Z q12 (lh (I d2) PL Z Z Z) (gN Z q12 (Pt.ilt Z Z) (oN (Pt.pickF Z q12 (Bo (decide (d2<U))) Z) ?_)))
   cases h
   exact js11 _ _ (kw Z Z)
  refine oN as' (jA (jK ?_));obtain rfl:=Pw h;replace h:=congrArg some (show _=_ from ks7)
  cases h
  exact aF Z Z Z
 refine jI (oN (Pt.seq Z Z) (oN as' (jA ?_)));refine jN Z h (λq13 h=>?_) (λq13 h=>?_)
 ·refine jI (oN (fa r9 Z) (oN (lf (eL cI x.From) mZ Z) (oN mv (jD h λg14 h=>oN (Pt.ixL aD Z Z g14 qD) (oN (lf (I (J x.From k_)) PL Z) (oN mv (oN (Pt.ieq Z Z) (oN as' (jA (jK ?_))))))))));obtain rfl:=Pw h;replace h:=congrArg some (show _=_ from ks7)
  cases h
  exact aF Z Z Z
 refine jI (oN (Pt.seq Z Z) (oN as' (jA ?_)));refine jN Z h (λq15 h=>?_) (λq15 h=>?_)
 ·refine jH (T.clean (H0:=[some ⟨0,5,80,[d1]⟩,some ⟨0,5,80,[d0]⟩]) (e0:=ai [(13,.hp 0 0 5 0 0),(7,.fp (Py.c x) 0),(4,I i),(5,I k_)]) Z (Ps Z (Ps Z (Ps Z (Ps Z Pq)))) (jC (oN (lf (.agg (Py.c x)) pE Z) (oN (fa dA Z) (oA (lh (I ((J list i).Loc)) PL Z Z Z) (oN mv (oN mv (oC h (λ_=>m7 _ _ _ _) Z Z Z Z λv16 _ h=>oN as' (jA (jK ?_))))))))));obtain rfl:=Pw h;replace h:=congrArg some (show _=_ from ks7)
  cases h
  exact aF Z Z Z
 refine jI (oN (Pt.seq Z Z) (oN as' (jA ?_)));refine jN Z h (λq17 h=>?_) (λq17 h=>?_)
 ·refine T.jU h (λs18=>[(12,Bo s18)]) (λs18=>[some ⟨0,5,80,[d1]⟩,some ⟨0,5,80,[d0]⟩]) (λs18 h=>?_) (λs18 h=>?_)
  ·refine jK ?_;obtain rfl:=Pw h;replace h:=congrArg some (show _=_ from ks7)
   cases h
   exact aF Z Z Z
  refine T.clean (H0:=[some ⟨0,5,80,[d1]⟩,some ⟨0,5,80,[d0]⟩]) (e0:=ai [(14,.hp 1 0 5 0 0),(13,.hp 0 0 5 0 0),(7,.fp (Py.c x) 0),(4,I i),(5,I k_)]) Z (Ps Z (Ps Z (Ps Z (Ps Z (Ps Z Pq))))) (T.drawG (dG [dF,([0],false),dF,dF,([1],false),dF,dF,dF,dF,dF,dF,dF,dF,dF,([0],false),dF,dF,dF,dF,dF,dF,dF,dF,dF]) (by kernel_rfl) (by kernel_rfl) (tN Z (fa dA Z) (tR [0] Z (λG hG=>EvA.loadhp (Bo ((J list i).Reads)) ty4 Z (hG.a0 Z) Z Z Z Z) (tN Z mv ?_))));rcases yH h with ⟨q19,h⟩ | ⟨q19,h⟩
  ·refine PM Z q19 Z (fa dA Z) (tgR Z q19 [1] Z (λG hG=>EvA.loadhp (Bo ((J list k_).az)) ty4 Z (hG.a0 Z) Z Z Z Z) (tN Z (Pt.pickT Z q19 (Bo ((J list k_).az)) Z) (tN Z mv ?_)));rcases yH h with ⟨q20,h⟩ | ⟨q20,h⟩
   ·refine PM Z q20 Z mv (PM Z q20 Z mv (PM Z q20 Z (Pt.ine Z Z) (tN Z (Pt.pickT Z q20 (Bo (i != k_)) Z) (tN Z mv ?_))));rcases yH h with ⟨q21,h⟩ | ⟨q21,h⟩
    ·refine PM Z q21 Z (lf (.agg (Py.c x)) pE Z) (PM Z q21 Z (fa dA Z) (tgR Z q21 [0] Z (λG hG=>EvA.loadhp (I ((J list i).Loc)) PL Z (hG.a0 Z) Z Z Z Z) (PM Z q21 Z (fa r9 Z) (PM Z q21 Z (lf (eL cI x.From) mZ Z) (PM Z q21 Z mv (jD h λg22 h=>PM Z q21 Z (Pt.ixL aD Z Z g22 qD) (PM Z q21 Z (lf (I (J x.From i)) PL Z) (PM Z q21 Z mv (jB h λv23 cv23 h=>PM Z q21 Z (Pt.call Z Z Z (m7 x ((J list i).Loc) (J x.From i) k_ cv23) Z) (tN Z (Pt.pickT Z q21 (Bo v23) Z) (tN Z as' (TG.nil ?_))))))))))))
     cases h
     exact ⟨(),trivial,kw Z Z⟩
    refine PN Z q21 (PN Z q21 (PN Z q21 (PN Z q21 (PN Z q21 (PN Z q21 (PN Z q21 (PN Z q21 (PN Z q21 (PN Z q21 (tN Z (Pt.pickF Z q21 (Bo false) Z) (tN Z as' (TG.nil ?_))))))))))))
    cases h
    exact ⟨(),trivial,kw Z Z⟩
   refine PN Z q20 (PN Z q20 (PN Z q20 (tN Z (Pt.pickF Z q20 (Bo false) Z) (tN Z mv (PN Z Z (PN Z Z (PN Z Z (PN Z Z (PN Z Z (PN Z Z (PN Z Z (PN Z Z (PN Z Z (PN Z Z (tN Z (Pt.pickF Z Z (Bo false) Z) ?_)))))))))))))));refine tN Z as' (TG.nil ?_)
   cases h
   exact ⟨(),trivial,kw Z Z⟩
  refine PN Z q19 (PN Z q19 (tN Z (Pt.pickF Z q19 (Bo false) Z) (tN Z mv (PN Z Z (PN Z Z (PN Z Z (tN Z (Pt.pickF Z Z (Bo false) Z) (tN Z mv (PN Z Z (PN Z Z (PN Z Z (PN Z Z (PN Z Z (PN Z Z (PN Z Z ?_)))))))))))))));refine PN Z Z (PN Z Z (PN Z Z (tN Z (Pt.pickF Z Z (Bo false) Z) (tN Z as' (TG.nil ?_)))))
  cases h
  exact ⟨(),trivial,kw Z Z⟩
 refine jI (oN (Pt.seq Z Z) (oN as' (jA ?_)));refine jN Z h (λq24 h=>?_) (λq24 h=>?_)
 ·refine T.jU h (λs25=>[(12,Bo s25)]) (λs25=>[some ⟨0,5,80,[d1]⟩,some ⟨0,5,80,[d0]⟩]) (λs25 h=>?_) (λs25 h=>?_)
  ·refine jK ?_;obtain rfl:=Pw h;replace h:=congrArg some (show _=_ from ks7)
   cases h
   exact aF Z Z Z
  refine T.clean (H0:=[some ⟨0,5,80,[d1]⟩,some ⟨0,5,80,[d0]⟩]) (e0:=ai [(15,Bo s5),(14,.hp 1 0 5 0 0),(13,.hp 0 0 5 0 0),(0,eL (cL Px.c) p)]) Z (Ps Z (Ps Z (Ps Z (Ps Z Pq)))) (T.drawG (dG [dF,dF,dF,dF,([0],false),dF,dF,dF,([0],false),dF,([1],false),dF,dF,dF,dF]) (by kernel_rfl) (by kernel_rfl) (tN Z mv (tN Z mv ?_)));rcases yH h with ⟨q26,h⟩ | ⟨q26,h⟩
  ·refine PM Z q26 Z mv (PM Z q26 Z (fa dA Z) (tgR Z q26 [0] Z (λG hG=>EvA.loadhp (I d2) PL Z (hG.a0 Z) Z Z Z Z) (jD h λg27 h=>PM Z q26 Z (Pt.ixL yM Z Z g27 qD) (PM Z q26 Z (lf (eL Px.c (J p d2)) Ed Z) (PM Z q26 Z (fa dA Z) (tgR Z q26 [0] Z (λG hG=>EvA.loadhp (I ((J list i).Index)) PL Z (hG.a0 Z) Z Z Z Z) (PM Z q26 Z (fa dA Z) (tgR Z q26 [1] Z (λG hG=>EvA.loadhp (I ((J list k_).Index)) PL Z (hG.a0 Z) Z Z Z Z) (jD h λg28 h=>PM Z q26 Z (Pt.slL AP Z (.yes Z) (.yes Z) g28 qD) (jB h λv29 cv29 h=>PM Z q26 Z (Pt.call Z Z Z (cf (((J p d2).drop ((J list i).Index).toNat).take (((J list k_).Index).toNat-((J list i).Index).toNat)) cv29) Z) (tN Z (Pt.pickT Z q26 (Bo v29) Z) (tN Z as' ?_))))))))))));refine TG.nil ?_
   cases h
   exact ⟨(),trivial,kw Z Z⟩
  refine PN Z q26 (PN Z q26 (PN Z q26 (PN Z q26 (PN Z q26 (PN Z q26 (PN Z q26 (PN Z q26 (PN Z q26 (PN Z q26 (PN Z q26 (tN Z (Pt.pickF Z q26 (Bo false) Z) (tN Z as' (TG.nil ?_)))))))))))))
  cases h
  exact ⟨(),trivial,kw Z Z⟩
 refine jH (T.clean (H0:=[some ⟨0,5,80,[d1]⟩,some ⟨0,5,80,[d0]⟩]) (e0:=ai [(41,St name),(14,.hp 1 0 5 0 0),(13,.hp 0 0 5 0 0),(4,I i),(5,I k_)]) Z (Ps Z (Ps Z (Ps Z (Ps Z (Ps Z Pq))))) (jC (oN (Pt.seq Z Z) (oN as' (jA ?_)))));refine jN Z h (λq30 h=>?_) (λq30 h=>?_)
 ·refine jI (oA (lh (.agg d1) vB Z Z Z) (oC h (λ_=>iz _ _) Z Z Z Z λv31 _ h=>oN mv ?_));refine TO.jB h 3 (λs32=>[(129,Bo s32)]) (λs32=>[some ⟨0,5,80,[d1]⟩,some ⟨0,5,80,[d0]⟩]) (λs32 q33 h js32=>?_) (λs32 q33 h js32=>?_) (λs32 h=>?_)
  ·refine gA Z q33 (lh (.agg d0) vB Z Z Z) (jB h λv34 cv34 h=>gN Z q33 (Pt.call Z Z Z (iz (⟨(J list k_).Thread,(J list k_).Index,(J list k_).Loc,(J list k_).Reads,(J list k_).az⟩:Pz) false cv34) Z) (oN (Pt.pickT Z q33 (Bo v34) Z) ?_))
   cases h
   exact js32 _ _ (kw Z Z)
  ·refine gS Z q33 (gS Z q33 (oN (Pt.pickF Z q33 (Bo false) Z) ?_))
   cases h
   exact js32 _ _ (kw Z Z)
  refine oN as' (jA (jK ?_));obtain rfl:=Pw h;replace h:=congrArg some (show _=_ from ks7)
  cases h
  exact aF Z Z Z
 refine jI (oN (Pt.seq Z Z) (oN as' (jA ?_)));refine jN Z h (λq35 h=>?_) (λq35 h=>?_)
 ·refine jI (oA (lh (.agg d1) vB Z Z Z) (oC h (λ_=>iz _ _) Z Z Z Z λv36 _ h=>oN mv ?_));refine TO.jB h 3 (λs37=>[(137,Bo s37)]) (λs37=>[some ⟨0,5,80,[d1]⟩,some ⟨0,5,80,[d0]⟩]) (λs37 q38 h js37=>?_) (λs37 q38 h js37=>?_) (λs37 h=>?_)
  ·refine gA Z q38 (lh (.agg d0) vB Z Z Z) (jB h λv39 cv39 h=>gN Z q38 (Pt.call Z Z Z (iz (⟨(J list k_).Thread,(J list k_).Index,(J list k_).Loc,(J list k_).Reads,(J list k_).az⟩:Pz) true cv39) Z) (oN (Pt.pickT Z q38 (Bo v39) Z) ?_))
   cases h
   exact js37 _ _ (kw Z Z)
  ·refine gS Z q38 (gS Z q38 (oN (Pt.pickF Z q38 (Bo false) Z) ?_))
   cases h
   exact js37 _ _ (kw Z Z)
  refine oN as' (jA (jK ?_));obtain rfl:=Pw h;replace h:=congrArg some (show _=_ from ks7)
  cases h
  exact aF Z Z Z
 refine jG ?_
 cases h
 exact ⟨(),(),ks7,trivial,kw Z Z⟩
theorem zz (i:Int) (k_:Int) (a2:List (List Px)) (a3:Py) (a4:List Pz) (a5:ByteArray) {q} (h:qY i k_ a2 a3 a4 a5=some q):au Tryz.prog 196 [I i,I k_,.fp ((cL (cL Px.c)) a2) 0,.fp (Py.c a3) 0,.fp ((cL Pz.c) a4) 0,.fp (cS a5) 0] (Bo q):=by
 refine pM Tryz.func196 Z (by kernel_rfl) Z (jI (oN as' (jA (jI (oN (lf (eL (cL Px.c) a2) KI Z) (oN (lf (.agg (Py.c a3)) pE Z) (oN (lf (eL Pz.c a4) Mb Z) (oN (lf (St a5) ty9 Z) (oN mv (oN mv (oC h (λ_=>Bd _ _ _ _ _ _) Z Z Z Z λv1 _ h=>oN as' (jA (jK ?_)))))))))))))
 cases h
 exact aF Z Z Z
theorem ol (n:Int) (is0:List (List Px)) (is1:Py) (is2:List Pz) (is3:ByteArray) {q} (h:iX n is0 is1 is2 is3=some q):au Tryz.prog 195 [I n,.fn (.func 196) [.fp ((cL (cL Px.c)) is0) 0,.fp (Py.c is1) 0,.fp ((cL Pz.c) is2) 0,.fp (cS is3) 0]] (eL cI q):=by
 refine pM Tryz.func195 Z (by kernel_rfl) Z (jI (oN as' (jA (jI (oN mv (jD h λg1 h=>oA (EvA.mkN (c:=cI) (default:Int) aD Z Z g1 Z Z Z) (oN (Pt.asg (hS false 0 0 1 ((V8 n.toNat (default:Int)).length)) Z) (jA ?_))))))));refine T.jF (G:=Nat) h (λs2 gh=>True) (λs2 gh=>[(5,hS false 0 gh 1 s2.length)]) (λs2 gh=>[bE false gh 1 3 (s2.map cI)]) (λs2 u27 h hg=>?_) (λs2 h=>?_)
 ·refine jI (oN mv (oN (Pt.asg (hS false 0 u27 1 s2.length) Z) (jA (jK ?_))));obtain rfl:=Pw h
  repeat (first|refine iA ?_|refine iB ?_)
  exact jQ (vs:=[hS false 0 u27 1 s2.length]) (.cons (.tmp Z) .nil) (Fz.own (g:=false) (ver:=u27) (l:=s2) Z Z Z nofun qD)
 refine jI (oN mv (oN mv (jA (jE ?_))));refine jO (S:=(LI)×Int) (G:=Nat) (gD n is0 is1 is2 is3) (λs6 gh=>True) (λs6 gh=>[(11,I s6.2),(10,I n),(5,hS false 0 gh 1 s6.1.length),(0,I n),(1,.fn (.func 196) [.fp ((cL (cL Px.c)) is0) 0,.fp (Py.c is1) 0,.fp ((cL Pz.c) is2) 0,.fp (cS is3) 0])]) (λs6 gh=>[bE false gh 1 3 (s6.1.map cI)]) (s0:=((V8 n.toNat (default:Int)),U)) 0 h trivial (kw Z Z) (λs6 u8 ws6 h hg=>?_);refine jI (oN (Pt.ilt Z Z) (jA (jH ?_)));refine jN Z h (λq9 h=>?_) (λq9 h=>?_)
 ·refine jG ?_;refine T.jF (G:=Nat) h (λs10 gh=>True) (λs10 gh=>[(11,I s6.2),(10,I n),(5,hS false 0 gh 1 s10.length),(0,I n),(1,.fn (.func 196) [.fp ((cL (cL Px.c)) is0) 0,.fp (Py.c is1) 0,.fp ((cL Pz.c) is2) 0,.fp (cS is3) 0])]) (λs10 gh=>[bE false gh 1 3 (s10.map cI)]) (λs10 u25 h hg=>?_) (λs10 h=>?_)
  ·refine jC (jW h λg26 h=>oN (Pt.add Z Z g26) (oN mv (jA ?_)));obtain rfl:=Pw h;exact ⟨(s10,(s6.2+V)),u25,Z,trivial,kw Z Z⟩
  refine jE (jI (oN mv (oN as' (jA (jI (oN mv (oN mv (jA (jE ?_)))))))));refine jO (S:=(LI)×Int) (G:=Nat) (fQ n is0 is1 is2 is3 s6) (λs14 gh=>True) (λs14 gh=>[(15,I s14.2),(14,I n),(6,I s6.2),(11,I s6.2),(10,I n),(5,hS false 0 gh 1 s14.1.length),(0,I n),(1,.fn (.func 196) [.fp ((cL (cL Px.c)) is0) 0,.fp (Py.c is1) 0,.fp ((cL Pz.c) is2) 0,.fp (cS is3) 0])]) (λs14 gh=>[bE false gh 1 3 (s14.1.map cI)]) (s0:=(s6.1,U)) u8 h trivial (kw Z Z) (λs14 u16 ws14 h hg=>?_);refine jI (oN (Pt.ilt Z Z) (jA (jH ?_)));refine jN Z h (λq17 h=>?_) (λq17 h=>?_)
  ·refine jG ?_;refine T.jF (G:=Nat) h (λs18 gh=>True) (λs18 gh=>[(15,I s14.2),(14,I n),(6,I s6.2),(11,I s6.2),(10,I n),(5,hS false 0 gh 1 s18.length),(0,I n),(1,.fn (.func 196) [.fp ((cL (cL Px.c)) is0) 0,.fp (Py.c is1) 0,.fp ((cL Pz.c) is2) 0,.fp (cS is3) 0])]) (λs18 gh=>[bE false gh 1 3 (s18.map cI)]) (λs18 u23 h hg=>?_) (λs18 h=>?_)
   ·refine jC (jW h λg24 h=>oN (Pt.add Z Z g24) (oN mv (jA ?_)));obtain rfl:=Pw h;exact ⟨(s18,(s14.2+V)),u23,Z,trivial,kw Z Z⟩
   refine jE (jI (oN mv (oN as' (jA (jI (oN mv (oN mv (oN mv (oC h (λ_=>zz _ _ _ _ _ _) Z Z Z Z λv19 _ h=>jA ?_)))))))));refine jN Z h (λq20 h=>?_) (λq20 h=>?_)
   ·refine jP (dG [dF,dF,dF,([0],false),dF,dF,dF,dF,([0],true)]) (by kernel_rfl) (by kernel_rfl) (fN Z mv (fN Z mv (jD h λg21 h=>fN Z (Pt.ixO (g:=false) aD Z Z nofun g21) (fR [0] Z (λG hG=>EvA.ldO (g:=false) (l:=s14.1) (I (J s14.1 s6.2)) PL Z (hG.a0 Z) nofun (aH Z g21) Z) (fN Z mv (jD h λg22 h=>fN Z (Pt.shl Z Z g22) (fN Z (Pt.bor Z Z) (fN Z (Pt.ixO (g:=false) aD Z Z nofun g21) (fV 0 [] Z Z (λG hG=>EvA.stO (g:=false) (l:=s14.1) (cs:=[I (Pu .i64 (J s14.1 s6.2) (CB .i64 V s14.2))]) (Pu .i64 (J s14.1 s6.2) (CB .i64 V s14.2)) PL Z Z (hG.a0 Z) nofun (aH Z g21) Z Z Z) (jR ?_))))))))));obtain rfl:=Pw h;exact ⟨u16,trivial,BL Z (Ps Z (Ps Z (Ps Z (Ps Z (Ps Z (Ps (congrArg (hS false 0 u16 1) (by simp:s14.1.length=(s14.1.set s6.2.toNat (Pu .i64 (J s14.1 s6.2) (CB .i64 (1:Int) s14.2))).length)) (Ps Z (Ps Z Pq))))))))⟩
   refine jG ?_
   cases h
   exact ⟨u16,trivial,kw Z Z⟩
  refine jM (lX h λh=>?_)
  cases h
  exact ⟨u16,trivial,kw Z Z⟩
 refine jM (lX h λh=>?_)
 cases h
 exact ⟨u8,trivial,kw Z Z⟩
theorem Bz (p:List (List Px)) (x:Py) (name:ByteArray) {q} (h:gQ p x name=some q):au Tryz.prog 167 [eL (cL Px.c) p,.agg (Py.c x),St name] (eL cI q):=by
 refine pM Tryz.func167 Z (by kernel_rfl) Z (jI (oN (Pt.bxF [eL (cL Px.c) p] Z Z Z) (oN (Pt.bxF [eL cI x.From,eL (cL cI) x.Order] Z Z Z) (oN (Pt.bxF [St name] Z Z Z) (oN as' (jA (jI (oN (lf (eL (cL Px.c) p) KI Z) (oC h (λ_=>jp _) Z Z Z Z λv1 _ h=>oA (EvA.al Pm Z Z) (oV (sr [eL Pz.c v1] Mb Z Z Z Z) (TO.cut (e0:=ai [(7,.fp ((cL Pz.c) v1) 0),(5,.fp (cS name) 0),(4,.fp (Py.c x) 0),(3,.fp ((cL (cL Px.c)) p) 0)]) (H0:=[]) (ow Z .nil (ae (.fz (Fz.fpL (ver:=0) (s:=1) (ty:=77) (rows:=[[eL Pz.c v1]]) Z Z Z (.cons (qC Z) .nil))) (ae (.fz (qC Z)) (ae (.fz (qC Z)) (ae (.fz (qC Z)) aN))))) (jA (jI (oN (lf (eL Pz.c v1) Mb Z) ?_))))))))))))));refine oN (Pt.lenL pG Z) (oN (Pt.mkfn [.fp ((cL (cL Px.c)) p) 0,.fp (Py.c x) 0,.fp ((cL Pz.c) v1) 0,.fp (cS name) 0] Z Z) (oC h (λ_=>ol _ _ _ _ _) Z Z Z Z λv2 _ h=>oN as' (jA (jK ?_))))
 cases h
 exact aF Z Z Z
theorem vH (x:Int) (a1:LI) {q} (h:nu x a1=some q):au Tryz.prog 178 [I x,.fp ((cL cI) a1) 0] (Bo q):=by
 refine pM Tryz.func178 Z (by kernel_rfl) Z (jI (oN as' (jA (jI (oN mv (oN (Pt.ilt Z Z) (oN mv ?_)))))));refine TO.jB h 6 (λs1=>[(12,Bo s1)]) (λs1=>[]) (λs1 q2 h js1=>?_) (λs1 q2 h js1=>?_) (λs1 h=>?_)
 ·refine gS Z q2 (gS Z q2 (gS Z q2 (gS Z q2 (gS Z q2 (oN (Pt.pickT Z q2 (Bo true) Z) ?_)))))
  cases h
  exact js1 _ _ (kw Z Z)
 ·refine gN Z q2 mv (gN Z q2 (lf (eL cI a1) mZ Z) (gN Z q2 (Pt.lenL aD Z) (jD h λg3 h=>gN Z q2 (Pt.shr Z Z g3) (gN Z q2 (Pt.igt Z Z) (oN (Pt.pickF Z q2 (Bo (decide (U<(jw .i64 x (a1.length:Int))))) Z) ?_)))))
  cases h
  exact js1 _ _ (kw Z Z)
 refine oN as' (jA (jK ?_))
 cases h
 exact aF Z Z Z
theorem gM (s:LI) (f0:LI) {q} (h:bz s f0=some q):au Tryz.prog 132 [eL cI s,.fn (.func 178) [.fp ((cL cI) f0) 0]] (I q):=by
 refine pM Tryz.func132 Z (by kernel_rfl) Z (jI (oN as' (jA ?_)));obtain ⟨Ks1,es1,ws1,h,ks1⟩:=qB h;refine T.join (S:=Unit) (G:=Unit) (λs1=>Ks1 s1=some q) (λs1 gh=>True) (λs1 gh=>[]) (λs1 gh=>[]) (λs1 gh h hg=>?_) ?_
 ·clear ks1;subst es1;refine jI (oN as' (jA (jK ?_)))
  cases h
  exact aF Z Z Z
 refine jI (oN mv (oN (Pt.lenL aD Z) (oN mv (jA (jE ?_)))));refine T.lU h (λs4=>[(8,I s4),(7,I (s.length:Int)),(0,eL cI s),(1,.fn (.func 178) [.fp ((cL cI) f0) 0])]) (λs4=>[]) (kw Z Z) (λs4 ws4 h=>?_);refine jI (oN (Pt.ilt Z Z) (jA (jH ?_)));refine jN Z h (λq6 h=>?_) (λq6 h=>?_)
 ·refine jG (jH (jE (jI (oN mv (oN as' (jA (jI (oN mv (oN mv (oN mv (jD h λg7 h=>oN (Pt.ixL aD Z Z g7 qD) (oN (lf (I (J s s4)) PL Z) (oC h (λ_=>vH _ _) Z Z Z Z λv8 _ h=>jA ?_)))))))))))));refine jN Z h (λq9 h=>?_) (λq9 h=>?_)
  ·refine jI (oN mv (oN as' (jA (jK (lX h λh=>?_)))));obtain rfl:=Pw h;replace h:=congrArg some (show _=_ from ks1)
   cases h
   exact aF Z Z Z
  refine jG (jC (jW h λg10 h=>oN (Pt.add Z Z g10) (oN mv (jA ?_))));exact lE h (kw Z Z)
 refine jM (lX h λh=>?_)
 cases h
 exact ⟨(),(),ks1,trivial,kw Z Z⟩
theorem fH (s:LI) (f0:LI) {q} (h:bg s f0=some q):au Tryz.prog 82 [eL cI s,.fn (.func 178) [.fp ((cL cI) f0) 0]] (Bo q):=by
 refine pM Tryz.func82 Z (by kernel_rfl) Z (jI (oN as' (jA (jI (oN mv (oN mv (oC h (λ_=>gM _ _) Z Z Z Z λv1 _ h=>oN (Pt.ige Z Z) (oN as' (jA (jK ?_))))))))))
 cases h
 exact aF Z Z Z
theorem cE (r_:LI) {q} (h:bL r_=some q):au Tryz.prog 121 [eL cI r_] (Bo q):=by
 refine pM Tryz.func121 Z (by kernel_rfl) Z (jI (oN (Pt.bxF [eL cI r_] Z Z Z) (oN as' (jA (jI (oN (lf (eL cI r_) mZ Z) (oN (Pt.lenL aD Z) (oN (Pt.ile Z Z) (oN mv ?_)))))))));refine TO.jB h 5 (λs1=>[(11,Bo s1)]) (λs1=>[]) (λs1 q2 h js1=>?_) (λs1 q2 h js1=>?_) (λs1 h=>?_)
 ·refine gN Z q2 (lf (eL cI r_) mZ Z) (gN Z q2 (Pt.mkfn [.fp ((cL cI) r_) 0] Z Z) (jB h λv3 cv3 h=>gN Z q2 (Pt.call Z Z Z (fH r_ r_ cv3) Z) (gN Z q2 (Pt.not Z) (oN (Pt.pickT Z q2 (Bo (!v3)) Z) ?_))))
  cases h
  exact js1 _ _ (kw Z Z)
 ·refine gS Z q2 (gS Z q2 (gS Z q2 (gS Z q2 (oN (Pt.pickF Z q2 (Bo false) Z) ?_))))
  cases h
  exact js1 _ _ (kw Z Z)
 refine oN as' (jA (jK ?_))
 cases h
 exact aF Z Z Z
theorem eY (r_:LI) (i:Int) (k_:Int) {q} (h:cH r_ i k_=some q):au Tryz.prog 179 [eL cI r_,I i,I k_] (Bo q):=by
 refine pM Tryz.func179 Z (by kernel_rfl) Z (jI (oN as' (jA (jI (oN mv (oN mv (jD h λg1 h=>oN (Pt.ixL aD Z Z g1 qD) (oN (lf (I (J r_ i)) PL Z) (oN mv (jD h λg2 h=>oN (Pt.shr Z Z g2) (oN (Pt.band Z Z) (oN (Pt.ieq Z Z) (oN as' ?_)))))))))))));refine jA (jK ?_)
 cases h
 exact aF Z Z Z
theorem uq (i:Int) (k_:Int) (a2:LI) {q} (h:lM i k_ a2=some q):au Tryz.prog 198 [I i,I k_,.fp ((cL cI) a2) 0] (Bo q):=by
 refine pM Tryz.func198 Z (by kernel_rfl) Z (jI (oN as' (jA (jI (oN (lf (eL cI a2) mZ Z) (oN mv (oN mv (oC h (λ_=>eY _ _ _) Z Z Z Z λv1 _ h=>oN as' (jA (jK ?_))))))))))
 cases h
 exact aF Z Z Z
theorem lV (n:Int) (is0:LI) {q} (h:fq n is0=some q):au Tryz.prog 195 [I n,.fn (.func 198) [.fp ((cL cI) is0) 0]] (eL cI q):=by
 refine pM Tryz.func195 Z (by kernel_rfl) Z (jI (oN as' (jA (jI (oN mv (jD h λg1 h=>oA (EvA.mkN (c:=cI) (default:Int) aD Z Z g1 Z Z Z) (oN (Pt.asg (hS false 0 0 1 ((V8 n.toNat (default:Int)).length)) Z) (jA ?_))))))));refine T.jF (G:=Nat) h (λs2 gh=>True) (λs2 gh=>[(5,hS false 0 gh 1 s2.length)]) (λs2 gh=>[bE false gh 1 3 (s2.map cI)]) (λs2 u27 h hg=>?_) (λs2 h=>?_)
 ·refine jI (oN mv (oN (Pt.asg (hS false 0 u27 1 s2.length) Z) (jA (jK ?_))));obtain rfl:=Pw h
  repeat (first|refine iA ?_|refine iB ?_)
  exact jQ (vs:=[hS false 0 u27 1 s2.length]) (.cons (.tmp Z) .nil) (Fz.own (g:=false) (ver:=u27) (l:=s2) Z Z Z nofun qD)
 refine jI (oN mv (oN mv (jA (jE ?_))));refine jO (S:=(LI)×Int) (G:=Nat) (dE n is0) (λs6 gh=>True) (λs6 gh=>[(11,I s6.2),(10,I n),(5,hS false 0 gh 1 s6.1.length),(0,I n),(1,.fn (.func 198) [.fp ((cL cI) is0) 0])]) (λs6 gh=>[bE false gh 1 3 (s6.1.map cI)]) (s0:=((V8 n.toNat (default:Int)),U)) 0 h trivial (kw Z Z) (λs6 u8 ws6 h hg=>?_);refine jI (oN (Pt.ilt Z Z) (jA (jH ?_)));refine jN Z h (λq9 h=>?_) (λq9 h=>?_)
 ·refine jG ?_;refine T.jF (G:=Nat) h (λs10 gh=>True) (λs10 gh=>[(11,I s6.2),(10,I n),(5,hS false 0 gh 1 s10.length),(0,I n),(1,.fn (.func 198) [.fp ((cL cI) is0) 0])]) (λs10 gh=>[bE false gh 1 3 (s10.map cI)]) (λs10 u25 h hg=>?_) (λs10 h=>?_)
  ·refine jC (jW h λg26 h=>oN (Pt.add Z Z g26) (oN mv (jA ?_)));obtain rfl:=Pw h;exact ⟨(s10,(s6.2+V)),u25,Z,trivial,kw Z Z⟩
  refine jE (jI (oN mv (oN as' (jA (jI (oN mv (oN mv (jA (jE ?_)))))))));refine jO (S:=(LI)×Int) (G:=Nat) (dx n is0 s6) (λs14 gh=>True) (λs14 gh=>[(15,I s14.2),(14,I n),(6,I s6.2),(11,I s6.2),(10,I n),(5,hS false 0 gh 1 s14.1.length),(0,I n),(1,.fn (.func 198) [.fp ((cL cI) is0) 0])]) (λs14 gh=>[bE false gh 1 3 (s14.1.map cI)]) (s0:=(s6.1,U)) u8 h trivial (kw Z Z) (λs14 u16 ws14 h hg=>?_);refine jI (oN (Pt.ilt Z Z) (jA (jH ?_)));refine jN Z h (λq17 h=>?_) (λq17 h=>?_)
  ·refine jG ?_;refine T.jF (G:=Nat) h (λs18 gh=>True) (λs18 gh=>[(15,I s14.2),(14,I n),(6,I s6.2),(11,I s6.2),(10,I n),(5,hS false 0 gh 1 s18.length),(0,I n),(1,.fn (.func 198) [.fp ((cL cI) is0) 0])]) (λs18 gh=>[bE false gh 1 3 (s18.map cI)]) (λs18 u23 h hg=>?_) (λs18 h=>?_)
   ·refine jC (jW h λg24 h=>oN (Pt.add Z Z g24) (oN mv (jA ?_)));obtain rfl:=Pw h;exact ⟨(s18,(s14.2+V)),u23,Z,trivial,kw Z Z⟩
   refine jE (jI (oN mv (oN as' (jA (jI (oN mv (oN mv (oN mv (oC h (λ_=>uq _ _ _) Z Z Z Z λv19 _ h=>jA ?_)))))))));refine jN Z h (λq20 h=>?_) (λq20 h=>?_)
   ·refine jP (dG [dF,dF,dF,([0],false),dF,dF,dF,dF,([0],true)]) (by kernel_rfl) (by kernel_rfl) (fN Z mv (fN Z mv (jD h λg21 h=>fN Z (Pt.ixO (g:=false) aD Z Z nofun g21) (fR [0] Z (λG hG=>EvA.ldO (g:=false) (l:=s14.1) (I (J s14.1 s6.2)) PL Z (hG.a0 Z) nofun (aH Z g21) Z) (fN Z mv (jD h λg22 h=>fN Z (Pt.shl Z Z g22) (fN Z (Pt.bor Z Z) (fN Z (Pt.ixO (g:=false) aD Z Z nofun g21) (fV 0 [] Z Z (λG hG=>EvA.stO (g:=false) (l:=s14.1) (cs:=[I (Pu .i64 (J s14.1 s6.2) (CB .i64 V s14.2))]) (Pu .i64 (J s14.1 s6.2) (CB .i64 V s14.2)) PL Z Z (hG.a0 Z) nofun (aH Z g21) Z Z Z) (jR ?_))))))))));obtain rfl:=Pw h;exact ⟨u16,trivial,BL Z (Ps Z (Ps Z (Ps Z (Ps Z (Ps Z (Ps (congrArg (hS false 0 u16 1) (by simp:s14.1.length=(s14.1.set s6.2.toNat (Pu .i64 (J s14.1 s6.2) (CB .i64 (1:Int) s14.2))).length)) (Ps Z (Ps Z Pq))))))))⟩
   refine jG ?_
   cases h
   exact ⟨u16,trivial,kw Z Z⟩
  refine jM (lX h λh=>?_)
  cases h
  exact ⟨u16,trivial,kw Z Z⟩
 refine jM (lX h λh=>?_)
 cases h
 exact ⟨u8,trivial,kw Z Z⟩
theorem vI (r_:LI) {q} (h:j5 r_=some q):au Tryz.prog 168 [eL cI r_] (eL cI q):=by
 refine pM Tryz.func168 Z (by kernel_rfl) Z (jI (oN (Pt.bxF [eL cI r_] Z Z Z) (oN as' (jA (jH (jI (oN (lf (eL cI r_) mZ Z) (oC h (λ_=>cE _) Z Z Z Z λv1 _ h=>oN (Pt.not Z) (jA ?_)))))))));refine jN Z h (λq2 h=>?_) (λq2 h=>?_)
 ·refine jI (oN as' (jA (jK ?_)));obtain rfl:=Pw h
  repeat (first|refine iA ?_|refine iB ?_)
  exact jQ (vs:=[.nil]) (.cons (.tmp Z) .nil) .nil0
 refine jG (jI (oN (lf (eL cI r_) mZ Z) (oN (Pt.lenL aD Z) (oN (Pt.mkfn [.fp ((cL cI) r_) 0] Z Z) (oC h (λ_=>lV _ _) Z Z Z Z λv3 _ h=>oN as' (jA (jK ?_)))))))
 cases h
 exact aF Z Z Z
theorem qx (r_:LI) {q} (h:gF r_=some q):au Tryz.prog 169 [eL cI r_] (eL cI q):=by
 refine pM Tryz.func169 Z (by kernel_rfl) Z (jI (oN as' (jA (jH (jI (oN mv (oC h (λ_=>cE _) Z Z Z Z λv1 _ h=>oN (Pt.not Z) (jA ?_))))))));refine jN Z h (λq2 h=>?_) (λq2 h=>?_)
 ·refine jI (oN as' (jA (jK ?_)));obtain rfl:=Pw h
  repeat (first|refine iA ?_|refine iB ?_)
  exact jQ (vs:=[.nil]) (.cons (.tmp Z) .nil) .nil0
 refine jG (jI (oN mv (jB h λv3 cv3 h=>?_)));refine oG Z Z Z ((bM r_ cv3).own Z (qF qD) qI 0 Z) (λg4 v5 n6=>?_);refine oN (Pt.asg (hS g4 0 v5 1 v3.length) Z) (jA ?_);refine T.jF (G:=(Bool×Nat)) h (λs7 gh=>(gh.1=true->s7=[])) (λs7 gh=>[(3,hS gh.1 0 gh.2 1 s7.length)]) (λs7 gh=>[bE gh.1 gh.2 1 3 (s7.map cI)]) (λs7 gh h n49=>?_) (λs7 h=>?_)
 ·obtain ⟨b48,u47⟩:=gh;refine jI (oN mv (oN (Pt.asg (hS b48 0 u47 1 s7.length) Z) (jA (jK ?_))));obtain rfl:=Pw h
  repeat (first|refine iA ?_|refine iB ?_)
  exact jQ (vs:=[hS b48 0 u47 1 s7.length]) (.cons (.tmp Z) .nil) (Fz.own (g:=b48) (ver:=u47) (l:=s7) Z Z Z n49 qD)
 refine jI (oN mv (oN (Pt.lenO (g:=g4) aD Z (tP (λx=>V9 (n6 x)) Z)) (oN mv (jA (jE ?_)))));refine jO (S:=(LI)×Int) (G:=(Bool×Nat)) (jh v3) (λs16 gh=>(gh.1=true->s16.1=[])) (λs16 gh=>[(13,I s16.2),(12,I (v3.length:Int)),(3,hS gh.1 0 gh.2 1 s16.1.length)]) (λs16 gh=>[bE gh.1 gh.2 1 3 (s16.1.map cI)]) (s0:=(v3,U)) (g4,v5) h (λx=>V9 (n6 x)) (kw Z Z) (λs16 gh ws16 h n20=>?_);obtain ⟨b19,u18⟩:=gh;refine jI (oN (Pt.ilt Z Z) (jA (jH ?_)));refine jN Z h (λq21 h=>?_) (λq21 h=>?_)
 ·refine jG ?_;refine T.jF (G:=(Bool×Nat)) h (λs22 gh=>(gh.1=true->s22=[])) (λs22 gh=>[(13,I s16.2),(12,I (v3.length:Int)),(3,hS gh.1 0 gh.2 1 s22.length)]) (λs22 gh=>[bE gh.1 gh.2 1 3 (s22.map cI)]) (λs22 gh h n45=>?_) (λs22 h=>?_)
  ·obtain ⟨b44,u43⟩:=gh;refine jC (jW h λg46 h=>oN (Pt.add Z Z g46) (oN mv (jA ?_)));obtain rfl:=Pw h;exact ⟨(s22,(s16.2+V)),(b44,u43),Z,n45,kw Z Z⟩
  refine jE (jI (oN mv (oN as' (jA (jI (oN mv (oN (Pt.lenO (g:=b19) aD Z (tP n20 Z)) (oN mv (jA (jE ?_))))))))));refine jO (S:=(LI)×Int) (G:=(Bool×Nat)) (fu s16) (λs28 gh=>(gh.1=true->s28.1=[])) (λs28 gh=>[(18,I s28.2),(17,I (s16.1.length:Int)),(4,I s16.2),(13,I s16.2),(12,I (v3.length:Int)),(3,hS gh.1 0 gh.2 1 s28.1.length)]) (λs28 gh=>[bE gh.1 gh.2 1 3 (s28.1.map cI)]) (s0:=(s16.1,U)) (b19,u18) h n20 (kw Z Z) (λs28 gh ws28 h n32=>?_);obtain ⟨b31,u30⟩:=gh;refine jI (oN (Pt.ilt Z Z) (jA (jH ?_)));refine jN Z h (λq33 h=>?_) (λq33 h=>?_)
  ·refine jG ?_;refine T.jF (G:=(Bool×Nat)) h (λs34 gh=>(gh.1=true->s34=[])) (λs34 gh=>[(18,I s28.2),(17,I (s16.1.length:Int)),(4,I s16.2),(13,I s16.2),(12,I (v3.length:Int)),(3,hS gh.1 0 gh.2 1 s34.length)]) (λs34 gh=>[bE gh.1 gh.2 1 3 (s34.map cI)]) (λs34 gh h n41=>?_) (λs34 h=>?_)
   ·obtain ⟨b40,u39⟩:=gh;refine jC (jW h λg42 h=>oN (Pt.add Z Z g42) (oN mv (jA ?_)));obtain rfl:=Pw h;exact ⟨(s34,(s28.2+V)),(b40,u39),Z,n41,kw Z Z⟩
   refine jE (jI (oN mv (oN as' (jA (jI (oN mv (oN mv (oN mv (jB h λv35 cv35 h=>oA (EvA.callT Z Z (eY s28.1 s28.2 s16.2 cv35) (.cons (Fz.own (g:=b31) (ver:=u30) (l:=s28.1) Z Z Z n32 qD) (.cons (qC Z) (.cons (qC Z) .nil))) Z) (jA ?_))))))))));refine jN Z h (λq36 h=>?_) (λq36 h=>?_)
   ·refine T.drawH (dG [dF,dF,dF,([0],false),dF,dF,dF,([0],false),dF,dF,([0],true)]) (by kernel_rfl) (by kernel_rfl) (fN Z mv (fN Z mv (jD h λg37 h=>?_)));obtain rfl:=DF n32 rfl g37;refine fN Z (Pt.ixO (g:=false) aD Z Z nofun g37) (fR [0] Z (λG hG=>EvA.ldO (g:=false) (l:=s28.1) (I (J s28.1 s28.2)) PL Z (hG.a0 Z) nofun (aH Z g37) Z) (fN Z mv (fN Z mv (jD h λg38 h=>fN Z (Pt.ixO (g:=false) aD Z Z nofun g38) (fR [0] Z (λG hG=>EvA.ldO (g:=false) (l:=s28.1) (I (J s28.1 s16.2)) PL Z (hG.a0 Z) nofun (aH Z g38) Z) (fN Z (Pt.bor Z Z) (fN Z (Pt.ixO (g:=false) aD Z Z nofun g37) (fV 0 [] Z Z (λG hG=>EvA.stO (g:=false) (l:=s28.1) (cs:=[I (Pu .i64 (J s28.1 s28.2) (J s28.1 s16.2))]) (Pu .i64 (J s28.1 s28.2) (J s28.1 s16.2)) PL Z Z (hG.a0 Z) nofun (aH Z g37) Z Z Z) (jR ?_)))))))));obtain rfl:=Pw h;exact ⟨(false,u30),nofun,BL Z (Ps Z (Ps Z (Ps Z (Ps Z (Ps Z (Ps (congrArg (hS false 0 u30 1) (by simp:s28.1.length=(s28.1.set s28.2.toNat (Pu .i64 (J s28.1 s28.2) (J s28.1 s16.2))).length)) Pq))))))⟩
   refine jG ?_
   cases h
   exact ⟨(b31,u30),n32,kw Z Z⟩
  refine jM (lX h λh=>?_)
  cases h
  exact ⟨(b31,u30),n32,kw Z Z⟩
 refine jM (lX h λh=>?_)
 cases h
 exact ⟨(b19,u18),n20,kw Z Z⟩
theorem lm (a:LI) (b:LI) {q} (h:dH a b=some q):au Tryz.prog 203 [eL cI a,eL cI b] (Bo q):=by
 refine pM Tryz.func203 Z (by kernel_rfl) Z (jI (oN as' (jA (jI (oN mv (oN (Pt.lenL aD Z) (oN mv (oN (Pt.lenL aD Z) (oN (Pt.ieq Z Z) (oN mv ?_))))))))));refine TO.jB h 3 (λs1=>[(13,Bo s1),(1,eL cI b)]) (λs1=>[]) (λs1 q2 h js1=>?_) (λs1 q2 h js1=>?_) (λs1 h=>?_)
 ·refine gN Z q2 mv (jB h λv3 cv3 h=>gN Z q2 (Pt.call Z Z Z (cE a cv3) Z) (oN (Pt.pickT Z q2 (Bo v3) Z) ?_))
  cases h
  exact js1 _ _ (kw Z Z)
 ·refine gS Z q2 (gS Z q2 (oN (Pt.pickF Z q2 (Bo false) Z) ?_))
  cases h
  exact js1 _ _ (kw Z Z)
 refine oN mv ?_;refine TO.jB h 3 (λs4=>[(17,Bo s4)]) (λs4=>[]) (λs4 q5 h js4=>?_) (λs4 q5 h js4=>?_) (λs4 h=>?_)
 ·refine gN Z q5 mv (jB h λv6 cv6 h=>gN Z q5 (Pt.call Z Z Z (cE b cv6) Z) (oN (Pt.pickT Z q5 (Bo v6) Z) ?_))
  cases h
  exact js4 _ _ (kw Z Z)
 ·refine gS Z q5 (gS Z q5 (oN (Pt.pickF Z q5 (Bo false) Z) ?_))
  cases h
  exact js4 _ _ (kw Z Z)
 refine oN as' (jA (jK ?_))
 cases h
 exact aF Z Z Z
theorem vJ (x:Int) (y:Int) {q} (h:ny x y=some q):au Tryz.prog 200 [I x,I y] (I q):=by
 refine pM Tryz.func200 Z (by kernel_rfl) Z (jI (oN as' (jA (jI (oN mv (oN mv (oN (Pt.bor Z Z) (oN as' (jA (jK ?_))))))))))
 cases h
 exact aF Z Z Z
theorem l5 (a:LI) (b:LI) {q} (h:fS a b=some q):au Tryz.prog 199 [eL cI a,eL cI b,.fn (.func 200) []] (eL cI q):=by
 refine pM Tryz.func199 Z (by kernel_rfl) Z (jI (oN as' (jA (jH (jI (oN mv (oN mv (oC h (λ_=>lm _ _) Z Z Z Z λv1 _ h=>oN (Pt.not Z) (jA ?_)))))))));refine jN Z h (λq2 h=>?_) (λq2 h=>?_)
 ·refine jI (oN as' (jA (jK ?_)));obtain rfl:=Pw h
  repeat (first|refine iA ?_|refine iB ?_)
  exact jQ (vs:=[.nil]) (.cons (.tmp Z) .nil) .nil0
 refine jG (jI (oN mv (oN (Pt.lenL aD Z) (jD h λg3 h=>oA (EvA.mkN (c:=cI) (default:Int) aD Z Z g3 Z Z Z) (oN (Pt.asg (hS false 0 0 1 ((V8 (a.length:Int).toNat (default:Int)).length)) Z) (jA ?_))))));refine T.jF (G:=Nat) h (λs4 gh=>True) (λs4 gh=>[(7,hS false 0 gh 1 s4.length)]) (λs4 gh=>[bE false gh 1 3 (s4.map cI)]) (λs4 u17 h hg=>?_) (λs4 h=>?_)
 ·refine jI (oN mv (oN (Pt.asg (hS false 0 u17 1 s4.length) Z) (jA (jK ?_))));obtain rfl:=Pw h
  repeat (first|refine iA ?_|refine iB ?_)
  exact jQ (vs:=[hS false 0 u17 1 s4.length]) (.cons (.tmp Z) .nil) (Fz.own (g:=false) (ver:=u17) (l:=s4) Z Z Z nofun qD)
 refine jI (oN mv (oN (Pt.lenL aD Z) (oN mv (jA (jE ?_)))));refine jO (S:=(LI)×Int) (G:=Nat) (dP a b) (λs8 gh=>True) (λs8 gh=>[(18,I s8.2),(17,I (a.length:Int)),(7,hS false 0 gh 1 s8.1.length),(0,eL cI a),(1,eL cI b),(2,.fn (.func 200) [])]) (λs8 gh=>[bE false gh 1 3 (s8.1.map cI)]) (s0:=((V8 (a.length:Int).toNat (default:Int)),U)) 0 h trivial (kw Z Z) (λs8 u10 ws8 h hg=>?_);refine jI (oN (Pt.ilt Z Z) (jA (jH ?_)));refine jN Z h (λq11 h=>?_) (λq11 h=>?_)
 ·refine jG (jH (jE (jI (oN mv (oN as' (jA (jP (dG [dF,dF,dF,dF,dF,dF,dF,dF,dF,dF,dF,dF,dF,([0],true)]) (by kernel_rfl) (by kernel_rfl) (fN Z mv (fN Z mv (fN Z mv (fN Z mv (fN Z mv (jD h λg12 h=>fN Z (Pt.ixL aD Z Z g12 qD) (fN Z (lf (I (J a s8.2)) PL Z) ?_))))))))))))));refine fN Z mv (fN Z mv (jD h λg13 h=>fN Z (Pt.ixL aD Z Z g13 qD) (fN Z (lf (I (J b s8.2)) PL Z) (fC h (λ_=>vJ _ _) Z Z Z Z Z λv14 _ h=>jD h λg15 h=>fN Z (Pt.ixO (g:=false) aD Z Z nofun g15) (fV 0 [] Z Z (λG hG=>EvA.stO (g:=false) (l:=s8.1) (cs:=[I v14]) v14 PL Z Z (hG.a0 Z) nofun (aH Z g15) Z Z Z) (jR (T.clean (H0:=[bE false u10 1 3 ((s8.1.set s8.2.toNat v14).map cI)]) (e0:=ai [(18,I s8.2),(17,I (a.length:Int)),(7,hS false 0 u10 1 s8.1.length),(0,eL cI a),(1,eL cI b),(2,.fn (.func 200) [])]) Z (Ps Z (Ps Z (Ps Z (Ps Z (Ps Z (Ps Z Pq)))))) (jC (jW h λg16 h=>oN (Pt.add Z Z g16) (oN mv (jA ?_)))))))))));obtain rfl:=Pw h;exact ⟨((s8.1.set s8.2.toNat v14),(s8.2+(1:Int))),u10,Z,trivial,BL Z (Ps Z (Ps Z (Ps (congrArg (hS false 0 u10 1) (by simp:s8.1.length=(s8.1.set s8.2.toNat v14).length)) (Ps Z (Ps Z (Ps Z Pq))))))⟩
 refine jM (lX h λh=>?_)
 cases h
 exact ⟨u10,trivial,kw Z Z⟩
theorem yn (a:LI) (b:LI) {q} (h:mG a b=some q):au Tryz.prog 170 [eL cI a,eL cI b] (eL cI q):=by
 refine pM Tryz.func170 Z (by kernel_rfl) Z (jI (oN as' (jA (jI (oN mv (oN mv (oC h (λ_=>l5 _ _) Z Z Z Z λv1 _ h=>oN as' (jA (jK ?_)))))))))
 cases h
 exact aF Z Z Z
theorem wT (x:Int) (y:Int) {q} (h:oL x y=some q):au Tryz.prog 201 [I x,I y] (I q):=by
 refine pM Tryz.func201 Z (by kernel_rfl) Z (jI (oN as' (jA (jI (oN mv (oN mv (oN (Pt.band Z Z) (oN as' (jA (jK ?_))))))))))
 cases h
 exact aF Z Z Z
theorem mY (a:LI) (b:LI) {q} (h:gG a b=some q):au Tryz.prog 199 [eL cI a,eL cI b,.fn (.func 201) []] (eL cI q):=by
 refine pM Tryz.func199 Z (by kernel_rfl) Z (jI (oN as' (jA (jH (jI (oN mv (oN mv (oC h (λ_=>lm _ _) Z Z Z Z λv1 _ h=>oN (Pt.not Z) (jA ?_)))))))));refine jN Z h (λq2 h=>?_) (λq2 h=>?_)
 ·refine jI (oN as' (jA (jK ?_)));obtain rfl:=Pw h
  repeat (first|refine iA ?_|refine iB ?_)
  exact jQ (vs:=[.nil]) (.cons (.tmp Z) .nil) .nil0
 refine jG (jI (oN mv (oN (Pt.lenL aD Z) (jD h λg3 h=>oA (EvA.mkN (c:=cI) (default:Int) aD Z Z g3 Z Z Z) (oN (Pt.asg (hS false 0 0 1 ((V8 (a.length:Int).toNat (default:Int)).length)) Z) (jA ?_))))));refine T.jF (G:=Nat) h (λs4 gh=>True) (λs4 gh=>[(7,hS false 0 gh 1 s4.length)]) (λs4 gh=>[bE false gh 1 3 (s4.map cI)]) (λs4 u17 h hg=>?_) (λs4 h=>?_)
 ·refine jI (oN mv (oN (Pt.asg (hS false 0 u17 1 s4.length) Z) (jA (jK ?_))));obtain rfl:=Pw h
  repeat (first|refine iA ?_|refine iB ?_)
  exact jQ (vs:=[hS false 0 u17 1 s4.length]) (.cons (.tmp Z) .nil) (Fz.own (g:=false) (ver:=u17) (l:=s4) Z Z Z nofun qD)
 refine jI (oN mv (oN (Pt.lenL aD Z) (oN mv (jA (jE ?_)))));refine jO (S:=(LI)×Int) (G:=Nat) (eu a b) (λs8 gh=>True) (λs8 gh=>[(18,I s8.2),(17,I (a.length:Int)),(7,hS false 0 gh 1 s8.1.length),(0,eL cI a),(1,eL cI b),(2,.fn (.func 201) [])]) (λs8 gh=>[bE false gh 1 3 (s8.1.map cI)]) (s0:=((V8 (a.length:Int).toNat (default:Int)),U)) 0 h trivial (kw Z Z) (λs8 u10 ws8 h hg=>?_);refine jI (oN (Pt.ilt Z Z) (jA (jH ?_)));refine jN Z h (λq11 h=>?_) (λq11 h=>?_)
 ·refine jG (jH (jE (jI (oN mv (oN as' (jA (jP (dG [dF,dF,dF,dF,dF,dF,dF,dF,dF,dF,dF,dF,dF,([0],true)]) (by kernel_rfl) (by kernel_rfl) (fN Z mv (fN Z mv (fN Z mv (fN Z mv (fN Z mv (jD h λg12 h=>fN Z (Pt.ixL aD Z Z g12 qD) (fN Z (lf (I (J a s8.2)) PL Z) ?_))))))))))))));refine fN Z mv (fN Z mv (jD h λg13 h=>fN Z (Pt.ixL aD Z Z g13 qD) (fN Z (lf (I (J b s8.2)) PL Z) (fC h (λ_=>wT _ _) Z Z Z Z Z λv14 _ h=>jD h λg15 h=>fN Z (Pt.ixO (g:=false) aD Z Z nofun g15) (fV 0 [] Z Z (λG hG=>EvA.stO (g:=false) (l:=s8.1) (cs:=[I v14]) v14 PL Z Z (hG.a0 Z) nofun (aH Z g15) Z Z Z) (jR (T.clean (H0:=[bE false u10 1 3 ((s8.1.set s8.2.toNat v14).map cI)]) (e0:=ai [(18,I s8.2),(17,I (a.length:Int)),(7,hS false 0 u10 1 s8.1.length),(0,eL cI a),(1,eL cI b),(2,.fn (.func 201) [])]) Z (Ps Z (Ps Z (Ps Z (Ps Z (Ps Z (Ps Z Pq)))))) (jC (jW h λg16 h=>oN (Pt.add Z Z g16) (oN mv (jA ?_)))))))))));obtain rfl:=Pw h;exact ⟨((s8.1.set s8.2.toNat v14),(s8.2+(1:Int))),u10,Z,trivial,BL Z (Ps Z (Ps Z (Ps (congrArg (hS false 0 u10 1) (by simp:s8.1.length=(s8.1.set s8.2.toNat v14).length)) (Ps Z (Ps Z (Ps Z Pq))))))⟩
 refine jM (lX h λh=>?_)
 cases h
 exact ⟨u10,trivial,kw Z Z⟩
theorem zA (a:LI) (b:LI) {q} (h:nR a b=some q):au Tryz.prog 171 [eL cI a,eL cI b] (eL cI q):=by
 refine pM Tryz.func171 Z (by kernel_rfl) Z (jI (oN as' (jA (jI (oN mv (oN mv (oC h (λ_=>mY _ _) Z Z Z Z λv1 _ h=>oN as' (jA (jK ?_)))))))))
 cases h
 exact aF Z Z Z
theorem vK (x:Int) (y:Int) {q} (h:nz x y=some q):au Tryz.prog 202 [I x,I y] (I q):=by
 refine pM Tryz.func202 Z (by kernel_rfl) Z (jI (oN as' (jA (jI (oN mv (oN mv (oN (Pt.bandNot Z Z) (oN as' (jA (jK ?_))))))))))
 cases h
 exact aF Z Z Z
theorem l6 (a:LI) (b:LI) {q} (h:fT a b=some q):au Tryz.prog 199 [eL cI a,eL cI b,.fn (.func 202) []] (eL cI q):=by
 refine pM Tryz.func199 Z (by kernel_rfl) Z (jI (oN as' (jA (jH (jI (oN mv (oN mv (oC h (λ_=>lm _ _) Z Z Z Z λv1 _ h=>oN (Pt.not Z) (jA ?_)))))))));refine jN Z h (λq2 h=>?_) (λq2 h=>?_)
 ·refine jI (oN as' (jA (jK ?_)));obtain rfl:=Pw h
  repeat (first|refine iA ?_|refine iB ?_)
  exact jQ (vs:=[.nil]) (.cons (.tmp Z) .nil) .nil0
 refine jG (jI (oN mv (oN (Pt.lenL aD Z) (jD h λg3 h=>oA (EvA.mkN (c:=cI) (default:Int) aD Z Z g3 Z Z Z) (oN (Pt.asg (hS false 0 0 1 ((V8 (a.length:Int).toNat (default:Int)).length)) Z) (jA ?_))))));refine T.jF (G:=Nat) h (λs4 gh=>True) (λs4 gh=>[(7,hS false 0 gh 1 s4.length)]) (λs4 gh=>[bE false gh 1 3 (s4.map cI)]) (λs4 u17 h hg=>?_) (λs4 h=>?_)
 ·refine jI (oN mv (oN (Pt.asg (hS false 0 u17 1 s4.length) Z) (jA (jK ?_))));obtain rfl:=Pw h
  repeat (first|refine iA ?_|refine iB ?_)
  exact jQ (vs:=[hS false 0 u17 1 s4.length]) (.cons (.tmp Z) .nil) (Fz.own (g:=false) (ver:=u17) (l:=s4) Z Z Z nofun qD)
 refine jI (oN mv (oN (Pt.lenL aD Z) (oN mv (jA (jE ?_)))));refine jO (S:=(LI)×Int) (G:=Nat) (dQ a b) (λs8 gh=>True) (λs8 gh=>[(18,I s8.2),(17,I (a.length:Int)),(7,hS false 0 gh 1 s8.1.length),(0,eL cI a),(1,eL cI b),(2,.fn (.func 202) [])]) (λs8 gh=>[bE false gh 1 3 (s8.1.map cI)]) (s0:=((V8 (a.length:Int).toNat (default:Int)),U)) 0 h trivial (kw Z Z) (λs8 u10 ws8 h hg=>?_);refine jI (oN (Pt.ilt Z Z) (jA (jH ?_)));refine jN Z h (λq11 h=>?_) (λq11 h=>?_)
 ·refine jG (jH (jE (jI (oN mv (oN as' (jA (jP (dG [dF,dF,dF,dF,dF,dF,dF,dF,dF,dF,dF,dF,dF,([0],true)]) (by kernel_rfl) (by kernel_rfl) (fN Z mv (fN Z mv (fN Z mv (fN Z mv (fN Z mv (jD h λg12 h=>fN Z (Pt.ixL aD Z Z g12 qD) (fN Z (lf (I (J a s8.2)) PL Z) ?_))))))))))))));refine fN Z mv (fN Z mv (jD h λg13 h=>fN Z (Pt.ixL aD Z Z g13 qD) (fN Z (lf (I (J b s8.2)) PL Z) (fC h (λ_=>vK _ _) Z Z Z Z Z λv14 _ h=>jD h λg15 h=>fN Z (Pt.ixO (g:=false) aD Z Z nofun g15) (fV 0 [] Z Z (λG hG=>EvA.stO (g:=false) (l:=s8.1) (cs:=[I v14]) v14 PL Z Z (hG.a0 Z) nofun (aH Z g15) Z Z Z) (jR (T.clean (H0:=[bE false u10 1 3 ((s8.1.set s8.2.toNat v14).map cI)]) (e0:=ai [(18,I s8.2),(17,I (a.length:Int)),(7,hS false 0 u10 1 s8.1.length),(0,eL cI a),(1,eL cI b),(2,.fn (.func 202) [])]) Z (Ps Z (Ps Z (Ps Z (Ps Z (Ps Z (Ps Z Pq)))))) (jC (jW h λg16 h=>oN (Pt.add Z Z g16) (oN mv (jA ?_)))))))))));obtain rfl:=Pw h;exact ⟨((s8.1.set s8.2.toNat v14),(s8.2+(1:Int))),u10,Z,trivial,BL Z (Ps Z (Ps Z (Ps (congrArg (hS false 0 u10 1) (by simp:s8.1.length=(s8.1.set s8.2.toNat v14).length)) (Ps Z (Ps Z (Ps Z Pq))))))⟩
 refine jM (lX h λh=>?_)
 cases h
 exact ⟨u10,trivial,kw Z Z⟩
theorem yp (a:LI) (b:LI) {q} (h:mH a b=some q):au Tryz.prog 172 [eL cI a,eL cI b] (eL cI q):=by
 refine pM Tryz.func172 Z (by kernel_rfl) Z (jI (oN as' (jA (jI (oN mv (oN mv (oC h (λ_=>l6 _ _) Z Z Z Z λv1 _ h=>oN as' (jA (jK ?_)))))))))
 cases h
 exact aF Z Z Z
theorem vL (a:LI) (b:LI) {q} (h:j6 a b=some q):au Tryz.prog 173 [eL cI a,eL cI b] (eL cI q):=by
 refine pM Tryz.func173 Z (by kernel_rfl) Z (jI (oN as' (jA (jH (jI (oN mv (oN mv (oC h (λ_=>lm _ _) Z Z Z Z λv1 _ h=>oN (Pt.not Z) (jA ?_)))))))));refine jN Z h (λq2 h=>?_) (λq2 h=>?_)
 ·refine jI (oN as' (jA (jK ?_)));obtain rfl:=Pw h
  repeat (first|refine iA ?_|refine iB ?_)
  exact jQ (vs:=[.nil]) (.cons (.tmp Z) .nil) .nil0
 refine jG (jI (oN mv (oN (Pt.lenL aD Z) (jD h λg3 h=>oA (EvA.mkN (c:=cI) (default:Int) aD Z Z g3 Z Z Z) (oN (Pt.asg (hS false 0 0 1 ((V8 (a.length:Int).toNat (default:Int)).length)) Z) (jA ?_))))));refine T.jF (G:=Nat) h (λs4 gh=>True) (λs4 gh=>[(5,hS false 0 gh 1 s4.length)]) (λs4 gh=>[bE false gh 1 3 (s4.map cI)]) (λs4 u29 h hg=>?_) (λs4 h=>?_)
 ·refine jI (oN mv (oN (Pt.asg (hS false 0 u29 1 s4.length) Z) (jA (jK ?_))));obtain rfl:=Pw h
  repeat (first|refine iA ?_|refine iB ?_)
  exact jQ (vs:=[hS false 0 u29 1 s4.length]) (.cons (.tmp Z) .nil) (Fz.own (g:=false) (ver:=u29) (l:=s4) Z Z Z nofun qD)
 refine jI (oN mv (oN (Pt.lenL aD Z) (oN mv (jA (jE ?_)))));refine jO (S:=(LI)×Int) (G:=Nat) (kC a b) (λs8 gh=>True) (λs8 gh=>[(17,I s8.2),(16,I (a.length:Int)),(5,hS false 0 gh 1 s8.1.length),(0,eL cI a),(1,eL cI b)]) (λs8 gh=>[bE false gh 1 3 (s8.1.map cI)]) (s0:=((V8 (a.length:Int).toNat (default:Int)),U)) 0 h trivial (kw Z Z) (λs8 u10 ws8 h hg=>?_);refine jI (oN (Pt.ilt Z Z) (jA (jH ?_)));refine jN Z h (λq11 h=>?_) (λq11 h=>?_)
 ·refine jG ?_;refine T.jF (G:=Nat) h (λs12 gh=>True) (λs12 gh=>[(17,I s8.2),(16,I (a.length:Int)),(5,hS false 0 gh 1 s12.length),(0,eL cI a),(1,eL cI b)]) (λs12 gh=>[bE false gh 1 3 (s12.map cI)]) (λs12 u27 h hg=>?_) (λs12 h=>?_)
  ·refine jC (jW h λg28 h=>oN (Pt.add Z Z g28) (oN mv (jA ?_)));obtain rfl:=Pw h;exact ⟨(s12,(s8.2+V)),u27,Z,trivial,kw Z Z⟩
  refine jE (jI (oN mv (oN as' (jA (jI (oN mv (oN (Pt.lenL aD Z) (oN mv (jA (jE ?_))))))))));refine jO (S:=(LI)×Int) (G:=Nat) (ji a b s8) (λs16 gh=>True) (λs16 gh=>[(22,I s16.2),(21,I (b.length:Int)),(6,I s8.2),(17,I s8.2),(16,I (a.length:Int)),(5,hS false 0 gh 1 s16.1.length),(0,eL cI a),(1,eL cI b)]) (λs16 gh=>[bE false gh 1 3 (s16.1.map cI)]) (s0:=(s8.1,U)) u10 h trivial (kw Z Z) (λs16 u18 ws16 h hg=>?_);refine jI (oN (Pt.ilt Z Z) (jA (jH ?_)));refine jN Z h (λq19 h=>?_) (λq19 h=>?_)
  ·refine jG ?_;refine T.jF (G:=Nat) h (λs20 gh=>True) (λs20 gh=>[(22,I s16.2),(21,I (b.length:Int)),(6,I s8.2),(17,I s8.2),(16,I (a.length:Int)),(5,hS false 0 gh 1 s20.length),(0,eL cI a),(1,eL cI b)]) (λs20 gh=>[bE false gh 1 3 (s20.map cI)]) (λs20 u25 h hg=>?_) (λs20 h=>?_)
   ·refine jC (jW h λg26 h=>oN (Pt.add Z Z g26) (oN mv (jA ?_)));obtain rfl:=Pw h;exact ⟨(s20,(s16.2+V)),u25,Z,trivial,kw Z Z⟩
   refine jE (jI (oN mv (oN as' (jA (jI (oN mv (oN mv (oN mv (oC h (λ_=>eY _ _ _) Z Z Z Z λv21 _ h=>jA ?_)))))))));refine jN Z h (λq22 h=>?_) (λq22 h=>?_)
   ·refine jP (dG [dF,dF,dF,([0],false),dF,dF,dF,dF,dF,dF,([0],true)]) (by kernel_rfl) (by kernel_rfl) (fN Z mv (fN Z mv (jD h λg23 h=>fN Z (Pt.ixO (g:=false) aD Z Z nofun g23) (fR [0] Z (λG hG=>EvA.ldO (g:=false) (l:=s16.1) (I (J s16.1 s8.2)) PL Z (hG.a0 Z) nofun (aH Z g23) Z) (fN Z mv (fN Z mv (jD h λg24 h=>fN Z (Pt.ixL aD Z Z g24 qD) (fN Z (lf (I (J b s16.2)) PL Z) (fN Z (Pt.bor Z Z) (fN Z (Pt.ixO (g:=false) aD Z Z nofun g23) (fV 0 [] Z Z (λG hG=>EvA.stO (g:=false) (l:=s16.1) (cs:=[I (Pu .i64 (J s16.1 s8.2) (J b s16.2))]) (Pu .i64 (J s16.1 s8.2) (J b s16.2)) PL Z Z (hG.a0 Z) nofun (aH Z g23) Z Z Z) (jR ?_))))))))))));obtain rfl:=Pw h;exact ⟨u18,trivial,BL Z (Ps Z (Ps Z (Ps Z (Ps Z (Ps Z (Ps (congrArg (hS false 0 u18 1) (by simp:s16.1.length=(s16.1.set s8.2.toNat (Pu .i64 (J s16.1 s8.2) (J b s16.2))).length)) (Ps Z (Ps Z Pq))))))))⟩
   refine jG ?_
   cases h
   exact ⟨u18,trivial,kw Z Z⟩
  refine jM (lX h λh=>?_)
  cases h
  exact ⟨u18,trivial,kw Z Z⟩
 refine jM (lX h λh=>?_)
 cases h
 exact ⟨u10,trivial,kw Z Z⟩
theorem yt:∀ (nf:Nat) (p:List (List Px)) (x:Py) (e_:aa) {q} (h:bY nf p x e_=some q),au Tryz.prog 118 [eL (cL Px.c) p,.agg (Py.c x),.agg (aa.c e_)] (eL cI q):=by
 intro nf
 induction nf with
 | zero=>intros;rename_i h;cases h
 | succ nf ih=>
  intro p x e_ q h;replace h:bX (bY nf) p x e_=some q:=h;refine pM Tryz.func118 Z (by kernel_rfl) Z (jI (oN (Pt.bxF [eL cI x.From,eL (cL cI) x.Order] Z Z Z) (oN (Pt.bxF [I e_.Op,St e_.Name,eL TXimpl_RelExpr.c e_.Kids] Z Z Z) (oN as' (jA (jH (jI (oN (fa tv Z) (oN (lf (I e_.Op) PL Z) (oN (Pt.ieq Z Z) (jA ?_)))))))))));refine jN Z h (λq1 h=>?_) (λq1 h=>?_)
  ·refine jI (oN mv (oN (lf (.agg (Py.c x)) pE Z) (oN (fa tv Z) (oN (lf (St e_.Name) ty9 Z) (oC h (λ_=>Bz _ _ _) Z Z Z Z λv2 _ h=>oN as' (jA (jK ?_)))))))
   cases h
   exact aF Z Z Z
  refine jG (jH (jP (λ_=>([],false)) (by kernel_rfl) (by kernel_rfl) (fN Z mv (fN Z (lf (.agg (Py.c x)) pE Z) (fN Z (fa tv Z) (fN Z (lf (eL TXimpl_RelExpr.c e_.Kids) FM Z) (jD h λg3 h=>fN Z (Pt.res (Pt.ixL De Z Z g3 TXimpl_RelExpr.len) (r' := .fp (aa.c (J e_.Kids U).out) 0) (λ_ _ hr=>qd (TXimpl_RelExpr.out_c _) hr)) (fN Z (lf (.agg (aa.c ((J e_.Kids U).out))) xS Z) (fC h (λ_=>ih _ _ _) Z Z Z Z Z λv4 _ h=>fN Z as' (jR (jH (jI (oN (fa tv Z) ?_)))))))))))));refine oN (lf (I e_.Op) PL Z) (jA (jE (jI (oN (Pt.ieq Z Z) (oN as' (jA ?_))))));refine jN Z h (λq5 h=>?_) (λq5 h=>?_)
  ·refine jH (T.clean (H0:=[]) (e0:=ai [(7,eL cI v4)]) Z (Ps Z Pq) (jC (oN mv (oC h (λ_=>vI _) Z Z Z Z λv6 _ h=>oN as' (jA (jK ?_))))))
   cases h
   exact aF Z Z Z
  refine jH (T.clean (H0:=[]) (e0:=ai [(25,I e_.Op),(7,eL cI v4),(5,.fp (aa.c e_) 0),(4,.fp (Py.c x) 0),(0,eL (cL Px.c) p)]) Z (Ps Z (Ps Z (Ps Z (Ps Z (Ps Z Pq))))) (jC (oN (Pt.ieq Z Z) (oN as' (jA ?_)))));refine jN Z h (λq7 h=>?_) (λq7 h=>?_)
  ·refine jI (oN mv (oC h (λ_=>qx _) Z Z Z Z λv8 _ h=>oN as' (jA (jK ?_))))
   cases h
   exact aF Z Z Z
  refine jG (jH (jP (λ_=>([],false)) (by kernel_rfl) (by kernel_rfl) (fN Z mv (fN Z (lf (.agg (Py.c x)) pE Z) (fN Z (fa tv Z) (fN Z (lf (eL TXimpl_RelExpr.c e_.Kids) FM Z) (jD h λg9 h=>fN Z (Pt.res (Pt.ixL De Z Z g9 TXimpl_RelExpr.len) (r' := .fp (aa.c (J e_.Kids V).out) 0) (λ_ _ hr=>qd (TXimpl_RelExpr.out_c _) hr)) (fN Z (lf (.agg (aa.c ((J e_.Kids V).out))) xS Z) (fC h (λ_=>ih _ _ _) Z Z Z Z Z λv10 _ h=>fN Z as' (jR (jH (jI (oN (fa tv Z) ?_)))))))))))));refine oN (lf (I e_.Op) PL Z) (jA (jE (jI (oN (Pt.ieq Z Z) (oN as' (jA ?_))))));refine jN Z h (λq11 h=>?_) (λq11 h=>?_)
  ·refine jH (T.clean (H0:=[]) (e0:=ai [(8,eL cI v10),(7,eL cI v4)]) Z (Ps Z (Ps Z Pq)) (jC (oN mv (oN mv (oC h (λ_=>yn _ _) Z Z Z Z λv12 _ h=>oN as' (jA (jK ?_)))))))
   cases h
   exact aF Z Z Z
  refine jH (T.clean (H0:=[]) (e0:=ai [(42,I e_.Op),(8,eL cI v10),(7,eL cI v4)]) Z (Ps Z (Ps Z (Ps Z Pq))) (jC (oN (Pt.ieq Z Z) (oN as' (jA ?_)))));refine jN Z h (λq13 h=>?_) (λq13 h=>?_)
  ·refine jI (oN mv (oN mv (oC h (λ_=>zA _ _) Z Z Z Z λv14 _ h=>oN as' (jA (jK ?_)))))
   cases h
   exact aF Z Z Z
  refine jI (oN (Pt.ieq Z Z) (oN as' (jA ?_)));refine jN Z h (λq15 h=>?_) (λq15 h=>?_)
  ·refine jI (oN mv (oN mv (oC h (λ_=>yp _ _) Z Z Z Z λv16 _ h=>oN as' (jA (jK ?_)))))
   cases h
   exact aF Z Z Z
  refine jG (jI (oN mv (oN mv (oC h (λ_=>vL _ _) Z Z Z Z λv17 _ h=>oN as' (jA (jK ?_))))))
  cases h
  exact aF Z Z Z
theorem zB (p:List (List Px)) (x:Py) (e_:aa) {q} (h:qZ p x e_=some q):au Tryz.prog 118 [eL (cL Px.c) p,.agg (Py.c x),.agg (aa.c e_)] (eL cI q):=by
 obtain ⟨nf,h⟩:=mb h;exact yt nf p x e_ h
theorem m8 (r_:LI) {q} (h:dz r_=some q):au Tryz.prog 175 [eL cI r_] (Bo q):=by
 refine pM Tryz.func175 Z (by kernel_rfl) Z (jI (oN as' (jA ?_)));obtain ⟨Ks1,es1,ws1,h,ks1⟩:=qB h;refine T.join (S:=Unit) (G:=Unit) (λs1=>Ks1 s1=some q) (λs1 gh=>True) (λs1 gh=>[]) (λs1 gh=>[]) (λs1 gh h hg=>?_) ?_
 ·clear ks1;subst es1;refine jI (oN as' (jA (jK ?_)))
  cases h
  exact aF Z Z Z
 refine jI (oN mv (oN (Pt.lenL aD Z) (oN mv (jA (jE ?_)))));refine T.lU h (λs4=>[(6,I s4),(5,I (r_.length:Int)),(0,eL cI r_)]) (λs4=>[]) (kw Z Z) (λs4 ws4 h=>?_);refine jI (oN (Pt.ilt Z Z) (jA (jH ?_)));refine jN Z h (λq6 h=>?_) (λq6 h=>?_)
 ·refine jG (jH (jE (jI (oN mv (oN as' (jA (jI (oN mv (oN mv (oN mv (oC h (λ_=>eY _ _ _) Z Z Z Z λv7 _ h=>jA ?_)))))))))));refine jN Z h (λq8 h=>?_) (λq8 h=>?_)
  ·refine jI (oN as' (jA (jK (lX h λh=>?_))));obtain rfl:=Pw h;replace h:=congrArg some (show _=_ from ks1)
   cases h
   exact aF Z Z Z
  refine jG (jC (jW h λg9 h=>oN (Pt.add Z Z g9) (oN mv (jA ?_))));exact lE h (kw Z Z)
 refine jM (lX h λh=>?_)
 cases h
 exact ⟨(),(),ks1,trivial,kw Z Z⟩
theorem vM (r_:LI) {q} (h:kg r_=some q):au Tryz.prog 174 [eL cI r_] (Bo q):=by
 refine pM Tryz.func174 Z (by kernel_rfl) Z (jI (oN as' (jA (jI (oN mv (oC h (λ_=>cE _) Z Z Z Z λv1 _ h=>oN mv ?_))))));refine TO.jB h 4 (λs2=>[(9,Bo s2)]) (λs2=>[]) (λs2 q3 h js2=>?_) (λs2 q3 h js2=>?_) (λs2 h=>?_)
 ·refine gN Z q3 mv (jB h λv4 cv4 h=>gN Z q3 (Pt.call Z Z Z (qx r_ cv4) Z) (jB h λv5 cv5 h=>gN Z q3 (Pt.call Z Z Z (m8 v4 cv5) Z) (oN (Pt.pickT Z q3 (Bo v5) Z) ?_)))
  cases h
  exact js2 _ _ (kw Z Z)
 ·refine gS Z q3 (gS Z q3 (gS Z q3 (oN (Pt.pickF Z q3 (Bo false) Z) ?_)))
  cases h
  exact js2 _ _ (kw Z Z)
 refine oN as' (jA (jK ?_))
 cases h
 exact aF Z Z Z
theorem rz (x:Int) {q} (h:ig x=some q):au Tryz.prog 218 [.v (.int .u64 x)] (I q):=by
 refine pM Tryz.func218 Z (by kernel_rfl) Z (jI (oN as' (jA (jI (oN mv (jD h λg1 h=>oN (Pt.shr Z Z g1) (oN (Pt.band Z Z) (oN mv (oN (Pt.band Z Z) (jW h λg2 h=>oN (Pt.add Z Z g2) (oN as' (jA (jI ?_)))))))))))));refine oN mv (jD h λg3 h=>oN (Pt.shr Z Z g3) (oN (Pt.band Z Z) (oN mv (oN (Pt.band Z Z) (jW h λg4 h=>oN (Pt.add Z Z g4) (oN as' (jA (jI (oN mv (jD h λg5 h=>oN (Pt.shr Z Z g5) (oN mv (jW h λg6 h=>?_))))))))))));refine jB h λw7 ew7 h=>?_;replace ew7:=osi ew7;refine oN (Pt.res (Pt.add Z Z g6) (r' := .v (.int .u64 w7)) (λ_ _ hr=>by rw [<- ew7];exact hr)) (oN (Pt.band Z Z) (oN as' (jA (jH (T.clean (H0:=[]) (e0:=ai [(0,.v (.int .u64 (eF .u64 w7 (1085102592571150095:Int))))]) Z (Ps Z Pq) (jC (oN mv (oN mv (jD h λg8 h=>oN (Pt.shr Z Z g8) (jW h λg9 h=>oN (Pt.add Z Z g9) (oN as' (jA (jI ?_)))))))))))));refine oN mv (oN mv (jD h λg10 h=>oN (Pt.shr Z Z g10) (jW h λg11 h=>oN (Pt.add Z Z g11) (oN as' (jA (jI (oN mv (oN mv (jD h λg12 h=>oN (Pt.shr Z Z g12) (jW h λg13 h=>oN (Pt.add Z Z g13) (oN as' ?_)))))))))));refine jA (jI (oN mv (jW h λg14 h=>oN (Pt.iconv OL.und Tryz.underlying3 Z g14) (oN (Pt.band Z Z) (oN as' (jA (jK ?_)))))))
 cases h
 exact aF Z Z Z
theorem sQ (x:Int) {q} (h:fw x=some q):au Tryz.prog 204 [.v (.int .u64 x)] (I q):=by
 refine pM Tryz.func204 Z (by kernel_rfl) Z (jI (oN as' (jA (jH ?_))));refine T.cond Z (λq=>absurd (q.symm.trans Z) (by decide)) (λ_=>?_);refine jG (jI (oN mv (oC h (λ_=>rz _) Z Z Z Z λv1 _ h=>oN as' (jA (jK ?_)))))
 cases h
 exact aF Z Z Z
theorem yu (r_:LI) {q} (h:mJ r_=some q):au Tryz.prog 176 [eL cI r_] (I q):=by
 refine pM Tryz.func176 Z (by kernel_rfl) Z (jI (oN as' (jA (jH (jI (oN mv (oC h (λ_=>cE _) Z Z Z Z λv1 _ h=>oN (Pt.not Z) (jA ?_))))))));refine jN Z h (λq2 h=>?_) (λq2 h=>?_)
 ·refine jI (oN as' (jA (jK ?_)))
  cases h
  exact aF Z Z Z
 refine jG (jI (oN as' (jA ?_)));refine T.jU h (λs3=>[(3,I s3)]) (λs3=>[]) (λs3 h=>?_) (λs3 h=>?_)
 ·refine jI (oN mv (oN as' (jA (jK ?_))))
  cases h
  exact aF Z Z Z
 refine jI (oN mv (oN (Pt.lenL aD Z) (oN mv (jA (jE ?_)))));refine T.lU h (λs6=>[(11,I s6.1),(10,I (r_.length:Int)),(9,eL cI r_),(3,I s6.2)]) (λs6=>[]) (kw Z Z) (λs6 ws6 h=>?_);refine jI (oN (Pt.ilt Z Z) (jA (jH ?_)));refine jN Z h (λq8 h=>?_) (λq8 h=>?_)
 ·refine jG (jH (jE (jI (jD h λg9 h=>oN (Pt.ixL aD Z Z g9 qD) (oN (lf (I (J r_ s6.1)) PL Z) (oN as' (jA (jC (oN mv (oN mv (jW h λg10 h=>oN (Pt.iconv PL.und Tryz.underlying131 Z g10) (oC h (λ_=>sQ _) Z Z Z Z λv11 _ h=>jW h λg12 h=>?_))))))))))));refine oN (Pt.add Z Z g12) (oN as' (jA (jC (jW h λg13 h=>oN (Pt.add Z Z g13) (oN mv (jA ?_))))));exact lE h (kw Z Z)
 refine jM (lX h λh=>?_)
 cases h
 exact ⟨(),trivial,kw Z Z⟩
theorem wU (kind:Int) (r_:LI) {q} (h:kX kind r_=some q):au Tryz.prog 119 [I kind,eL cI r_] (Bo q):=by
 refine pM Tryz.func119 Z (by kernel_rfl) Z (jI (oN as' (jA (jH (jI (oN mv (jA (jE (jI (oN (Pt.ieq Z Z) (oN as' (jA ?_))))))))))));refine jN Z h (λq1 h=>?_) (λq1 h=>?_)
 ·refine jI (oN mv (oC h (λ_=>vM _) Z Z Z Z λv2 _ h=>oN as' (jA (jK ?_))))
  cases h
  exact aF Z Z Z
 refine jI (oN (Pt.ieq Z Z) (oN as' (jA ?_)));refine jN Z h (λq3 h=>?_) (λq3 h=>?_)
 ·refine jI (oN mv (oC h (λ_=>m8 _) Z Z Z Z λv4 _ h=>oN as' (jA (jK ?_))))
  cases h
  exact aF Z Z Z
 refine jG (jI (oN mv (oC h (λ_=>yu _) Z Z Z Z λv5 _ h=>oN (Pt.ieq Z Z) (oN as' (jA (jK ?_))))))
 cases h
 exact aF Z Z Z
end
end Go.Proofs.YtpkhamajimidnaaGreatDoor
