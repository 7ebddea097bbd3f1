/- Texts joined. No conditions. -/
import Derived.Test.YtoagamanbofngaaGreatDoorc6
namespace Go.Proofs.YtoagamanbofngaaGreatDoor
noncomputable section
set_option linter.defProp false
open _root_.Inhabited renaming default -> aad
open _root_.Bool renaming true -> aae
open _root_.Bool renaming false -> aaf
open _root_.Option renaming some -> aag
open _root_.Go.Proofs.Tryz
open _root_.Go.Proofs.Tryz renaming prog -> aaj
open _root_.List renaming replicate -> afg,eq_nil_of_length_eq_zero -> afh,length_set -> afi,length_singleton -> afj
set_option maxHeartbeats 4000000
open Go.RowKit
set_option maxRecDepth 100000
attribute [local irreducible] T TO TF TG TX ZT EvA
instance Jm(x:Int):Ct aaj (kY x) 42 [I x] Bo:=ctp func42 λq h=>az h
instance vo(s:LI):Ct aaj (bz s) 89 [eL cI s,.fn (.func 42) []] I:=ctp func89 λq h=>by
 refine go h λ_ h=>?_;refine qS [] h (λs1 k=>k) (λs1 h=>?_) λKs1 ws1 h ks1=>?_
 .exact az h
 refine go h λ_ h=>?_;refine qU [7,0,1] h (λs4 k=>(8,I s4)::k) λs4 ws4 h=>?_;exact az h
instance tY(s:LI):Ct aaj (bg s) 41 [eL cI s,.fn (.func 42) []] Bo:=ctp func41 λq h=>az h
instance zz(p:List<|List ZW)(o_:LI):Ct aaj (dE p o_) 10 [eL (cL ZW.c) p,eL cI o_] Bo:=ctp func10 λq h=>az h
theorem pOf{P:Program}{g:FuncId}{aac:List AV}{w:Nat}{ty:TypeId}{α:Type}[Inhabited α]{f:α->List AV}{l:List α}(h:cN P g aac []<|KO w ty (λx=>x) l.length (l.map f) 0 [])(hF:∀x,(f x).all (isF 9)=aae):aF P g aac (eL f l):=
 aF.of ⟨h.1,λc vs hH hr ha=>(h.2 c vs hH hr ha).mono λ_ _ ⟨v,c',r0,e,hw,⟨_,_,hg,h2,h3⟩,i,x,u⟩=>⟨v,c',r0,e,hw,by rw[h2,h3];exact Fz.own rfl rfl rfl (λk=>List.length_eq_zero_iff.1<|hg k) hF,i,x,u⟩⟩
theorem rM(p:List<|List ZW)(o_:LI){q}(h:dE p o_=aag q):aF aaj 10 [eL (cL ZW.c) p,eL cI o_] (Bo q):=(zz p o_).c h
instance OL(op:Int):Ct aaj (om op) 154 [I op] (λq=>.tup [I q.1,St q.2.1,I q.2.2]):=ctp func154 λq h=>az h
instance D8(s:List BA)(v:BA):Ct aaj (cJ s v) 241 [eL cS s,St v] I:=ctp func241 λq h=>by
 refine go h λ_ h=>?_;refine qS [] h (λs1 k=>k) (λs1 h=>?_) λKs1 ws1 h ks1=>?_
 .exact az h
 refine go h λ_ h=>?_;refine qU [7,0,1] h (λs4 k=>(8,I s4)::k) λs4 ws4 h=>?_;exact az h
instance BZ(s:List BA)(v:BA):Ct aaj (dI s v) 197 [eL cS s,St v] Bo:=ctp func197 λq h=>az h
instance B0(name:BA):Ct aaj (gK name) 155 [St name] Bo:=ctp func155 λq h=>by
 refine go h λ_ h=>?_;refine oN (ZT.slG (c:=cS) Fq underlying205 ty9 Z Z Z Tv)<|gC h λv1 h=>?_;exact gz h
theorem Ca(name:BA){q}(h:gK name=aag q):aF aaj 155 [St name] (Bo q):=(B0 name).c h
theorem Dr:∀(nf:Nat)(e_:aa)(most:Int){q}(h:gL nf e_ most=aag q),aF aaj 91 [.agg (aa.c e_),I most] (I q):=by
 intro nf
 induction nf with
 |zero=>intros;rename_i h;cases h
 |succ nf ih=>
  intro e_ most q h;replace h:m5 (gL nf) e_ most=aag q:=h;refine pM func91 Z (by kernel_rfl) Z<|go h λ_ h=>?_;refine eF Z Z Z<|gC h λv1 h=>?_;refine qS [2,1] h (λs2 k=>k) (λs2 h=>?_) λKs2 ws2 h ks2=>?_
  .refine go h λ_ h=>?_;refine qV [] h (λs10 k=>(8,I s10)::k) (λs10 h=>?_) λs10 h=>?_
   .exact az h
   refine go h λ_ h=>?_;refine qU [48,47,1] h (λs13 k=>(49,I s13.1)::(8,I s13.2)::k) λs13 ws13 h=>?_;refine gy h λq15 h=>?_;refine go h λ_ h=>?_;refine gs h λ_ h=>?_;refine jD h λg16 h=>oN (ZT.res (ZT.ixL Je Z Z g16 ZTE.len) (r':=.fp (aa.c (J e_.Kids s13.1).out) 0) λ_ _ hr=>vP (ZTE.out_c _) hr)<|go h λ_ h=>?_;refine oC h (λ_=>ih _ _) Z Z Z Z λv18 _ h=>?_;exact az h
  refine qV [2,1] h (λs3 k=>(45,Bo s3)::k) (λs3 h=>?_) λs3 h=>?_
  .exact az h
  refine T.drawG (λ_=>([],aaf)) (by kernel_rfl) (by kernel_rfl)<|go h λ_ h=>?_;rcases DY h with⟨q4,h⟩|⟨q4,h⟩
  .exact az h
  refine gp h λ_ h=>?_;refine go h λ_ h=>?_;rcases DY h with⟨q5,h⟩|⟨q5,h⟩
  .exact az h
  refine go h λ_ h=>?_;refine jB h λv6 cv6 h=>tgN Z q5 Z (ZT.call Z Z Z (Ca e_.Name cv6) Z)<|tgN Z q5 Z (ZT.bne bt4 Z Z) ?_;refine gp h λ_ h=>?_;refine go h λ_ h=>?_;rcases DY h with⟨q7,h⟩|⟨q7,h⟩
  .exact az h
  refine go h λ_ h=>?_;rcases DY h with⟨q8,h⟩|⟨q8,h⟩
  .refine go h λ_ h=>?_;refine tgN Z q7 Z (ZT.pickT Z q8 (Bo<|!decide (e_.Name=(⟨#[]⟩:BA))) Z)<|gp h λ_ h=>?_;refine go h λ_ h=>?_
   cases h
   exact⟨(),trivial,Z9⟩
  refine go h λ_ h=>?_;refine tgN Z q7 Z (ZT.pickF Z q8 (Bo aaf) Z)<|gp h λ_ h=>?_;refine go h λ_ h=>?_
  cases h
  exact⟨(),trivial,Z9⟩
theorem Es(e_:aa)(most:Int){q}(h:vQ e_ most=aag q):aF aaj 91 [.agg (aa.c e_),I most] (I q):=by
 obtain⟨nf,h⟩:=nz h;exact Dr nf e_ most h
instance O6(e_:aa)(most:Int):Ct aaj (vQ e_ most) 91 [.agg (aa.c e_),I most] I:=⟨Es e_ most⟩
instance KE(e_:aa):Ct aaj (jh e_) 46 [.agg (aa.c e_)] Bo:=ctp func46 λq h=>az h
instance KG(r_:ah):Ct aaj (nB r_) 45 [.agg (ah.c r_)] Bo:=ctp func45 λq h=>az h
instance qF(s:List ah):Ct aaj (aQ s) 90 [eL ah.c s,.fn (.func 45) []] I:=ctp func90 λq h=>by
 refine go h λ_ h=>?_;refine qS [] h (λs1 k=>k) (λs1 h=>?_) λKs1 ws1 h ks1=>?_
 .exact az h
 refine go h λ_ h=>?_;refine qU [7,0,1] h (λs4 k=>(8,I s4)::k) λs4 ws4 h=>?_;exact az h
instance pJ(s:List ah):Ct aaj (aL s) 44 [eL ah.c s,.fn (.func 45) []] Bo:=ctp func44 λq h=>az h
instance Ba(m:List ah):Ct aaj (dJ m) 11 [eL ah.c m] Bo:=ctp func11 λq h=>az h
theorem uU(m:List ah){q}(h:dJ m=aag q):aF aaj 11 [eL ah.c m] (Bo q):=(Ba m).c h
theorem lN(p:List<|List ZW){q}(h:fD p=aag q):aF aaj 76 [eL (cL ZW.c) p] (eL ZY.c q):=by
 refine pM func76 Z (by kernel_rfl) Z<|jI ?_;refine gq h λ_ h=>?_;refine jH<|T.reserve ?_;refine go h λ_ h=>?_;refine kF (G:=(Bool×Nat)) [0] h (λs1 gh=>(gh.1=aae->s1=[])) (λs1 gh k=>(3,hS gh.1 0 gh.2 5 s1.length)::k) (λs1 gh=>[bE gh.1 gh.2 5 111 (s1.map ZY.c)]) (λs1 gh h n17=>?_) λs1 h=>?_
 .obtain⟨b16,u15⟩:=gh;refine T.jF (G:=(Bool×Nat)) h (λs18 gh=>(gh.1=aae->s18=[])) (λs18 gh=>[(3,hS gh.1 0 gh.2 5 s18.length)]) (λs18 gh=>[bE gh.1 gh.2 5 111 (s18.map ZY.c)]) (λs18 gh h n59=>?_) λs18 h=>?_
  .exact az h
  refine go h λ_ h=>?_;refine kL [20,19] h (b16,u15) (λs24 gh=>(gh.1=aae->s24.1=[])) (λs24 gh k=>(21,I s24.2)::(3,hS gh.1 0 gh.2 5 s24.1.length)::k) (λs24 gh=>[bE gh.1 gh.2 5 111 (s24.1.map ZY.c)]) n17 λs24 gh ws24 h n28=>?_;obtain⟨b27,u26⟩:=gh;refine gy h λq29 h=>?_;refine go h λ_ h=>?_;refine kF (G:=(Bool×Nat)) [21,20,19] h (λs30 gh=>(gh.1=aae->s30=[])) (λs30 gh k=>(3,hS gh.1 0 gh.2 5 s30.length)::k) (λs30 gh=>[bE gh.1 gh.2 5 111 (s30.map ZY.c)]) (λs30 gh h n55=>?_) λs30 h=>?_
  .exact az h
  refine go h λ_ h=>?_;refine kL [27,26,5,21,20,19] h (b27,u26) (λs37 gh=>(gh.1=aae->s37.1=[])) (λs37 gh k=>(28,I s37.2)::(3,hS gh.1 0 gh.2 5 s37.1.length)::k) (λs37 gh=>[bE gh.1 gh.2 5 111 (s37.1.map ZY.c)]) n28 λs37 gh ws37 h n41=>?_;obtain⟨b40,u39⟩:=gh;refine gy h λq42 h=>?_;refine go h λ_ h=>?_;refine kF (G:=(Bool×Nat)) [28,27,26,5,21,20,19] h (λs43 gh=>(gh.1=aae->s43=[])) (λs43 gh k=>(3,hS gh.1 0 gh.2 5 s43.length)::k) (λs43 gh=>[bE gh.1 gh.2 5 111 (s43.map ZY.c)]) (λs43 gh h n51=>?_) λs43 h=>?_
  .exact az h
  refine gy h λq45 h=>?_;refine jP (dG [dF,dF,dF,dF,([1],aaf),([1],aaf),dF,([1],aaf),dF,dF,dF,([0],aae),dF]) (by kernel_rfl) (by kernel_rfl)<|gC h λv46 h=>?_;refine gC h λv47 h=>?_;refine fN Z (ZT.mkF (c:=ZY.c) ([(⟨s24.2,s37.2,(J (J p s24.2) s37.2).Loc,v46,v47⟩:ZY)]:List ZY) [[I s24.2,I s37.2,I ((J (J p s24.2) s37.2).Loc),Bo v46,Bo v47]] Kq Z Z Z qE ZY.isF Z)<|jL h λg48 h=>fW 0 [] Z Z (λG hG=>EvA.app1 (g:=b40) (l:=s37.1) (⟨s24.2,s37.2,(J (J p s24.2) s37.2).Loc,v46,v47⟩:ZY) Kq (by kernel_rfl) Z Z (hG.a0 Z) n41 (bH.fz (l:=([(⟨s24.2,s37.2,(J (J p s24.2) s37.2).Loc,v46,v47⟩:ZY)]:List ZY)) Z qE) g48) ?_;refine go h λ_ h=>?_
  cases h
  exact⟨(aaf,u39+1),nofun,Z9⟩
 refine go h λ_ h=>?_;refine kL [0] h (aae,0) (λs7 gh=>(gh.1=aae->s7.1=[])) (λs7 gh k=>(9,I s7.2)::(3,hS gh.1 0 gh.2 5 s7.1.length)::k) (λs7 gh=>[bE gh.1 gh.2 5 111 (s7.1.map ZY.c)]) qE λs7 gh ws7 h n11=>?_;obtain⟨b10,u9⟩:=gh;refine gy h λq12 h=>?_;refine go h λ_ h=>?_;refine gs h λ_ h=>?_;refine oN (ZT.mkF (c:=ZY.c) ([(⟨(-1:Int),s7.2,s7.2,aaf,aae⟩:ZY)]:List ZY) [[I (-1:Int),I s7.2,I s7.2,Bo aaf,Bo aae]] Kq Z Z Z qE ZY.isF Z)<|go h λ_ h=>?_;obtain rfl:=ZV h;exact⟨((s7.1++[(⟨(-1:Int),s7.2,s7.2,aaf,aae⟩:ZY)]),(s7.2+V)),(aaf,u9+1),Z,nofun,Z9⟩
instance Sq(p:List<|List ZW):Ct aaj (fD p) 76 [eL (cL ZW.c) p] (eL ZY.c):=⟨lN p⟩
theorem uV(list:List ZY)(loc:Int){q}(h:dc list loc=aag q):cN aaj 93 [eL ZY.c list,I loc] [] (KO 1 3 (λx=>x) q.length (q.map cI) 0 []):=by
 refine cN.mkO func93 Z (by kernel_rfl) Z (by kernel_rfl) (e0:=ak [(0,eL ZY.c list),(1,I loc)]) (ZR Z<|ZR Z ZQ) sF (nA qE)<|jI ?_;refine gq h λ_ h=>?_;refine jH<|T.reserve ?_;refine go h λ_ h=>?_;refine T.jF (G:=(Bool×Nat)) h (λs1 gh=>(gh.1=aae->s1=[])) (λs1 gh=>[(5,hS gh.1 0 gh.2 1 s1.length)]) (λs1 gh=>[bE gh.1 gh.2 1 3 (s1.map cI)]) (λs1 gh h n25=>?_) λs1 h=>?_
 .obtain⟨b24,u23⟩:=gh;refine go h λ_ h=>?_;obtain rfl:=ZV h
  repeat (first|refine pG ?_|refine pI ?_)
  exact jQ (vs:=[hS b24 0 u23 1 s1.length]) (.cons (.tmp Z) .nil) ⟨0,b24,u23,(vO n25 Z),Z,ownB Z⟩
 refine go h λ_ h=>?_;refine kL [9,8,1] h (aae,0) (λs7 gh=>(gh.1=aae->s7.1=[])) (λs7 gh k=>(10,I s7.2)::(5,hS gh.1 0 gh.2 1 s7.1.length)::k) (λs7 gh=>[bE gh.1 gh.2 1 3 (s7.1.map cI)]) qE λs7 gh ws7 h n11=>?_;obtain⟨b10,u9⟩:=gh;refine gy h λq12 h=>?_;refine go h λ_ h=>?_;refine kF (G:=(Bool×Nat)) [10,9,8,1] h (λs13 gh=>(gh.1=aae->s13=[])) (λs13 gh k=>(5,hS gh.1 0 gh.2 1 s13.length)::k) (λs13 gh=>[bE gh.1 gh.2 1 3 (s13.map cI)]) (λs13 gh h n21=>?_) λs13 h=>?_
 .exact az h
 refine go h λ_ h=>?_;refine gB [6,10,9,8,5,1] h 5 (λs15 k=>(22,Bo s15)::k) λs15 h=>?_;refine gy h λq17 h=>?_;refine gk h λ_ _ h=>?_
 cases h
 exact⟨(aaf,u9+1),nofun,Z9⟩
theorem pE(list:List ZY)(loc:Int){q}(h:dc list loc=aag q):aF aaj 93 [eL ZY.c list,I loc] (eL cI q):=pOf (uV list loc h) λ_=>rfl
instance Md(k_:Int)(a1:Int):Ct aaj (iO k_ a1) 114 [I k_,.fp (cI a1) 0] Bo:=ctp func114 λq h=>az h
instance iZ(s:LI)(f0:Int):Ct aaj (aX s f0) 89 [eL cI s,.fn (.func 114) [.fp (cI f0) 0]] I:=ctp func89 λq h=>by
 refine go h λ_ h=>?_;refine qS [] h (λs1 k=>k) (λs1 h=>?_) λKs1 ws1 h ks1=>?_
 .exact az h
 refine go h λ_ h=>?_;refine qU [7,0,1] h (λs4 k=>(8,I s4)::k) λs4 ws4 h=>?_;exact az h
theorem i9(s:LI)(f0:Int){q}(h:aX s f0=aag q):aF aaj 89 [eL cI s,.fn (.func 114) [.fp (cI f0) 0]] (I q):=(iZ s f0).c h
theorem iH(s:LI)(del0:Int)(gw:Bool)(aW:Nat)(hgw:gw=aae->s=[]){q}(h:aU s del0=aag q):cN aaj 113 [hS gw 0 aW 1 s.length,.fn (.func 114) [.fp (cI del0) 0]] [bE gw aW 1 3 (s.map cI)] (KO 1 3 (λx=>x) q.length (q.map cI) 0 []):=by
 refine cN.mkS func113 Z (by kernel_rfl) Z (by kernel_rfl) (e0:=ak [(0,hS gw 0 aW 1 s.length),(1,.fn (.func 114) [.fp (cI del0) 0])]) (ZR Z<|ZR Z ZQ)<|go h λ_ h=>?_;refine jB h λv1 cv1 h=>oA (EvA.callT Z Z (i9 s del0 cv1) (.cons (Fz.own (g:=gw) (ver:=aW) (l:=s) Z Z Z hgw qE)<|.cons (qD Z) .nil) Z)<|go h λ_ h=>?_;refine gsi h (λ_ q2 h=>?_) λ_ q2 h=>?_
 .refine go h λ_ h=>?_;obtain rfl:=ZV h
  repeat (first|refine pG ?_|refine pI ?_)
  exact⟨ak [(4,hS gw 0 aW 1 s.length)],[bE gw aW 1 3 (s.map cI)],Z9,jQ (vs:=[hS gw 0 aW 1 s.length]) (.cons (.tmp Z) .nil) ⟨gw,aW,(vO hgw Z),Z,Z⟩⟩
 refine go h λ_ h=>?_;refine T.jF (G:=(Bool×Nat)) h (λs3 gh=>(gh.1=aae->s3.1=[])) (λs3 gh=>[(5,I s3.2),(0,hS gh.1 0 gh.2 1 s3.1.length)]) (λs3 gh=>[bE gh.1 gh.2 1 3 (s3.1.map cI)]) (λs3 gh h n26=>?_) λs3 h=>?_
 .obtain⟨b25,u24⟩:=gh;refine go h λ_ h=>?_;refine jD h λg27 h=>?_;obtain rfl:=HM n26 rfl g27;refine jD h λg28 h=>oN (ZT.slhs underlying25 Z8 (l:=s3.2) (h:=(s3.1.length:Int)) Z (.yes Z) .no g28)<|oV (EvA.clearO (l:=s3.1) iq zrE Z Z<|Qh (l:=s3.1) g28 Z) ?_;refine go h λ_ h=>?_;refine jD h λg29 h=>oA (EvA.cutO (l:=(cpy s3.1 (0+s3.2.toNat) (afg ((s3.1.length:Int).toNat-s3.2.toNat) (aad:Int))<|(s3.1.length:Int).toNat-s3.2.toNat)) (zl:=(0:Int)) (zh:=s3.2) (ZT.slhs underlying25 Z8 (l:=(0:Int)) (h:=s3.2) Z .no (.yes Z) g29) Z (by simp[CM]) g29)<|go h λ_ h=>?_;obtain rfl:=ZV h
  repeat (first|refine pG ?_|refine pI ?_)
  exact⟨ak [(4,hS aaf 0 (u24+1) 1<|(((cpy s3.1 (0+s3.2.toNat) (afg ((s3.1.length:Int).toNat-s3.2.toNat) (aad:Int))<|(s3.1.length:Int).toNat-s3.2.toNat).drop U.toNat).take<|s3.2.toNat-U.toNat).length)],[bE aaf (u24+1) 1 3 ((((cpy s3.1 (0+s3.2.toNat) (afg ((s3.1.length:Int).toNat-s3.2.toNat) (aad:Int))<|(s3.1.length:Int).toNat-s3.2.toNat).drop U.toNat).take<|s3.2.toNat-U.toNat).map cI)],Z9,jQ (vs:=[hS aaf 0 (u24+1) 1 ((((cpy s3.1 (0+s3.2.toNat) (afg ((s3.1.length:Int).toNat-s3.2.toNat) (aad:Int))<|(s3.1.length:Int).toNat-s3.2.toNat).drop U.toNat).take<|s3.2.toNat-U.toNat).length)]) (.cons (.tmp Z) .nil) ⟨aaf,u24+1,nofun,Z,Z⟩⟩
 refine go h λ_ h=>?_;refine kL [1] h (gw,aW) (λs10 gh=>(gh.1=aae->s10.1=[])) (λs10 gh k=>(6,I s10.2.1)::(5,I s10.2.2)::(0,hS gh.1 0 gh.2 1 s10.1.length)::k) (λs10 gh=>[bE gh.1 gh.2 1 3 (s10.1.map cI)]) hgw λs10 gh ws10 h n14=>?_;obtain⟨b13,u12⟩:=gh;refine gy h λq15 h=>?_;refine go h λ_ h=>?_;refine kJ [6,1] h (λs16 gh k=>(5,I s16.2)::(0,hS aaf 0 gh 1 s16.1.length)::k) (λs16 gh=>[bE aaf gh 1 3 (s16.1.map cI)]) (λs16 u22 h=>?_) λs16 h=>?_
 .refine go h λ_ h=>?_;obtain rfl:=ZV h;exact⟨(s16.1,(s10.2.1+V),s16.2),(aaf,u22),Z,nofun,Z9⟩
 refine go h λ_ h=>?_;refine jD h λg17 h=>?_;obtain rfl:=HM n14 rfl g17;refine gC h λv18 h=>?_;refine gy h λq19 h=>?_;refine go h λf h=>?_;obtain⟨g20,_⟩:=f;refine oV (EvA.stO (g:=false) (l:=s10.1) (cs:=[I (J s10.1 s10.2.1)]) (J s10.1 s10.2.1) Z8 Z Z Z nofun (aS Z g20) Z Z Z)<|go h λ_ h=>?_
 cases h
 exact⟨u12,trivial,stW⟩
instance Ip(s:LI):Ct aaj (aH s) 94 [eL cI s] (eL cI):=ctp func94 λq h=>by
 refine go h λ_ h=>?_;refine gs h λ_ h=>?_;refine YB aaf underlying25 Z Z (λz1=>?_) ?_
 .replace h:=(CK h).1 (by rw[z1];rfl);refine go h λ_ h=>?_;refine T.cond Z (λ_=>?_) λq=>absurd (q.symm.trans Z) (by decide);refine go h λ_ h=>?_;obtain rfl:=ZV h
  repeat (first|refine pG ?_|refine pI ?_)
  exact jQ (vs:=[.nil]) (.cons (.tmp Z) .nil) .nil0
 replace h:=(CK h).2;refine go h λ_ h=>?_;refine T.cond Z (λq=>absurd (q.symm.trans Z)<|by decide) λ_=>?_;refine go h λ_ h=>?_;refine oA (EvA.mkO (c:=cI) ([]:LI) [] iq Z Z Z qE Z Z) ?_;exact gf h
theorem dX(s:LI){q}(h:aH s=aag q):cN aaj 94 [eL cI s] [] (KO 1 3 (λx=>x) q.length (q.map cI) 0 []):=by
 refine cN.mkO func94 Z (by kernel_rfl) Z (by kernel_rfl) (e0:=ak [(0,eL cI s)]) (ZR Z ZQ) sF (nA qE)<|go h λ_ h=>?_;refine gs h λ_ h=>?_;refine YB aaf underlying25 Z Z (λz1=>?_) ?_
 .replace h:=(CK h).1 (by rw[z1];rfl);refine go h λ_ h=>?_;refine T.cond Z (λ_=>?_) λq=>absurd (q.symm.trans Z) (by decide);refine go h λ_ h=>?_;obtain rfl:=ZV h
  repeat (first|refine pG ?_|refine pI ?_)
  exact jQ (vs:=[.nil]) (.cons (.tmp Z) .nil) ⟨0,aae,0,λ_=>Z,Z,nofun⟩
 replace h:=(CK h).2;refine go h λ_ h=>?_;refine T.cond Z (λq=>absurd (q.symm.trans Z)<|by decide) λ_=>?_;refine go h λ_ h=>?_;refine oA (EvA.mkO (c:=cI) ([]:LI) [] iq Z Z Z qE Z Z)<|go h λ_ h=>?_;obtain rfl:=ZV h
 repeat (first|refine pG ?_|refine pI ?_)
 exact jQ (vs:=[hS aaf 0 (0+1) 1 ((([]:LI)++s).length)]) (.cons (.tmp Z) .nil) ⟨0,aaf,0+1,nofun,Z,ownB Z⟩
theorem Et:∀(nf:Nat)(writes:LI){q}(h:lc nf writes=aag q),aF aaj 115 [eL cI writes] (eL (cL cI) q):=by
 intro nf
 induction nf with
 |zero=>intros;rename_i h;cases h
 |succ nf ih=>
  intro writes q h;replace h:iP (lc nf) writes=aag q:=h;refine pM func115 Z (by kernel_rfl) Z<|go h λ_ h=>?_;refine gsi h (λ_ q1 h=>?_) λ_ q1 h=>?_
  .refine go h λ_ h=>?_;refine oN (ZT.mkF0 (f:=cI) wo Z Z Z) ?_;exact gz h
  refine jG<|jH<|T.reserve ?_;refine go h λ_ h=>?_;refine T.jF (G:=(Bool×Nat)) h (λs2 gh=>(gh.1=aae->s2=[])) (λs2 gh=>[(3,hS gh.1 0 gh.2 1 s2.length)]) (λs2 gh=>[bE gh.1 gh.2 1 25 (s2.map<|cL cI)]) (λs2 gh h n47=>?_) λs2 h=>?_
  .exact az h
  refine go h λ_ h=>?_;refine kL [13,12,0] h (aae,0) (λs8 gh=>(gh.1=aae->s8.1=[])) (λs8 gh k=>(14,I s8.2)::(3,hS gh.1 0 gh.2 1 s8.1.length)::k) (λs8 gh=>[bE gh.1 gh.2 1 25 (s8.1.map<|cL cI)]) qE λs8 gh ws8 h n12=>?_;let d0:=writes.getD s8.2.toNat aad;obtain⟨b11,u10⟩:=gh;refine gy h λq13 h=>?_;refine go h λ_ h=>?_;refine kF (G:=(Bool×Nat)) [14,13,12,0] h (λs14 gh=>(gh.1=aae->s14=[])) (λs14 gh k=>(3,hS gh.1 0 gh.2 1 s14.length)::k) (λs14 gh=>[bE gh.1 gh.2 1 25 (s14.map<|cL cI)]) (λs14 gh h n43=>?_) λs14 h=>?_
  .exact az h
  refine go h λ_ h=>?_;refine jB h λv16 cv16 h=>?_;refine oG Z Z Z ((dX writes cv16).own Z (nA qE) sF 1 Z) λg17 v18 n19=>?_;refine go h λ_ h=>?_;refine jB h λv21 cv21 h=>?_;refine oGW Z Z (Dq v16 s8.2 (s8.2+V) g17 v18 (λx=>afh<|n19 x) cv21) Z (.cons (kz Z)<|.cons (.pF Z)<|.cons (.pF Z) .nil) (nA qE) (nA qE) sF λg22 v23 n24=>?_;refine TO.cut (e0:=ak [(24,eL cI v21),(5,I d0),(14,I s8.2),(13,I (writes.length:Int)),(12,eL cI writes),(3,hS b11 0 u10 1 s8.1.length),(0,eL cI writes)]) (H0:=[bE b11 u10 1 25 (s8.1.map<|cL cI)]) (qH Z (.cons (.list (g:=b11) (ver:=u10) (l:=s8.1) qE) .nil)<|ai (.fz<|Fz.own (g:=g22) (ver:=v23) (l:=v21) Z Z Z (λx=>afh<|n24 x) qE)<|ai (.fz<|qD Z)<|ai (.fz<|qD Z)<|ai (.fz<|qD Z)<|ai (.fz<|qD Z)<|ai (.hS (g:=b11) (b:=0) (ver:=u10) (s:=1) (n:=s8.1.length) Z)<|ai (.fz<|qD Z) aO)<|oC h (λ_=>ih _) Z Z Z Z λv25 _ h=>?_;refine go h λ_ h=>?_;refine kL [26,25,5,14,13,12,0] h (b11,u10) (λs31 gh=>(gh.1=aae->s31.1=[])) (λs31 gh k=>(27,I s31.2)::(3,hS gh.1 0 gh.2 1 s31.1.length)::k) (λs31 gh=>[bE gh.1 gh.2 1 25 (s31.1.map<|cL cI)]) n12 λs31 gh ws31 h n35=>?_;obtain⟨b34,u33⟩:=gh;refine gy h λq36 h=>?_;refine go h λ_ h=>?_;refine gs h λ_ h=>?_;refine oA (EvA.mkO (c:=cI) ([d0]:LI) [[I d0]] iq Z Z Z qE Z Z)<|go h λ_ h=>?_;refine oA (EvA.mkR [[hS aaf 1 (0+1) 1 ((([d0]:LI)++(J v25 s31.2)).length)]] wo Z Z Z Z)<|jL h λg39 h=>oA (EvA.appR (g:=b34) (rows:=s31.1.map<|cL cI) (rows':=s31.1.map (cL cI)++[[hS aaf 1 (0+1) 1 ((([d0]:LI)++(J v25 s31.2)).length)]]) (n':=s31.1.length+1) wo (by kernel_rfl) Z Z (by simp) (λq=>by first|(rw[n35 q];rfl)|(cases q)) (bH.raw (rows:=[[hS aaf 1 (0+1) 1 ((([d0]:LI)++(J v25 s31.2)).length)]]) Z Z Z) g39 Z Z) ?_;refine gq h λ_ h=>?_;refine T.cut (e0:=ak [(3,hS aaf 0 (u33+1) 1<|(s31.1++[(([d0]:LI)++(J v25 s31.2))]).length),(27,I s31.2),(26,I (v25.length:Int)),(25,eL (cL cI) v25),(5,I d0),(14,I s8.2),(13,I (writes.length:Int)),(12,eL cI writes),(0,eL cI writes)]) (H0:=[bE aaf (u33+1) 1 25 ((s31.1++[(([d0]:LI)++(J v25 s31.2))]).map<|cL cI)]) (qH Z (.cons (.snoc qE<|.cons (.cons (.fz<|Fz.own (g:=false) (ver:=0+1) (l:=(([d0]:LI)++(J v25 s31.2))) Z Z Z nofun qE) .nil) .nil) .nil)<|ai (.eqv (congrArg (hS aaf 0 (u33+1) 1) (by simp:(s31.1.length+1)=(s31.1++[(([d0]:LI)++(J v25 s31.2))]).length))<|.hS (g:=false) (b:=0) (ver:=u33+1) (s:=1) (n:=(s31.1++[(([d0]:LI)++(J v25 s31.2))]).length) Z)<|ai (.fz<|qD Z)<|ai (.fz<|qD Z)<|ai (.fz<|qD Z)<|ai (.fz<|qD Z)<|ai (.fz<|qD Z)<|ai (.fz<|qD Z)<|ai (.fz<|qD Z)<|ai (.fz<|qD Z) aO)<|go h λ_ h=>?_;obtain rfl:=ZV h;exact⟨((s31.1++[(([d0]:LI)++(J v25 s31.2))]),(s31.2+V)),(aaf,u33+1),Z,nofun,Z9⟩
theorem Gq(writes:LI){q}(h:xb writes=aag q):aF aaj 115 [eL cI writes] (eL (cL cI) q):=by
 obtain⟨nf,h⟩:=nz h;exact Et nf writes h
instance Ac(choices:LL):Ct aaj (gZ choices) 116 [eL (cL cI) choices] (eL<|cL cI):=ctp func116 λq h=>by
 refine go h λ_ h=>?_;refine oN (ZT.mkF0 (f:=cI) wo Z Z Z)<|go h λ_ h=>?_;refine qV [] h (λs1 k=>(3,eL (cL cI) s1)::k) (λs1 h=>?_) λs1 h=>?_
 .exact az h
 refine go h λ_ h=>?_;refine qU [13,12] h (λs4 k=>(14,I s4.1)::(3,eL (cL cI) s4.2)::k) λs4 ws4 h=>?_;refine gy h λq6 h=>?_;refine go h λ_ h=>?_;refine qV [14,13,12] h (λs7 k=>(3,eL (cL cI) s7)::k) (λs7 h=>?_) λs7 h=>?_
 .exact az h
 refine jE<|jI ?_;refine gq h λ_ h=>?_;refine jH<|T.reserve ?_;refine go h λ_ h=>?_;refine kF (G:=(Bool×Nat)) [14,13,12] h (λs9 gh=>(gh.1=aae->s9=[])) (λs9 gh k=>(6,hS gh.1 0 gh.2 1 s9.length)::k) (λs9 gh=>[bE gh.1 gh.2 1 25 (s9.map<|cL cI)]) (λs9 gh h n48=>?_) λs9 h=>?_
 .exact az h
 refine go h λ_ h=>?_;refine kL [19,18,5,14,13,12] h (aae,0) (λs15 gh=>(gh.1=aae->s15.1=[])) (λs15 gh k=>(20,I s15.2)::(6,hS gh.1 0 gh.2 1 s15.1.length)::k) (λs15 gh=>[bE gh.1 gh.2 1 25 (s15.1.map<|cL cI)]) qE λs15 gh ws15 h n19=>?_;obtain⟨b18,u17⟩:=gh;refine gy h λq20 h=>?_;refine go h λ_ h=>?_;refine kF (G:=(Bool×Nat)) [20,19,18,5,14,13,12] h (λs21 gh=>(gh.1=aae->s21=[])) (λs21 gh k=>(6,hS gh.1 0 gh.2 1 s21.length)::k) (λs21 gh=>[bE gh.1 gh.2 1 25 (s21.map<|cL cI)]) (λs21 gh h n44=>?_) λs21 h=>?_
 .exact az h
 refine go h λ_ h=>?_;refine kL [25,24,8,20,19,18,5,14,13,12] h (b18,u17) (λs28 gh=>(gh.1=aae->s28.1=[])) (λs28 gh k=>(26,I s28.2)::(6,hS gh.1 0 gh.2 1 s28.1.length)::k) (λs28 gh=>[bE gh.1 gh.2 1 25 (s28.1.map<|cL cI)]) n19 λs28 gh ws28 h n32=>?_;obtain⟨b31,u30⟩:=gh;refine gy h λq33 h=>?_;refine go h λ_ h=>?_;refine gs h λ_ h=>?_;refine jB h λv35 cv35 h=>?_;refine oG Z Z Z ((dX (J s4.2 s15.2) cv35).own Z (nA qE) sF 1 Z) λg36 v37 n38=>?_;refine gk h λ_ _ h=>?_;refine oA (EvA.mkR [[hS aaf 1 (v37+1) 1 ((v35++[(J (J choices s4.1) s28.2)]).length)]] wo Z Z Z Z)<|jL h λg40 h=>oA (EvA.appR (g:=b31) (rows:=s28.1.map<|cL cI) (rows':=s28.1.map (cL cI)++[[hS aaf 1 (v37+1) 1 ((v35++[(J (J choices s4.1) s28.2)]).length)]]) (n':=s28.1.length+1) wo (by kernel_rfl) Z Z (by simp) (λq=>by first|(rw[n32 q];rfl)|(cases q)) (bH.raw (rows:=[[hS aaf 1 (v37+1) 1 ((v35++[(J (J choices s4.1) s28.2)]).length)]]) Z Z Z) g40 Z Z) ?_;refine gq h λ_ h=>?_;refine T.cut (e0:=ak [(6,hS aaf 0 (u30+1) 1<|(s28.1++[(v35++[(J (J choices s4.1) s28.2)])]).length),(26,I s28.2),(25,I ((J choices s4.1).length:Int)),(24,eL cI<|J choices s4.1),(8,eL cI<|J s4.2 s15.2),(20,I s15.2),(19,I (s4.2.length:Int)),(18,eL (cL cI) s4.2),(5,eL cI<|J choices s4.1),(14,I s4.1),(13,I (choices.length:Int)),(12,eL (cL cI) choices)]) (H0:=[bE aaf (u30+1) 1 25 ((s28.1++[(v35++[(J (J choices s4.1) s28.2)])]).map<|cL cI)]) (qH Z (.cons (.snoc qE<|.cons (.cons (.fz<|Fz.own (g:=false) (ver:=v37+1) (l:=(v35++[(J (J choices s4.1) s28.2)])) Z Z Z nofun qE) .nil) .nil) .nil)<|ai (.eqv (congrArg (hS aaf 0 (u30+1) 1) (by simp:(s28.1.length+1)=(s28.1++[(v35++[(J (J choices s4.1) s28.2)])]).length))<|.hS (g:=false) (b:=0) (ver:=u30+1) (s:=1) (n:=(s28.1++[(v35++[(J (J choices s4.1) s28.2)])]).length) Z)<|ai (.fz<|qD Z)<|ai (.fz<|qD Z)<|ai (.fz<|qD Z)<|ai (.fz<|qD Z)<|ai (.fz<|qD Z)<|ai (.fz<|qD Z)<|ai (.fz<|qD Z)<|ai (.fz<|qD Z)<|ai (.fz<|qD Z)<|ai (.fz<|qD Z)<|ai (.fz<|qD Z) aO)<|go h λ_ h=>?_;obtain rfl:=ZV h;exact⟨((s28.1++[(v35++[(J (J choices s4.1) s28.2)])]),(s28.2+V)),(aaf,u30+1),Z,nofun,Z9⟩
theorem Ad(choices:LL){q}(h:gZ choices=aag q):aF aaj 116 [eL (cL cI) choices] (eL (cL cI) q):=(Ac choices).c h
theorem Cb(s:LL){q}(h:oq s=aag q):cN aaj 183 [eL (cL cI) s] [] (KO 1 25 (λx=>x) q.length (q.map<|cL cI) 0 []):=by
 refine cN.mkO func183 Z (by kernel_rfl) Z (by kernel_rfl) (e0:=ak [(0,eL (cL cI) s)]) (ZR Z ZQ) sF (nA qE)<|go h λ_ h=>?_;refine gs h λ_ h=>?_;refine YB aaf underlying28 Z Z (λz1=>?_) ?_
 .replace h:=(CK h).1 (by rw[z1];rfl);refine go h λ_ h=>?_;refine T.cond Z (λ_=>?_) λq=>absurd (q.symm.trans Z) (by decide);refine go h λ_ h=>?_;obtain rfl:=ZV h
  repeat (first|refine pG ?_|refine pI ?_)
  exact jQ (vs:=[.nil]) (.cons (.tmp Z) .nil) ⟨0,aae,0,λ_=>Z,Z,nofun⟩
 replace h:=(CK h).2;refine go h λ_ h=>?_;refine T.cond Z (λq=>absurd (q.symm.trans Z)<|by decide) λ_=>?_;refine go h λ_ h=>?_;refine oA (EvA.mkO (c:=(cL cI)) ([]:LL) [] wo Z Z Z qE Z Z)<|go h λ_ h=>?_;obtain rfl:=ZV h
 repeat (first|refine pG ?_|refine pI ?_)
 exact jQ (vs:=[hS aaf 0 (0+1) 1 ((([]:LL)++s).length)]) (.cons (.tmp Z) .nil) ⟨0,aaf,0+1,nofun,Z,ownB Z⟩
instance Dt(choices:List<|LL):Ct aaj (iQ choices) 117 [eL (cL<|cL cI) choices] (eL<|cL<|cL cI):=ctp func117 λq h=>by
 refine go h λ_ h=>?_;refine oN (ZT.mkF0 (f:=(cL cI)) Kr Z Z Z)<|go h λ_ h=>?_;refine qV [] h (λs1 k=>(3,eL (cL<|cL cI) s1)::k) (λs1 h=>?_) λs1 h=>?_
 .exact az h
 refine go h λ_ h=>?_;refine qU [13,12] h (λs4 k=>(14,I s4.1)::(3,eL (cL<|cL cI) s4.2)::k) λs4 ws4 h=>?_;refine gy h λq6 h=>?_;refine go h λ_ h=>?_;refine qV [14,13,12] h (λs7 k=>(3,eL (cL<|cL cI) s7)::k) (λs7 h=>?_) λs7 h=>?_
 .exact az h
 refine jE<|jI ?_;refine gq h λ_ h=>?_;refine jH<|T.reserve ?_;refine go h λ_ h=>?_;refine kF (G:=(Bool×Nat)) [14,13,12] h (λs9 gh=>(gh.1=aae->s9=[])) (λs9 gh k=>(6,hS gh.1 0 gh.2 1 s9.length)::k) (λs9 gh=>[bE gh.1 gh.2 1 28 (s9.map<|cL<|cL cI)]) (λs9 gh h n48=>?_) λs9 h=>?_
 .exact az h
 refine go h λ_ h=>?_;refine kL [19,18,5,14,13,12] h (aae,0) (λs15 gh=>(gh.1=aae->s15.1=[])) (λs15 gh k=>(20,I s15.2)::(6,hS gh.1 0 gh.2 1 s15.1.length)::k) (λs15 gh=>[bE gh.1 gh.2 1 28 (s15.1.map<|cL<|cL cI)]) qE λs15 gh ws15 h n19=>?_;obtain⟨b18,u17⟩:=gh;refine gy h λq20 h=>?_;refine go h λ_ h=>?_;refine kF (G:=(Bool×Nat)) [20,19,18,5,14,13,12] h (λs21 gh=>(gh.1=aae->s21=[])) (λs21 gh k=>(6,hS gh.1 0 gh.2 1 s21.length)::k) (λs21 gh=>[bE gh.1 gh.2 1 28 (s21.map<|cL<|cL cI)]) (λs21 gh h n44=>?_) λs21 h=>?_
 .exact az h
 refine go h λ_ h=>?_;refine kL [25,24,8,20,19,18,5,14,13,12] h (b18,u17) (λs28 gh=>(gh.1=aae->s28.1=[])) (λs28 gh k=>(26,I s28.2)::(6,hS gh.1 0 gh.2 1 s28.1.length)::k) (λs28 gh=>[bE gh.1 gh.2 1 28 (s28.1.map<|cL<|cL cI)]) n19 λs28 gh ws28 h n32=>?_;obtain⟨b31,u30⟩:=gh;refine gy h λq33 h=>?_;refine go h λ_ h=>?_;refine gs h λ_ h=>?_;refine jB h λv35 cv35 h=>?_;refine oG Z Z Z ((Cb (J s4.2 s15.2) cv35).own Z (nA qE) sF 1 Z) λg36 v37 n38=>?_;refine gk h λ_ _ h=>?_;refine oA (EvA.mkR [[hS aaf 1 (v37+1) 1 ((v35++[(J (J choices s4.1) s28.2)]).length)]] Kr Z Z Z Z)<|jL h λg40 h=>oA (EvA.appR (g:=b31) (rows:=s28.1.map<|cL<|cL cI) (rows':=s28.1.map (cL<|cL cI)++[[hS aaf 1 (v37+1) 1 ((v35++[(J (J choices s4.1) s28.2)]).length)]]) (n':=s28.1.length+1) Kr (by kernel_rfl) Z Z (by simp) (λq=>by first|(rw[n32 q];rfl)|(cases q)) (bH.raw (rows:=[[hS aaf 1 (v37+1) 1 ((v35++[(J (J choices s4.1) s28.2)]).length)]]) Z Z Z) g40 Z Z) ?_;refine gq h λ_ h=>?_;refine T.cut (e0:=ak [(6,hS aaf 0 (u30+1) 1<|(s28.1++[(v35++[(J (J choices s4.1) s28.2)])]).length),(26,I s28.2),(25,I ((J choices s4.1).length:Int)),(24,eL (cL cI)<|J choices s4.1),(8,eL (cL cI)<|J s4.2 s15.2),(20,I s15.2),(19,I (s4.2.length:Int)),(18,eL (cL<|cL cI) s4.2),(5,eL (cL cI)<|J choices s4.1),(14,I s4.1),(13,I (choices.length:Int)),(12,eL (cL<|cL cI) choices)]) (H0:=[bE aaf (u30+1) 1 28 ((s28.1++[(v35++[(J (J choices s4.1) s28.2)])]).map<|cL<|cL cI)]) (qH Z (.cons (.snoc qE<|.cons (.cons (.fz<|Fz.own (g:=false) (ver:=v37+1) (l:=(v35++[(J (J choices s4.1) s28.2)])) Z Z Z nofun qE) .nil) .nil) .nil)<|ai (.eqv (congrArg (hS aaf 0 (u30+1) 1) (by simp:(s28.1.length+1)=(s28.1++[(v35++[(J (J choices s4.1) s28.2)])]).length))<|.hS (g:=false) (b:=0) (ver:=u30+1) (s:=1) (n:=(s28.1++[(v35++[(J (J choices s4.1) s28.2)])]).length) Z)<|ai (.fz<|qD Z)<|ai (.fz<|qD Z)<|ai (.fz<|qD Z)<|ai (.fz<|qD Z)<|ai (.fz<|qD Z)<|ai (.fz<|qD Z)<|ai (.fz<|qD Z)<|ai (.fz<|qD Z)<|ai (.fz<|qD Z)<|ai (.fz<|qD Z)<|ai (.fz<|qD Z) aO)<|go h λ_ h=>?_;obtain rfl:=ZV h;exact⟨((s28.1++[(v35++[(J (J choices s4.1) s28.2)])]),(s28.2+V)),(aaf,u30+1),Z,nofun,Z9⟩
theorem Du(choices:List<|LL){q}(h:iQ choices=aag q):aF aaj 117 [eL (cL<|cL cI) choices] (eL (cL<|cL cI) q):=(Dt choices).c h
instance Cc(x:ZX):Ct aaj (gM x) 118 [.agg (ZX.c x)] (λq=>.agg<|ZX.c q):=ctp func118 λq h=>by
 refine go h λ_ h=>?_;refine eF Z Z Z<|gq h λ_ h=>?_;refine jH<|T.reserve<|T.reserve<|jP (dG [dF,dF,dF,dF,dF,dF,([1],aae),dF,([2],aae),([2],aae)]) (by kernel_rfl) (by kernel_rfl) ?_;refine gC h λv1 h=>?_;refine jD h λg2 h=>fW 1 [] Z Z (λG hG=>EvA.mkZR 1 ([]:LI) wo Z Z g2 Z Z<|hG.a0 Z)<|go h λ_ h=>?_;refine fW 2 [] Z Z (λG hG=>EvA.alR 2 X7 Z Z<|hG.a0 Z)<|gq h λ_ h=>?_;refine T.cut (e0:=ak [(3,.hp 2 0 2 0 0),(2,.hp 0 0 2 0 0),(1,.fp (ZX.c x) 0)]) (H0:=[aag ⟨0,2,30,[[.nil,.nil]]⟩,bE aaf 0 1 25 ((afg (x.Order.length:Int).toNat ([]:LI)).map<|cL cI),aag ⟨0,2,30,[[eL cI v1,hS aaf 1 0 1 ((afg (x.Order.length:Int).toNat ([]:LI)).length)]]⟩]) (qH Z (.cons (.row<|.cons (.fz<|qD Z)<|.cons (.fz<|qD Z) .nil)<|.cons (.rows<|.rep (f:=cI) _)<|.cons (.row<|.cons (.fz<|qD Z)<|.cons (.hS (g:=false) (b:=1) (ver:=0) (s:=1) (n:=(afg (x.Order.length:Int).toNat ([]:LI)).length) Z) .nil) .nil)<|ai (.hp<|nlb Z)<|ai (.hp<|nlb Z)<|ai (.fz<|qD Z) aO) ?_;refine kJ [3,2] h (λs3 gh k=>k) (λs3 gh=>[aag ⟨0,2,30,[[.nil,.nil]]⟩,bE aaf gh 1 25 (s3.map<|cL cI),aag ⟨0,2,30,[[eL cI v1,hS aaf 1 gh 1 s3.length]]⟩]) (λs3 u15 h=>?_) λs3 h=>?_
 .exact az h
 refine go h λ_ h=>?_;refine kT [16,15,3,2] h 0 (λs7 gh k=>(17,I s7.2)::k) (λs7 gh=>[aag ⟨0,2,30,[[.nil,.nil]]⟩,bE aaf gh 1 25 (s7.1.map<|cL cI),aag ⟨0,2,30,[[eL cI v1,hS aaf 1 gh 1 s7.1.length]]⟩]) λs7 u9 ws7 h=>?_;refine gy h λq10 h=>?_;refine go h λ_ h=>?_;refine gs h λ_ h=>?_;refine jP (dG [dF,([2],aaf),dF,dF,dF,dF,([1],aae)]) (by kernel_rfl) (by kernel_rfl)<|gD h λv12 h=>(go h λf h=>?_);obtain⟨g13,_⟩:=f;refine fV 1 [] Z Z (λG hG=>EvA.stO (g:=false) (l:=s7.1) (cs:=[eL cI v12]) v12 AX Z Z (hG.a0 Z) nofun (aS Z g13) Z Z Z)<|go h λ_ h=>?_;obtain rfl:=ZV h;exact⟨((s7.1.set s7.2.toNat v12),(s7.2+(1:Int))),u9,Z,trivial,kw (by first|(simp only[afi] <;> rfl)|simp only[lla,afj,llc,List.length_nil,afi]) Z⟩
theorem Ce(x:ZX){q}(h:gM x=aag q):aF aaj 118 [.agg (ZX.c x)] (.agg<|ZX.c q):=(Cc x).c h
theorem Cf(p:List<|List ZW){q}(h:oz p=aag q):cN aaj 55 [eL (cL ZW.c) p] [] (KO 2 30 (λx=>x) q.length (q.map ZX.c) 0 []):=by
 refine cN.mkO func55 Z (by kernel_rfl) Z (by kernel_rfl) (e0:=ak [(0,eL (cL ZW.c) p)]) (ZR Z ZQ) sF (nA ZX.isF)<|go h λ_ h=>?_;refine oC h (λ_=>lN _) Z Z Z Z λv1 _ h=>(gq h λ_ h=>?_);refine jH<|T.reserve ?_;refine go h λ_ h=>?_;refine kF (G:=(Bool×Nat)) [3] h (λs2 gh=>(gh.1=aae->s2=[])) (λs2 gh k=>(4,hS gh.1 0 gh.2 1 s2.length)::k) (λs2 gh=>[bE gh.1 gh.2 1 25 (s2.map<|cL cI)]) (λs2 gh h n29=>?_) λs2 h=>?_
 .obtain⟨b28,u27⟩:=gh;refine T.cut (e0:=ak [(4,eL (cL cI) s2),(3,eL ZY.c v1)]) (H0:=[]) (qH Z .nil<|ai (.fz<|Fz.own (g:=b28) (ver:=u27) (l:=s2) Z Z Z n29 qE)<|ai (.fz<|qD Z) aO)<|jH<|T.reserve ?_;refine go h λ_ h=>?_;refine kF (G:=(Bool×Nat)) [4] h (λs30 gh=>(gh.1=aae->s30=[])) (λs30 gh k=>(8,hS gh.1 0 gh.2 1 s30.length)::k) (λs30 gh=>[bE gh.1 gh.2 1 28 (s30.map<|cL<|cL cI)]) (λs30 gh h n70=>?_) λs30 h=>?_
  .obtain⟨b69,u68⟩:=gh;refine T.cut (e0:=ak [(8,eL (cL<|cL cI) s30),(4,eL (cL cI) s2)]) (H0:=[]) (qH Z .nil<|ai (.fz<|Fz.own (g:=b69) (ver:=u68) (l:=s30) Z Z Z n70 qE)<|ai (.fz<|qD Z) aO)<|jH<|T.reserve ?_;refine go h λ_ h=>?_;refine T.jF (G:=(Bool×Nat)) h (λs71 gh=>(gh.1=aae->s71=[])) (λs71 gh=>[(13,hS gh.1 0 gh.2 2 s71.length)]) (λs71 gh=>[bE gh.1 gh.2 2 30 (s71.map ZX.c)]) (λs71 gh h n108=>?_) λs71 h=>?_
   .obtain⟨b107,u106⟩:=gh;refine go h λ_ h=>?_;obtain rfl:=ZV h
    repeat (first|refine pG ?_|refine pI ?_)
    exact jQ (vs:=[hS b107 0 u106 2 s71.length]) (.cons (.tmp Z) .nil) ⟨0,b107,u106,(vO n108 Z),Z,ownB Z⟩
   refine go h λ_ h=>?_;refine oC h (λ_=>Ad _) Z Z Z Z λv72 _ h=>(go h λ_ h=>?_);refine kL [69,68,8] h (aae,0) (λs78 gh=>(gh.1=aae->s78.1=[])) (λs78 gh k=>(70,I s78.2)::(13,hS gh.1 0 gh.2 2 s78.1.length)::k) (λs78 gh=>[bE gh.1 gh.2 2 30 (s78.1.map ZX.c)]) qE λs78 gh ws78 h n82=>?_;obtain⟨b81,u80⟩:=gh;refine go h λ_ h=>?_;refine jH ?_;refine jN Z h (λq83 h=>?_) λq83 h=>?_
   .refine go h λ_ h=>?_;refine kF (G:=(Bool×Nat)) [70,69,68,8] h (λs84 gh=>(gh.1=aae->s84=[])) (λs84 gh k=>(13,hS gh.1 0 gh.2 2 s84.length)::k) (λs84 gh=>[bE gh.1 gh.2 2 30 (s84.map ZX.c)]) (λs84 gh h n104=>?_) λs84 h=>?_
    .exact az h
    refine go h λ_ h=>?_;refine oC h (λ_=>Du _) Z Z Z Z λv86 _ h=>(go h λ_ h=>?_);refine kL [76,75,15,70,69,68,8] h (b81,u80) (λs92 gh=>(gh.1=aae->s92.1=[])) (λs92 gh k=>(77,I s92.2)::(13,hS gh.1 0 gh.2 2 s92.1.length)::k) (λs92 gh=>[bE gh.1 gh.2 2 30 (s92.1.map ZX.c)]) n82 λs92 gh ws92 h n96=>?_;obtain⟨b95,u94⟩:=gh;refine go h λ_ h=>?_;refine jH ?_;refine jN Z h (λq97 h=>?_) λq97 h=>?_
    .refine go h λ_ h=>?_;refine gs h λ_ h=>?_;refine oC h (λ_=>Ce _) Z Z Z Z λv99 _ h=>oN (ZT.mkF (c:=ZX.c) ([v99]:List ZX) [(ZX.c v99)] Wt Z Z Z qE ZX.isF Z)<|go h λ_ h=>?_;obtain rfl:=ZV h;exact⟨((s92.1++[v99]),(s92.2+V)),(aaf,u94+1),Z,nofun,Z9⟩
    exact az h
   exact az h
  refine go h λ_ h=>?_;refine kL [4,3] h (aae,0) (λs36 gh=>(gh.1=aae->s36.1=[])) (λs36 gh k=>(41,I s36.2)::(8,hS gh.1 0 gh.2 1 s36.1.length)::k) (λs36 gh=>[bE gh.1 gh.2 1 28 (s36.1.map<|cL<|cL cI)]) qE λs36 gh ws36 h n40=>?_;obtain⟨b39,u38⟩:=gh;refine go h λ_ h=>?_;refine jH ?_;refine jN Z h (λq41 h=>?_) λq41 h=>?_
  .refine go h λ_ h=>?_;refine kJ [41,4,3] h (λs42 gh k=>(8,hS aaf 0 gh 1 s42.length)::k) (λs42 gh=>[bE aaf gh 1 28 (s42.map<|cL<|cL cI)]) (λs42 u66 h=>?_) λs42 h=>?_
   .refine go h λ_ h=>?_;obtain rfl:=ZV h;exact⟨(s42,(s36.2+V)),(aaf,u66),Z,nofun,Z9⟩
   refine jE<|jI ?_;refine gq h λ_ h=>?_;refine jH<|T.reserve ?_;refine go h λ_ h=>?_;refine kF (G:=(Bool×Nat)) [41,8,4,3] h (λs43 gh=>(gh.1=aae->s43=[])) (λs43 gh k=>(10,hS gh.1 1 gh.2 1 s43.length)::k) (λs43 gh=>[bE b39 u38 1 28 (s36.1.map<|cL<|cL cI),bE gh.1 gh.2 1 25 (s43.map<|cL cI)]) (λs43 gh h n64=>?_) λs43 h=>?_
   .obtain⟨b63,u62⟩:=gh;refine go h λ_ h=>?_;refine oA (EvA.mkR [[hS b63 1 u62 1 s43.length]] Kr (by generalize b63=gq0;cases gq0 <;> rfl) Z Z Z) (jL h λg65 h=>oA (EvA.appR (g:=b39) (rows:=s36.1.map<|cL<|cL cI) (rows':=s36.1.map (cL<|cL cI)++[[hS b63 1 u62 1 s43.length]]) (n':=s36.1.length+1) Kr (by kernel_rfl) Z Z (by simp) (λq=>by first|(rw[n40 q];rfl)|(cases q)) (bH.raw (rows:=[[hS b63 1 u62 1 s43.length]]) Z Z Z) g65 Z Z) ?_);refine go h λ_ h=>?_;obtain rfl:=ZV h;exact⟨u38+1,trivial,qH Z (.cons (.snoc qE<|.cons (.cons (.fz<|Fz.own (g:=b63) (ver:=u62) (l:=s43) Z Z Z n64 qE) .nil) .nil) .nil)<|ai (.eqv (congrArg (hS aaf 0 (u38+1) 1) (by simp:(s36.1.length+1)=(s36.1++[s43]).length))<|.hS (g:=false) (b:=0) (ver:=u38+1) (s:=1) (n:=(s36.1++[s43]).length) Z)<|ai (.fz<|qD Z)<|ai (.fz<|qD Z)<|ai (.fz<|qD Z) aO⟩
   refine go h λ_ h=>?_;refine oC h (λ_=>pE _ _) Z Z Z Z λv44 _ h=>jD h λg45 h=>oN (ZT.slL iq Z (.yes Z) .no g45 qE)<|oC h (λ_=>Gq _) Z Z Z Z λv46 _ h=>?_;refine go h λ_ h=>?_;refine kL [49,48,9,41,8,4,3] h (aae,0) (λs52 gh=>(gh.1=aae->s52.1=[])) (λs52 gh k=>(50,I s52.2)::(10,hS gh.1 1 gh.2 1 s52.1.length)::k) (λs52 gh=>[bE b39 u38 1 28 (s36.1.map<|cL<|cL cI),bE gh.1 gh.2 1 25 (s52.1.map<|cL cI)]) qE λs52 gh ws52 h n56=>?_;obtain⟨b55,u54⟩:=gh;refine go h λ_ h=>?_;refine jH ?_;refine jN Z h (λq57 h=>?_) λq57 h=>?_
   .refine go h λ_ h=>?_;refine gs h λ_ h=>?_;refine oA (EvA.mkO (c:=cI) ([s36.2]:LI) [[I s36.2]] iq Z Z Z qE Z Z)<|go h λ_ h=>?_;refine oA (EvA.mkR [[hS aaf 2 (0+1) 1 ((([s36.2]:LI)++(J v46 s52.2)).length)]] wo Z Z Z Z)<|jL h λg60 h=>oA (EvA.appR (g:=b55) (rows:=s52.1.map<|cL cI) (rows':=s52.1.map (cL cI)++[[hS aaf 2 (0+1) 1 ((([s36.2]:LI)++(J v46 s52.2)).length)]]) (n':=s52.1.length+1) wo (by kernel_rfl) Z Z (by simp) (λq=>by first|(rw[n56 q];rfl)|(cases q)) (bH.raw (rows:=[[hS aaf 2 (0+1) 1 ((([s36.2]:LI)++(J v46 s52.2)).length)]]) Z Z Z) g60 Z Z) ?_;refine gq h λ_ h=>?_;refine T.cut (e0:=ak [(10,hS aaf 1 (u54+1) 1<|(s52.1++[(([s36.2]:LI)++(J v46 s52.2))]).length),(50,I s52.2),(49,I (v46.length:Int)),(48,eL (cL cI) v46),(9,I s36.2),(41,I s36.2),(8,hS b39 0 u38 1 s36.1.length),(4,eL (cL cI) s2),(3,eL ZY.c v1)]) (H0:=[bE b39 u38 1 28 (s36.1.map<|cL<|cL cI),bE aaf (u54+1) 1 25 ((s52.1++[(([s36.2]:LI)++(J v46 s52.2))]).map<|cL cI)]) (qH Z (.cons (.list (g:=b39) (ver:=u38) (l:=s36.1) qE)<|.cons (.snoc qE<|.cons (.cons (.fz<|Fz.own (g:=false) (ver:=0+1) (l:=(([s36.2]:LI)++(J v46 s52.2))) Z Z Z nofun qE) .nil) .nil) .nil)<|ai (.eqv (congrArg (hS aaf 1 (u54+1) 1) (by simp:(s52.1.length+1)=(s52.1++[(([s36.2]:LI)++(J v46 s52.2))]).length))<|.hS (g:=false) (b:=1) (ver:=u54+1) (s:=1) (n:=(s52.1++[(([s36.2]:LI)++(J v46 s52.2))]).length) Z)<|ai (.fz<|qD Z)<|ai (.fz<|qD Z)<|ai (.fz<|qD Z)<|ai (.fz<|qD Z)<|ai (.fz<|qD Z)<|ai (.hS (g:=b39) (b:=0) (ver:=u38) (s:=1) (n:=s36.1.length) Z)<|ai (.fz<|qD Z)<|ai (.fz<|qD Z) aO)<|go h λ_ h=>?_;obtain rfl:=ZV h;exact⟨((s52.1++[(([s36.2]:LI)++(J v46 s52.2))]),(s52.2+V)),(aaf,u54+1),Z,nofun,Z9⟩
   exact az h
  exact az h
 refine go h λ_ h=>?_;refine kL [21,20,3] h (aae,0) (λs8 gh=>(gh.1=aae->s8.1=[])) (λs8 gh k=>(22,I s8.2)::(4,hS gh.1 0 gh.2 1 s8.1.length)::k) (λs8 gh=>[bE gh.1 gh.2 1 25 (s8.1.map<|cL cI)]) qE λs8 gh ws8 h n12=>?_;obtain⟨b11,u10⟩:=gh;refine go h λ_ h=>?_;refine jH ?_;refine jN Z h (λq13 h=>?_) λq13 h=>?_
 .refine go h λ_ h=>?_;refine gs h λ_ h=>?_;refine TO.cut (e0:=ak [(6,.fp (ZY.c (⟨(J v1 s8.2).Thread,(J v1 s8.2).Index,(J v1 s8.2).Loc,(J v1 s8.2).Reads,(J v1 s8.2).aP⟩:ZY)) 0),(5,.fp (cI s8.2) 0),(22,I s8.2),(21,I (v1.length:Int)),(20,eL ZY.c v1),(4,hS b11 0 u10 1 s8.1.length),(3,eL ZY.c v1)]) (H0:=[bE b11 u10 1 25 (s8.1.map<|cL cI)]) (qH Z (.cons (.list (g:=b11) (ver:=u10) (l:=s8.1) qE) .nil)<|ai (.fz<|Fz.fpL (ver:=0) (s:=5) (ty:=111) (rows:=[[I ((J v1 s8.2).Thread),I ((J v1 s8.2).Index),I ((J v1 s8.2).Loc),Bo ((J v1 s8.2).Reads),Bo ((J v1 s8.2).aP)]]) Z Z Z<|.cons (qD Z)<|.cons (qD Z)<|.cons (qD Z)<|.cons (qD Z)<|.cons (qD Z) .nil)<|ai (.fz<|Fz.fpL (ver:=0) (s:=1) (ty:=3) (rows:=[[I s8.2]]) Z Z Z<|.cons (qD Z) .nil)<|ai (.fz<|qD Z)<|ai (.fz<|qD Z)<|ai (.fz<|qD Z)<|ai (.hS (g:=b11) (b:=0) (ver:=u10) (s:=1) (n:=s8.1.length) Z)<|ai (.fz<|qD Z) aO)<|gk h λ_ _ h=>?_;refine kV [22,21,20,4,3] h (λs15 k=>(7,eL cI s15)::k) (λs15=>[bE b11 u10 1 25 (s8.1.map<|cL cI)]) (λs15 h=>?_) λs15 h=>?_
  .refine gk h λ_ _ h=>?_;obtain rfl:=ZV h;exact⟨((s8.1++[s15]),(s8.2+V)),(aaf,u10+1),Z,nofun,Z9⟩
  refine gi h (λ_ q16 h=>?_) λ_ q16 h=>?_
  .refine go h λ_ h=>?_;refine jB h λv17 cv17 h=>?_;refine oG Z Z Z ((uV v1 ((⟨(J v1 s8.2).Thread,(J v1 s8.2).Index,(J v1 s8.2).Loc,(J v1 s8.2).Reads,(J v1 s8.2).aP⟩:ZY).Loc) cv17).own Z (nA qE) sF 1 Z) λg18 v19 n20=>?_;refine oN (ZT.mkfn [.fp (cI s8.2) 0] Z Z)<|jB h λv21 cv21 h=>?_;refine oGW Z Z (iH v17 s8.2 g18 v19 (λx=>afh<|n20 x) cv21) Z (.cons (kz Z)<|.cons (.pF Z) .nil) (nA qE) (nA qE) sF λg22 v23 n24=>?_;refine oN (ZT.asg (hS g22 1 v23 1 v21.length) Z)<|TO.cut (e0:=ak [(7,eL cI v21),(22,I s8.2),(21,I (v1.length:Int)),(20,eL ZY.c v1),(4,hS b11 0 u10 1 s8.1.length),(3,eL ZY.c v1)]) (H0:=[bE b11 u10 1 25 (s8.1.map<|cL cI)]) (qH Z (.cons (.list (g:=b11) (ver:=u10) (l:=s8.1) qE) .nil)<|ai (.fz<|Fz.own (g:=g22) (ver:=v23) (l:=v21) Z Z Z (λx=>afh<|n24 x) qE)<|ai (.fz<|qD Z)<|ai (.fz<|qD Z)<|ai (.fz<|qD Z)<|ai (.hS (g:=b11) (b:=0) (ver:=u10) (s:=1) (n:=s8.1.length) Z)<|ai (.fz<|qD Z) aO) ?_;refine go h λ_ h=>?_
   cases h
   exact⟨(),trivial,Z9⟩
  exact az h
 exact az h
theorem wS(v:aG)(t:Int)(index:Int)(reg:Int)(aW:Nat)(tZ:Nat)(tP:Nat)(gw1:Bool)(hgw1:gw1=aae->v.values=[]){q}(h:gu v t index reg=aag q):cN aaj 189 [.hp 0 aW 6 0 0,I t,I index,I reg] [aag ⟨aW,6,167,[[eL (cL ZW.c) v.p,eL cI v.x.From,eL (cL cI) v.x.Order,eL ZY.c v.events,hS gw1 1 tZ 1 v.values.length,hS aaf 2 tP 1 v.busy.length]]⟩,bE gw1 tZ 1 3 (v.values.map cI),bE aaf tP 1 4 (v.busy.map cB)] (WP (I q.2) λver=>[aag ⟨aW,6,167,[[eL (cL ZW.c) q.1.p,eL cI q.1.x.From,eL (cL cI) q.1.x.Order,eL ZY.c q.1.events,hS gw1 1 tZ 1 v.values.length,hS aaf 2 tP 1 q.1.busy.length]]⟩,bE gw1 tZ 1 3 (v.values.map cI),bE aaf tP 1 4 (q.1.busy.map cB)]):=by
 refine cN.mkS func189 Z (by kernel_rfl) Z (by kernel_rfl) (e0:=ak [(0,.hp 0 aW 6 0 0),(1,I t),(2,I index),(3,I reg)]) (ZR Z<|ZR Z<|ZR Z<|ZR Z ZQ)<|go h λ_ h=>?_;refine qV [] h (λs1 k=>(9,I s1)::k) (λs1 h=>?_) λs1 h=>?_
 .refine go h λ_ h=>?_;obtain rfl:=ZV h
  repeat (first|refine pG ?_|refine pI ?_)
  exact⟨ak [(8,I s1)],[aag ⟨aW,6,167,[[eL (cL ZW.c) v.p,eL cI v.x.From,eL (cL cI) v.x.Order,eL ZY.c v.events,hS gw1 1 tZ 1 v.values.length,hS aaf 2 tP 1 v.busy.length]]⟩,bE gw1 tZ 1 3 (v.values.map cI),bE aaf tP 1 4 (v.busy.map cB)],Z9,jQ (vs:=[I s1]) (.cons (.tmp Z) .nil) ⟨0,Z,Z⟩⟩
 refine go h λ_ h=>?_;refine qU [16,15,0,1,2,3] h (λs4 k=>(17,I s4.1)::(9,I s4.2)::k) λs4 ws4 h=>?_;refine gy h λq6 h=>?_;refine go h λ_ h=>?_;refine qV [17,16,15,0,1,2,3] h (λs7 k=>(9,I s7)::k) (λs7 h=>?_) λs7 h=>?_
 .exact az h
 refine go h λ_ h=>?_;refine qV [10,17,16,15,9,0,1,2,3] h (λs9 k=>(51,Bo s9)::k) (λs9 h=>?_) λs9 h=>?_
 .exact az h
 refine T.drawG (dG [dF,([3],aaf),dF,dF,dF,dF,([3],aaf),dF,dF,dF,dF,dF,([3],aaf),dF,dF,dF,dF,dF,([0],aaf),dF,dF,dF,dF,([3],aaf),dF,dF,dF,dF,dF,dF]) (by kernel_rfl) (by kernel_rfl)<|go h λ_ h=>?_;rcases DY h with⟨q10,h⟩|⟨q10,h⟩
 .refine go h λ_ h=>?_;refine tgR Z q10 [3] Z (λG hG=>EvA.loadhp (I<|(J v.events s4.1).Index) Z8 Z (hG.a0 Z) Z Z Z Z)<|gp h λ_ h=>?_;refine go h λ_ h=>?_;rcases DY h with⟨q11,h⟩|⟨q11,h⟩
  .refine go h λ_ h=>?_;refine tgR Z q11 [3] Z (λG hG=>EvA.loadhp (Bo<|(J v.events s4.1).Reads) ty4 Z (hG.a0 Z) Z Z Z Z)<|gp h λ_ h=>?_;refine go h λ_ h=>?_;rcases DY h with⟨q12,h⟩|⟨q12,h⟩
   .exact az h
   exact az h
  exact az h
 exact az h
theorem yJ:∀(nf:Nat)(v:aG)(i:Int)(aW:Nat)(tZ:Nat)(tP:Nat)(gw1:Bool)(hgw1:gw1=aae->v.values=[]){q}(h:bS nf v i=aag q),cN aaj 141 [.hp 0 aW 6 0 0,I i] [aag ⟨aW,6,167,[[eL (cL ZW.c) v.p,eL cI v.x.From,eL (cL cI) v.x.Order,eL ZY.c v.events,hS gw1 1 tZ 1 v.values.length,hS aaf 2 tP 1 v.busy.length]]⟩,bE gw1 tZ 1 3 (v.values.map cI),bE aaf tP 1 4 (v.busy.map cB)] (WP (.tup [I q.2.1,Bo q.2.2]) λver=>[aag ⟨aW,6,167,[[eL (cL ZW.c) q.1.p,eL cI q.1.x.From,eL (cL cI) q.1.x.Order,eL ZY.c q.1.events,hS gw1 1 tZ 1 v.values.length,hS aaf 2 tP 1 q.1.busy.length]]⟩,bE gw1 tZ 1 3 (v.values.map cI),bE aaf tP 1 4 (q.1.busy.map cB)]):=by
 intro nf
 induction nf with
 |zero=>intros;rename_i h;cases h
 |succ nf ih=>
  intro v i aW tZ tP gw1 hgw1 q h;let d0:=v.events.getD i.toNat aad;replace h:ia (bS nf) v i=aag q:=h;refine cN.mkS func141 Z (by kernel_rfl) Z (by kernel_rfl) (e0:=ak [(0,.hp 0 aW 6 0 0),(1,I i)]) (ZR Z<|ZR Z ZQ)<|go h λ_ h=>?_;refine gsi h (λ_ q2 h=>?_) λ_ q2 h=>?_
  .refine go h λ_ h=>?_;obtain rfl:=ZV h
   repeat (first|refine pG ?_|refine pI ?_)
   exact⟨ak [(4,I U),(5,Bo aae)],[aag ⟨aW,6,167,[[eL (cL ZW.c) v.p,eL cI v.x.From,eL (cL cI) v.x.Order,eL ZY.c v.events,hS gw1 1 tZ 1 v.values.length,hS aaf 2 tP 1 v.busy.length]]⟩,bE gw1 tZ 1 3 (v.values.map cI),bE aaf tP 1 4 (v.busy.map cB)],qH Z (.cons (.row<|.cons (.fz<|qD Z)<|.cons (.fz<|qD Z)<|.cons (.fz<|qD Z)<|.cons (.fz<|qD Z)<|.cons (.hS (g:=gw1) (b:=1) (ver:=tZ) (s:=1) (n:=v.values.length) Z)<|.cons (.hS (g:=false) (b:=2) (ver:=tP) (s:=1) (n:=v.busy.length) Z) .nil)<|.cons (.list (g:=gw1) (ver:=tZ) (l:=v.values) qE)<|.cons (.list (g:=false) (ver:=tP) (l:=v.busy) qE) .nil)<|ai (.fz<|qD Z)<|ai (.fz<|qD Z) aO,jQ (vs:=[I U,Bo aae]) (.cons (.tmp Z)<|.cons (.tmp Z) .nil) ⟨0,Z,Z⟩⟩
  refine jG<|jH<|T.reserve<|jP (dG [dF,dF,dF,([0],aaf),dF,([3],aaf),dF,dF,dF,([3],aaf),dF,dF,([4],aae),([4],aae)]) (by kernel_rfl) (by kernel_rfl) ?_;refine go h λ_ h=>?_;refine fW 4 [] Z Z (λG hG=>EvA.alR 4 L9 Z Z<|hG.a0 Z)<|go h λ_ h=>?_;refine gsi h (λ_ q5 h=>?_) λ_ q5 h=>?_
  .refine go h λ_ h=>?_;obtain rfl:=ZV h
   repeat (first|refine pG ?_|refine pI ?_)
   exact⟨ak [(4,I<|(J (J v.p<|d0.Thread)<|d0.Index).Val),(5,Bo aae)],[aag ⟨aW,6,167,[[eL (cL ZW.c) v.p,eL cI v.x.From,eL (cL cI) v.x.Order,eL ZY.c v.events,hS gw1 1 tZ 1 v.values.length,hS aaf 2 tP 1 v.busy.length]]⟩,bE gw1 tZ 1 3 (v.values.map cI),bE aaf tP 1 4 (v.busy.map cB)],qH Z (.cons (.row<|.cons (.fz<|qD Z)<|.cons (.fz<|qD Z)<|.cons (.fz<|qD Z)<|.cons (.fz<|qD Z)<|.cons (.hS (g:=gw1) (b:=1) (ver:=tZ) (s:=1) (n:=v.values.length) Z)<|.cons (.hS (g:=false) (b:=2) (ver:=tP) (s:=1) (n:=v.busy.length) Z) .nil)<|.cons (.list (g:=gw1) (ver:=tZ) (l:=v.values) qE)<|.cons (.list (g:=false) (ver:=tP) (l:=v.busy) qE) .nil)<|ai (.fz<|qD Z)<|ai (.fz<|qD Z) aO,jQ (vs:=[I ((J (J v.p<|d0.Thread)<|d0.Index).Val),Bo aae]) (.cons (.tmp Z)<|.cons (.tmp Z) .nil) ⟨0,Z,Z⟩⟩
  refine go h λ_ h=>?_;refine gsi h (λ_ q7 h=>?_) λ_ q7 h=>?_
  .refine go h λ_ h=>?_;obtain rfl:=ZV h
   repeat (first|refine pG ?_|refine pI ?_)
   exact⟨ak [(4,I U),(5,Bo aaf)],[aag ⟨aW,6,167,[[eL (cL ZW.c) v.p,eL cI v.x.From,eL (cL cI) v.x.Order,eL ZY.c v.events,hS gw1 1 tZ 1 v.values.length,hS aaf 2 tP 1 v.busy.length]]⟩,bE gw1 tZ 1 3 (v.values.map cI),bE aaf tP 1 4 (v.busy.map cB)],qH Z (.cons (.row<|.cons (.fz<|qD Z)<|.cons (.fz<|qD Z)<|.cons (.fz<|qD Z)<|.cons (.fz<|qD Z)<|.cons (.hS (g:=gw1) (b:=1) (ver:=tZ) (s:=1) (n:=v.values.length) Z)<|.cons (.hS (g:=false) (b:=2) (ver:=tP) (s:=1) (n:=v.busy.length) Z) .nil)<|.cons (.list (g:=gw1) (ver:=tZ) (l:=v.values) qE)<|.cons (.list (g:=false) (ver:=tP) (l:=v.busy) qE) .nil)<|ai (.fz<|qD Z)<|ai (.fz<|qD Z) aO,jQ (vs:=[I U,Bo aaf]) (.cons (.tmp Z)<|.cons (.tmp Z) .nil) ⟨0,Z,Z⟩⟩
  refine go h λ_ h=>?_;refine jB h λv8 cv8 h=>?_;refine oW Z Z Z (cN.outAt (wS (⟨v.p,(⟨v.x.From,v.x.Order⟩:ZX),v.events,v.values,v.busy⟩:aG) (d0.Thread) (d0.Index) ((J (J v.p<|d0.Thread)<|d0.Index).Reg) aW tZ tP gw1 hgw1 cv8) [0,1,2] (by decide) (.cons Z (.rowL<|.cons (bA 9 _ Z)<|.cons (bA 9 _ Z)<|.cons (bA 9 _ Z)<|.cons (bA 9 _ Z)<|.cons (kz Z)<|.cons (kz Z) .nil)<|.bE Z qE<|.cons Z (RenK.bE' qE) .nil) (.cons (.hp Z)<|.cons (bA 9 _ Z)<|.cons (bA 9 _ Z)<|.cons (bA 9 _ Z) .nil) (G:=λv_=>[aag ⟨aW,6,167,[[eL (cL ZW.c) v8.1.p,eL cI v8.1.x.From,eL (cL cI) v8.1.x.Order,eL ZY.c v8.1.events,hS gw1 1 tZ 1 v.values.length,hS aaf 2 tP 1 v8.1.busy.length]]⟩,bE gw1 tZ 1 3 (v.values.map cI),bE aaf tP 1 4 (v8.1.busy.map cB)]) (G':=λv_=>[aag ⟨aW,6,167,[[eL (cL ZW.c) v8.1.p,eL cI v8.1.x.From,eL (cL cI) v8.1.x.Order,eL ZY.c v8.1.events,hS gw1 1 tZ 1 v.values.length,hS aaf 2 tP 1 v8.1.busy.length]]⟩,bE gw1 tZ 1 3 (v.values.map cI),bE aaf tP 1 4 (v8.1.busy.map cB),aag ⟨0,5,111,[(ZY.c d0)]⟩,aag ⟨0,4,113,[(ZW.c<|J (J v.p<|d0.Thread)<|d0.Index)]⟩]) 5 Z (λv_=>.some (.rowL<|.cons (bA 9 _ Z)<|.cons (bA 9 _ Z)<|.cons (bA 9 _ Z)<|.cons (bA 9 _ Z)<|.cons (kz<|.inl Z)<|.cons (kz<|.inl Z) .nil)<|.bE qE<|.some (RenK.bE' qE) .nil) qE (r:=I v8.2) (bA 9 _ Z) qE) λu9=>?_;refine go h λ_ h=>?_;refine gsi h (λ_ q10 h=>?_) λ_ q10 h=>?_
  .refine go h λ_ h=>?_;obtain rfl:=ZV h
   repeat (first|refine pG ?_|refine pI ?_)
   exact⟨ak [(4,I U),(5,Bo aae)],[aag ⟨aW,6,167,[[eL (cL ZW.c) v8.1.p,eL cI v8.1.x.From,eL (cL cI) v8.1.x.Order,eL ZY.c v8.1.events,hS gw1 1 tZ 1 v.values.length,hS aaf 2 tP 1 v8.1.busy.length]]⟩,bE gw1 tZ 1 3 (v.values.map cI),bE aaf tP 1 4 (v8.1.busy.map cB)],qH Z (.cons (.row<|.cons (.fz<|qD Z)<|.cons (.fz<|qD Z)<|.cons (.fz<|qD Z)<|.cons (.fz<|qD Z)<|.cons (.hS (g:=gw1) (b:=1) (ver:=tZ) (s:=1) (n:=v.values.length) Z)<|.cons (.hS (g:=false) (b:=2) (ver:=tP) (s:=1) (n:=v8.1.busy.length) Z) .nil)<|.cons (.list (g:=gw1) (ver:=tZ) (l:=v.values) qE)<|.cons (.list (g:=false) (ver:=tP) (l:=v8.1.busy) qE) .nil)<|ai (.fz<|qD Z)<|ai (.fz<|qD Z) aO,jQ (vs:=[I U,Bo aae]) (.cons (.tmp Z)<|.cons (.tmp Z) .nil) ⟨0,Z,Z⟩⟩
  refine go h λf h=>?_;obtain⟨g11,_⟩:=f;refine oV (EvA.stO (g:=false) (l:=v8.1.busy) (cs:=[Bo aae]) aae ty4 Z Z Z nofun (aS Z g11) Z Z Z)<|go h λ_ h=>?_;refine jB h λv13 cv13 h=>?_;refine oW Z Z Z (cN.outAt (ih (⟨v8.1.p,(⟨v8.1.x.From,v8.1.x.Order⟩:ZX),v8.1.events,v.values,(v8.1.busy.set i.toNat aae)⟩:aG) (J v8.1.x.From v8.2) aW tZ tP gw1 hgw1 cv13) [0,1,2] (by decide) (.cons Z (.rowL<|.cons (bA 9 _ Z)<|.cons (bA 9 _ Z)<|.cons (bA 9 _ Z)<|.cons (bA 9 _ Z)<|.cons (kz Z)<|.cons (ML Z<|(by simp)) .nil)<|.bE Z qE<|.cons Z (RenK.bE' qE) .nil) (.cons (.hp Z)<|.cons (bA 9 _ Z) .nil) (G:=λv_=>[aag ⟨aW,6,167,[[eL (cL ZW.c) v13.1.p,eL cI v13.1.x.From,eL (cL cI) v13.1.x.Order,eL ZY.c v13.1.events,hS gw1 1 tZ 1 v.values.length,hS aaf 2 tP 1 v13.1.busy.length]]⟩,bE gw1 tZ 1 3 (v.values.map cI),bE aaf tP 1 4 (v13.1.busy.map cB)]) (G':=λv_=>[aag ⟨aW,6,167,[[eL (cL ZW.c) v13.1.p,eL cI v13.1.x.From,eL (cL cI) v13.1.x.Order,eL ZY.c v13.1.events,hS gw1 1 tZ 1 v.values.length,hS aaf 2 tP 1 v13.1.busy.length]]⟩,bE gw1 tZ 1 3 (v.values.map cI),bE aaf tP 1 4 (v13.1.busy.map cB),aag ⟨0,5,111,[(ZY.c d0)]⟩,aag ⟨0,4,113,[(ZW.c<|J (J v.p<|d0.Thread)<|d0.Index)]⟩]) 5 Z (λv_=>.some (.rowL<|.cons (bA 9 _ Z)<|.cons (bA 9 _ Z)<|.cons (bA 9 _ Z)<|.cons (bA 9 _ Z)<|.cons (kz<|.inl Z)<|.cons (kz<|.inl Z) .nil)<|.bE qE<|.some (RenK.bE' qE) .nil) qE (r:=.tup [I v13.2.1,Bo v13.2.2]) (bA 9 _ Z) qE) λu14=>?_;refine go h λf h=>?_;obtain⟨g15,_⟩:=f;refine oV (EvA.stO (g:=false) (l:=v13.1.busy) (cs:=[Bo aaf]) aaf ty4 Z Z Z nofun (aS Z g15) Z Z Z)<|go h λ_ h=>?_;obtain rfl:=ZV h
  repeat (first|refine pG ?_|refine pI ?_)
  exact⟨ak [(4,I v13.2.1),(5,Bo v13.2.2)],[aag ⟨aW,6,167,[[eL (cL ZW.c) v13.1.p,eL cI v13.1.x.From,eL (cL cI) v13.1.x.Order,eL ZY.c v13.1.events,hS gw1 1 tZ 1 v.values.length,hS aaf 2 tP 1 ((v13.1.busy.set i.toNat aaf).length)]]⟩,bE gw1 tZ 1 3 (v.values.map cI),bE aaf tP 1 4 ((v13.1.busy.set i.toNat aaf).map cB)],qH Z (.cons (.row<|.cons (.fz<|qD Z)<|.cons (.fz<|qD Z)<|.cons (.fz<|qD Z)<|.cons (.fz<|qD Z)<|.cons (.hS (g:=gw1) (b:=1) (ver:=tZ) (s:=1) (n:=v.values.length) Z)<|.cons (.eqv (congrArg (hS aaf 2 tP 1) (by simp:v13.1.busy.length=(v13.1.busy.set i.toNat aaf).length))<|.hS (g:=false) (b:=2) (ver:=tP) (s:=1) (n:=(v13.1.busy.set i.toNat aaf).length) Z) .nil)<|.cons (.list (g:=gw1) (ver:=tZ) (l:=v.values) qE)<|.cons (.list (g:=false) (ver:=tP) (l:=(v13.1.busy.set i.toNat aaf)) qE) .nil)<|ai (.fz<|qD Z)<|ai (.fz<|qD Z) aO,jQ (vs:=[I v13.2.1,Bo v13.2.2]) (.cons (.tmp Z)<|.cons (.tmp Z) .nil) ⟨0,Z,Z⟩⟩
theorem zA(v:aG)(i:Int)(aW:Nat)(tZ:Nat)(tP:Nat)(gw1:Bool)(hgw1:gw1=aae->v.values=[]){q}(h:nH v i=aag q):cN aaj 141 [.hp 0 aW 6 0 0,I i] [aag ⟨aW,6,167,[[eL (cL ZW.c) v.p,eL cI v.x.From,eL (cL cI) v.x.Order,eL ZY.c v.events,hS gw1 1 tZ 1 v.values.length,hS aaf 2 tP 1 v.busy.length]]⟩,bE gw1 tZ 1 3 (v.values.map cI),bE aaf tP 1 4 (v.busy.map cB)] (WP (.tup [I q.2.1,Bo q.2.2]) λver=>[aag ⟨aW,6,167,[[eL (cL ZW.c) q.1.p,eL cI q.1.x.From,eL (cL cI) q.1.x.Order,eL ZY.c q.1.events,hS gw1 1 tZ 1 v.values.length,hS aaf 2 tP 1 q.1.busy.length]]⟩,bE gw1 tZ 1 3 (v.values.map cI),bE aaf tP 1 4 (q.1.busy.map cB)]):=by
 obtain⟨nf,h⟩:=nz h;exact yJ nf v i aW tZ tP gw1 hgw1 h
instance OM(p:List<|List ZW)(x:ZX):Ct aaj (bT p x) 75 [eL (cL ZW.c) p,.agg (ZX.c x)] (λq=>.tup [eL cI q.1,Bo q.2]):=ctp func75 λq h=>by
 refine go h λ_ h=>?_;refine eF Z Z Z<|gq h λ_ h=>?_;refine jH<|T.reserve<|T.reserve<|jP (dG [dF,dF,dF,dF,dF,([1],aae),dF]) (by kernel_rfl) (by kernel_rfl) ?_;refine go h λ_ h=>?_;refine fC h (λ_=>lN _) Z Z Z Z Z λv1 _ h=>(go h λ_ h=>?_);refine fW 1 [] Z Z (λG hG=>EvA.bxA (cs:=[eL (cL ZW.c) p,eL cI x.From,eL (cL cI) x.Order,eL ZY.c v1,hS aae 0 0 1 (([]:LI).length),.nil]) 1 Z Z<|hG.a0 Z)<|go h λ_ h=>?_;refine jD h λg2 h=>oA (EvA.mkN (c:=cB) (aad:Bool) Y2 Z Z g2 Z Z Z)<|go h λ_ h=>?_;obtain⟨Ks3,es3,ws3,h,ks3⟩:=II h;refine T.join (S:=(LI)×(List<|List ZW)×(LI)×(LL)×(List ZY)×(List Bool)) (G:=(Bool×Nat)×Nat) (λs3=>Ks3 s3=aag q) (λs3 gh=>(gh.1.1=aae->s3.1=[])) (λs3 gh=>[(6,.hp 1 0 6 0 0)]) (λs3 gh=>[bE gh.1.1 gh.1.2 1 3 (s3.1.map cI),aag ⟨0,6,167,[[eL (cL ZW.c) s3.2.1,eL cI s3.2.2.1,eL (cL cI) s3.2.2.2.1,eL ZY.c s3.2.2.2.2.1,hS gh.1.1 0 gh.1.2 1 s3.1.length,hS aaf 2 gh.2 1 s3.2.2.2.2.2.length]]⟩,bE aaf gh.2 1 4 (s3.2.2.2.2.2.map cB)]) (λs3 gh h n28=>?_) ?_
 .exact az h
 refine go h λ_ h=>?_;refine kL [31,30,6] h ((aae,0),0) (λs10 gh=>(gh.1.1=aae->s10.1=[])) (λs10 gh k=>(32,I s10.2.2.2.2.2.2)::k) (λs10 gh=>[bE gh.1.1 gh.1.2 1 3 (s10.1.map cI),aag ⟨0,6,167,[[eL (cL ZW.c) s10.2.1,eL cI s10.2.2.1,eL (cL cI) s10.2.2.2.1,eL ZY.c s10.2.2.2.2.1,hS gh.1.1 0 gh.1.2 1 s10.1.length,hS aaf 2 gh.2 1 s10.2.2.2.2.2.1.length]]⟩,bE aaf gh.2 1 4 (s10.2.2.2.2.2.1.map cB)]) qE λs10 gh ws10 h n14=>?_;obtain⟨⟨b13,u12⟩,u15⟩:=gh;refine go h λ_ h=>?_;refine jH ?_;refine jN Z h (λq16 h=>?_) λq16 h=>?_
 .refine go h λ_ h=>?_;refine gs h λ_ h=>?_;obtain⟨Ks18,es18,ws18,h,ks18⟩:=II h;refine T.join (S:=(List<|List ZW)×(LI)×(LL)×(List ZY)×(List Bool)×Int) (G:=Nat) (λs18=>Ks18 s18=aag ws10) (λs18 gh=>True) (λs18 gh=>[(9,I s18.2.2.2.2.2),(32,I s10.2.2.2.2.2.2),(31,I (v1.length:Int)),(30,eL ZY.c v1),(6,.hp 1 0 6 0 0)]) (λs18 gh=>[bE b13 u12 1 3 (s10.1.map cI),aag ⟨0,6,167,[[eL (cL ZW.c) s18.1,eL cI s18.2.1,eL (cL cI) s18.2.2.1,eL ZY.c s18.2.2.2.1,hS b13 0 u12 1 s10.1.length,hS aaf 2 gh 1 s18.2.2.2.2.1.length]]⟩,bE aaf gh 1 4 (s18.2.2.2.2.1.map cB),aag ⟨0,5,111,[(ZY.c<|J v1 s10.2.2.2.2.2.2)]⟩]) (λs18 u23 h hg=>?_) ?_
  .clear ks18;subst es18;refine gk h λ_ _ h=>?_;obtain rfl:=ZV h;exact⟨((s10.1++[s18.2.2.2.2.2]),s18.1,s18.2.1,s18.2.2.1,s18.2.2.2.1,s18.2.2.2.2.1,(s10.2.2.2.2.2.2+V)),((aaf,u12+1),u23),Z,nofun,Z9⟩
  refine gi h (λ_ q19 h=>?_) λ_ q19 h=>?_
  .refine go h λ_ h=>?_;refine jB h λv20 cv20 h=>?_;refine oW Z Z Z (cN.outAt (zA (⟨s10.2.1,(⟨s10.2.2.1,s10.2.2.2.1⟩:ZX),s10.2.2.2.2.1,s10.1,s10.2.2.2.2.2.1⟩:aG) s10.2.2.2.2.2.2 0 u12 u15 b13 n14 cv20) [1,0,2] (by decide) (.cons Z (.rowL<|.cons (bA 9 _ Z)<|.cons (bA 9 _ Z)<|.cons (bA 9 _ Z)<|.cons (bA 9 _ Z)<|.cons (kz Z)<|.cons (kz Z) .nil)<|.bE Z qE<|.cons Z (RenK.bE' qE) .nil) (.cons (.hp Z)<|.cons (bA 9 _ Z) .nil) (G:=λv_=>[aag ⟨0,6,167,[[eL (cL ZW.c) v20.1.p,eL cI v20.1.x.From,eL (cL cI) v20.1.x.Order,eL ZY.c v20.1.events,hS b13 0 u12 1 s10.1.length,hS aaf 2 u15 1 v20.1.busy.length]]⟩,bE b13 u12 1 3 (s10.1.map cI),bE aaf u15 1 4 (v20.1.busy.map cB)]) (G':=λv_=>[bE b13 u12 1 3 (s10.1.map cI),aag ⟨0,6,167,[[eL (cL ZW.c) v20.1.p,eL cI v20.1.x.From,eL (cL cI) v20.1.x.Order,eL ZY.c v20.1.events,hS b13 0 u12 1 s10.1.length,hS aaf 2 u15 1 v20.1.busy.length]]⟩,bE aaf u15 1 4 (v20.1.busy.map cB),aag ⟨0,5,111,[(ZY.c<|J v1 s10.2.2.2.2.2.2)]⟩]) 4 Z (λv_=>.some (.rowL<|.cons (bA 9 _ Z)<|.cons (bA 9 _ Z)<|.cons (bA 9 _ Z)<|.cons (bA 9 _ Z)<|.cons (kz<|.inl Z)<|.cons (kz<|.inl Z) .nil)<|.bE qE<|.some (RenK.bE' qE) .nil) qE (r:=.tup [I v20.2.1,Bo v20.2.2]) (bA 9 _ Z) qE) λu21=>?_;refine go h λ_ h=>?_;refine gsi h (λ_ q22 h=>?_) λ_ q22 h=>?_
   .refine go h λ_ h=>?_;obtain rfl:=ZV h;replace h:=congrArg aag (show _=_ from ks18);refine lX h λh=>?_;obtain rfl:=ZV h;replace h:=congrArg aag (show _=_ from ks3);exact gf h
   refine go h λ_ h=>?_;obtain rfl:=ZV h;exact⟨(v20.1.p,v20.1.x.From,v20.1.x.Order,v20.1.events,v20.1.busy,v20.2.1),u15,ks18,trivial,Z9⟩
  refine go h λ_ h=>?_;obtain rfl:=ZV h;exact⟨(s10.2.1,s10.2.2.1,s10.2.2.2.1,s10.2.2.2.2.1,s10.2.2.2.2.2.1,(-1:Int)),u15,ks18,trivial,Z9⟩
 refine jM<|lX h λh=>?_;obtain rfl:=ZV h;exact⟨(s10.1,s10.2.1,s10.2.2.1,s10.2.2.2.1,s10.2.2.2.2.1,s10.2.2.2.2.2.1),((b13,u12),u15),ks3,n14,Z9⟩
instance Iq(s:LI)(v:Int):Ct aaj (bQ s v) 156 [eL cI s,I v] I:=ctp func156 λq h=>by
 refine go h λ_ h=>?_;refine qS [] h (λs1 k=>k) (λs1 h=>?_) λKs1 ws1 h ks1=>?_
 .exact az h
 refine go h λ_ h=>?_;refine qU [7,0,1] h (λs4 k=>(8,I s4)::k) λs4 ws4 h=>?_;exact az h
instance yK(x:ZX)(loc:Int)(i:Int)(k_:Int):Ct aaj (da x loc i k_) 275 [.agg (ZX.c x),I loc,I i,I k_] Bo:=ctp func275 λq h=>az h
theorem yL(x:ZX)(loc:Int)(i:Int)(k_:Int){q}(h:da x loc i k_=aag q):aF aaj 275 [.agg (ZX.c x),I loc,I i,I k_] (Bo q):=(yK x loc i k_).c h
instance OP(y:ZW):Ct aaj (uz y) 277 [.agg (ZW.c y)] Bo:=ctp func277 λq h=>az h
instance rN(s:List ZW):Ct aaj (aT s) 283 [eL ZW.c s,.fn (.func 277) []] I:=ctp func283 λq h=>by
 refine go h λ_ h=>?_;refine qS [] h (λs1 k=>k) (λs1 h=>?_) λKs1 ws1 h ks1=>?_
 .exact az h
 refine go h λ_ h=>?_;refine qU [7,0,1] h (λs4 k=>(8,I s4)::k) λs4 ws4 h=>?_;exact az h
instance dB(s:List ZW):Ct aaj (aB s) 276 [eL ZW.c s,.fn (.func 277) []] Bo:=ctp func276 λq h=>az h
theorem dD(s:List ZW){q}(h:aB s=aag q):aF aaj 276 [eL ZW.c s,.fn (.func 277) []] (Bo q):=(dB s).c h
instance Me(e_:ZY)(writes:Bool):Ct aaj (dL e_ writes) 278 [.agg (ZY.c e_),Bo writes] Bo:=ctp func278 λq h=>by
 refine go h λ_ h=>?_;refine eF Z Z Z<|go h λ_ h=>?_;refine oN (ZT.beq bt4 Z Z)<|go h λ_ h=>?_;refine qB [] h 5 (λs1 k=>(14,Bo s1)::k) (λs1 q2 h js1=>?_) (λs1 q2 h js1=>?_) λs1 h=>?_
 .refine go h λ_ h=>?_;refine gN Z q2 (ZT.bne bt4 Z Z) ?_;exact gj h js1
 .exact gj h js1
 exact gz h
instance Sr(p:List<|List ZW)(x:ZX)(list:List ZY)(name:BA)(i:Int)(k_:Int):Ct aaj (sV p x list name i k_) 258 [eL (cL ZW.c) p,.agg (ZX.c x),eL ZY.c list,St name,I i,I k_] Bo:=ctp func258 λq h=>by
 refine go h λ_ h=>?_;refine eF Z Z Z<|gq h λ_ h=>?_;refine jH<|T.reserve<|T.reserve<|jP (dG [dF,dF,dF,dF,dF,dF,dF,dF,([0],aae),([1],aae),([0],aae),([1],aae)]) (by kernel_rfl) (by kernel_rfl) ?_;refine go h λ_ h=>?_;refine fW 0 [] Z Z (λG hG=>EvA.alR 0 Ws Z Z<|hG.a0 Z)<|fW 1 [] Z Z (λG hG=>EvA.alR 1 Ws Z Z<|hG.a0 Z) ?_;refine go h λ_ h=>?_;refine gB [14,13,7,0,3,4,5] h 6 (λs3 k=>(33,Bo s3)::k) λs3 h=>?_;refine go h λ_ h=>?_;refine gB [14,13,7,0,3,4,5] h 6 (λs5 k=>(40,Bo s5)::k) λs5 h=>?_;refine go h λ_ h=>?_;refine qS [4,5] h (λs7 k=>k) (λs7 h=>?_) λKs7 ws7 h ks7=>?_
 .exact az h
 refine gx h λq8 h=>?_;refine gx h λq9 h=>?_;refine gx h λq10 h=>?_;refine gx h λq13 h=>?_;refine gx h λq15 h=>?_;refine gi h (λ_ q17 h=>?_) λ_ q17 h=>?_
 .refine qV [] h (λs18 k=>(12,Bo s18)::k) (λs18 h=>?_) λs18 h=>?_
  .exact az h
  refine T.cl [14,13,7,4,5] Z<|T.drawG (dG [dF,([0],aaf),dF,dF,([1],aaf),dF,dF,dF,dF,dF,dF,dF,dF,dF,([0],aaf),dF,dF,dF,dF,dF,dF,dF,dF,dF]) (by kernel_rfl) (by kernel_rfl) ?_;refine go h λ_ h=>?_;rcases DY h with⟨q19,h⟩|⟨q19,h⟩
  .refine go h λ_ h=>?_;refine tgR Z q19 [1] Z (λG hG=>EvA.loadhp (Bo<|(J list k_).aP) ty4 Z (hG.a0 Z) Z Z Z Z)<|gp h λ_ h=>?_;refine go h λ_ h=>?_;rcases DY h with⟨q20,h⟩|⟨q20,h⟩
   .refine gp h λ_ h=>?_;refine go h λ_ h=>?_;rcases DY h with⟨q21,h⟩|⟨q21,h⟩
    .refine go h λ_ h=>?_;refine tgR Z q21 [0] Z (λG hG=>EvA.loadhp (I<|(J list i).Loc) Z8 Z (hG.a0 Z) Z Z Z Z)<|go h λ_ h=>?_;refine jB h λv23 cv23 h=>tgN Z q21 Z (ZT.call Z Z Z (yL x ((J list i).Loc) (J x.From i) k_ cv23) Z)<|gp h λ_ h=>?_;refine go h λ_ h=>?_
     cases h
     exact⟨(),trivial,Z9⟩
    exact az h
   exact az h
  exact az h
 refine gy h λq24 h=>?_;refine qV [] h (λs25 k=>(12,Bo s25)::k) (λs25 h=>?_) λs25 h=>?_
 .exact az h
 refine T.cl [15,14,13,0] Z<|T.drawG (dG [dF,dF,dF,dF,([0],aaf),dF,dF,dF,([0],aaf),dF,([1],aaf),dF,dF,dF,dF]) (by kernel_rfl) (by kernel_rfl) ?_;refine go h λ_ h=>?_;rcases DY h with⟨q26,h⟩|⟨q26,h⟩
 .refine go h λ_ h=>?_;refine tgR Z q26 [0] Z (λG hG=>EvA.loadhp (I<|(J list i).Thread) Z8 Z (hG.a0 Z) Z Z Z Z)<|go h λ_ h=>?_;refine tgR Z q26 [0] Z (λG hG=>EvA.loadhp (I<|(J list i).Index) Z8 Z (hG.a0 Z) Z Z Z Z)<|go h λ_ h=>?_;refine tgR Z q26 [1] Z (λG hG=>EvA.loadhp (I<|(J list k_).Index) Z8 Z (hG.a0 Z) Z Z Z Z)<|jD h λg28 h=>tgN Z q26 Z (ZT.slL BS Z (.yes Z) (.yes Z) g28 qE)<|jB h λv29 cv29 h=>tgN Z q26 Z (ZT.call Z Z Z (dD (((J p<|(J list i).Thread).drop ((J list i).Index).toNat).take<|((J list k_).Index).toNat-((J list i).Index).toNat) cv29) Z) ?_;refine gp h λ_ h=>?_;refine go h λ_ h=>?_
  cases h
  exact⟨(),trivial,Z9⟩
 exact az h
instance O7(i:Int)(k_:Int)(a2:List<|List ZW)(a3:ZX)(a4:List ZY)(a5:BA):Ct aaj (vR i k_ a2 a3 a4 a5) 257 [I i,I k_,.fp ((cL<|cL ZW.c) a2) 0,.fp (ZX.c a3) 0,.fp ((cL ZY.c) a4) 0,.fp (cS a5) 0] Bo:=ctp func257 λq h=>az h
instance rO(n:Int)(is0:List<|List ZW)(is1:ZX)(is2:List ZY)(is3:BA):Ct aaj (fE n is0 is1 is2 is3) 256 [I n,.fn (.func 257) [.fp ((cL<|cL ZW.c) is0) 0,.fp (ZX.c is1) 0,.fp ((cL ZY.c) is2) 0,.fp (cS is3) 0]] (eL cI):=ctp func256 λq h=>by
 refine go h λ_ h=>?_;refine jD h λg1 h=>oA (EvA.mkN (c:=cI) (aad:Int) iq Z Z g1 Z Z Z)<|go h λ_ h=>?_;refine tJ h (λs2 gh=>[(5,hS aaf 0 gh 1 s2.length)]) (λs2 gh=>[bE aaf gh 1 3 (s2.map cI)]) (λs2 u27 h=>?_) λs2 h=>?_
 .exact az h
 refine go h λ_ h=>?_;refine kT [10,0,1] h 0 (λs6 gh k=>(11,I s6.2)::(5,hS aaf 0 gh 1 s6.1.length)::k) (λs6 gh=>[bE aaf gh 1 3 (s6.1.map cI)]) λs6 u8 ws6 h=>?_;refine gy h λq9 h=>?_;refine go h λ_ h=>?_;refine kJ [11,10,0,1] h (λs10 gh k=>(5,hS aaf 0 gh 1 s10.length)::k) (λs10 gh=>[bE aaf gh 1 3 (s10.map cI)]) (λs10 u25 h=>?_) λs10 h=>?_
 .exact az h
 refine go h λ_ h=>?_;refine kT [14,6,11,10,0,1] h u8 (λs14 gh k=>(15,I s14.2)::(5,hS aaf 0 gh 1 s14.1.length)::k) (λs14 gh=>[bE aaf gh 1 3 (s14.1.map cI)]) λs14 u16 ws14 h=>?_;refine gy h λq17 h=>?_;refine go h λ_ h=>?_;refine kJ [15,14,6,11,10,0,1] h (λs18 gh k=>(5,hS aaf 0 gh 1 s18.length)::k) (λs18 gh=>[bE aaf gh 1 3 (s18.map cI)]) (λs18 u23 h=>?_) λs18 h=>?_
 .exact az h
 refine gC h λv19 h=>?_;refine gy h λq20 h=>?_;refine jP (dG [dF,dF,dF,([0],aaf),dF,dF,dF,dF,([0],aae)]) (by kernel_rfl) (by kernel_rfl)<|go h λf h=>?_;obtain⟨_,g21,_⟩:=f;refine fV 0 [] Z Z (λG hG=>EvA.stO (g:=false) (l:=s14.1) (cs:=[I (bOr .i64 (J s14.1 s6.2)<|ME .i64 V s14.2)]) (bOr .i64 (J s14.1 s6.2)<|ME .i64 V s14.2) Z8 Z Z (hG.a0 Z) nofun (aS Z g21) Z Z Z)<|go h λ_ h=>?_
 cases h
 exact⟨u16,trivial,stW⟩
theorem rP(n:Int)(is0:List<|List ZW)(is1:ZX)(is2:List ZY)(is3:BA){q}(h:fE n is0 is1 is2 is3=aag q):aF aaj 256 [I n,.fn (.func 257) [.fp ((cL<|cL ZW.c) is0) 0,.fp (ZX.c is1) 0,.fp ((cL ZY.c) is2) 0,.fp (cS is3) 0]] (eL cI q):=(rO n is0 is1 is2 is3).c h
theorem Hg(p:List<|List ZW)(x:ZX)(name:BA){q}(h:ib p x name=aag q):aF aaj 221 [eL (cL ZW.c) p,.agg (ZX.c x),St name] (eL cI q):=by
 refine pM func221 Z (by kernel_rfl) Z<|jI<|oN (ZT.bxF [eL (cL ZW.c) p] Z Z Z)<|oN (ZT.bxF (ZX.c x) Z Z Z)<|oN (ZT.bxF [St name] Z Z Z)<|oN as'<|jA<|jI<|oN (lf (eL (cL ZW.c) p) ZB Z)<|oC h (λ_=>lN _) Z Z Z Z λv1 _ h=>oA (EvA.al YX Z Z)<|oV (sr [eL ZY.c v1] X9 Z Z Z Z)<|TO.cut (e0:=ak [(7,.fp ((cL ZY.c) v1) 0),(5,.fp (cS name) 0),(4,.fp (ZX.c x) 0),(3,.fp ((cL<|cL ZW.c) p) 0)]) (H0:=[]) (qH Z .nil<|ai (.fz<|Fz.fpL (ver:=0) (s:=1) (ty:=108) (rows:=[[eL ZY.c v1]]) Z Z Z<|.cons (qD Z) .nil)<|ai (.fz<|qD Z)<|ai (.fz<|qD Z)<|ai (.fz<|qD Z) aO)<|jA<|jI<|oN (lf (eL ZY.c v1) X9 Z) ?_;refine oN (ZT.lenL Kq Z)<|oN (ZT.mkfn [.fp ((cL<|cL ZW.c) p) 0,.fp (ZX.c x) 0,.fp ((cL ZY.c) v1) 0,.fp (cS name) 0] Z Z)<|oC h (λ_=>rP _ _ _ _ _) Z Z Z Z λv2 _ h=>oN as'<|jA<|jK ?_
 cases h
 exact SV Z Z Z
instance S5(p:List<|List ZW)(x:ZX)(name:BA):Ct aaj (ib p x name) 221 [eL (cL ZW.c) p,.agg (ZX.c x),St name] (eL cI):=⟨Hg p x name⟩
instance Mf(x:Int)(a1:LI):Ct aaj (p9 x a1) 231 [I x,.fp ((cL cI) a1) 0] Bo:=ctp func231 λq h=>az h
instance wT(s:LI)(f0:LI):Ct aaj (bJ s f0) 89 [eL cI s,.fn (.func 231) [.fp ((cL cI) f0) 0]] I:=ctp func89 λq h=>by
 refine go h λ_ h=>?_;refine qS [] h (λs1 k=>k) (λs1 h=>?_) λKs1 ws1 h ks1=>?_
 .exact az h
 refine go h λ_ h=>?_;refine qU [7,0,1] h (λs4 k=>(8,I s4)::k) λs4 ws4 h=>?_;exact az h
instance vM(s:LI)(f0:LI):Ct aaj (bB s f0) 41 [eL cI s,.fn (.func 231) [.fp ((cL cI) f0) 0]] Bo:=ctp func41 λq h=>az h
instance OQ(r_:LI):Ct aaj (cV r_) 167 [eL cI r_] Bo:=ctp func167 λq h=>az h
instance Eu(r_:LI)(i:Int)(k_:Int):Ct aaj (fL r_ i k_) 232 [eL cI r_,I i,I k_] Bo:=ctp func232 λq h=>az h
theorem yx(r_:LI)(i:Int)(k_:Int){q}(h:fL r_ i k_=aag q):aF aaj 232 [eL cI r_,I i,I k_] (Bo q):=(Eu r_ i k_).c h
instance KH(i:Int)(k_:Int)(a2:LI):Ct aaj (nI i k_ a2) 259 [I i,I k_,.fp ((cL cI) a2) 0] Bo:=ctp func259 λq h=>az h
instance Bb(n:Int)(is0:LI):Ct aaj (ic n is0) 256 [I n,.fn (.func 259) [.fp ((cL cI) is0) 0]] (eL cI):=ctp func256 λq h=>by
 refine go h λ_ h=>?_;refine jD h λg1 h=>oA (EvA.mkN (c:=cI) (aad:Int) iq Z Z g1 Z Z Z)<|go h λ_ h=>?_;refine tJ h (λs2 gh=>[(5,hS aaf 0 gh 1 s2.length)]) (λs2 gh=>[bE aaf gh 1 3 (s2.map cI)]) (λs2 u27 h=>?_) λs2 h=>?_
 .exact az h
 refine go h λ_ h=>?_;refine kT [10,0,1] h 0 (λs6 gh k=>(11,I s6.2)::(5,hS aaf 0 gh 1 s6.1.length)::k) (λs6 gh=>[bE aaf gh 1 3 (s6.1.map cI)]) λs6 u8 ws6 h=>?_;refine gy h λq9 h=>?_;refine go h λ_ h=>?_;refine kJ [11,10,0,1] h (λs10 gh k=>(5,hS aaf 0 gh 1 s10.length)::k) (λs10 gh=>[bE aaf gh 1 3 (s10.map cI)]) (λs10 u25 h=>?_) λs10 h=>?_
 .exact az h
 refine go h λ_ h=>?_;refine kT [14,6,11,10,0,1] h u8 (λs14 gh k=>(15,I s14.2)::(5,hS aaf 0 gh 1 s14.1.length)::k) (λs14 gh=>[bE aaf gh 1 3 (s14.1.map cI)]) λs14 u16 ws14 h=>?_;refine gy h λq17 h=>?_;refine go h λ_ h=>?_;refine kJ [15,14,6,11,10,0,1] h (λs18 gh k=>(5,hS aaf 0 gh 1 s18.length)::k) (λs18 gh=>[bE aaf gh 1 3 (s18.map cI)]) (λs18 u23 h=>?_) λs18 h=>?_
 .exact az h
 refine gC h λv19 h=>?_;refine gy h λq20 h=>?_;refine jP (dG [dF,dF,dF,([0],aaf),dF,dF,dF,dF,([0],aae)]) (by kernel_rfl) (by kernel_rfl)<|go h λf h=>?_;obtain⟨_,g21,_⟩:=f;refine fV 0 [] Z Z (λG hG=>EvA.stO (g:=false) (l:=s14.1) (cs:=[I (bOr .i64 (J s14.1 s6.2)<|ME .i64 V s14.2)]) (bOr .i64 (J s14.1 s6.2)<|ME .i64 V s14.2) Z8 Z Z (hG.a0 Z) nofun (aS Z g21) Z Z Z)<|go h λ_ h=>?_
 cases h
 exact⟨u16,trivial,stW⟩
instance Mg(r_:LI):Ct aaj (lW r_) 222 [eL cI r_] (eL cI):=ctp func222 λq h=>az h
instance Mh(r_:LI):Ct aaj (iR r_) 223 [eL cI r_] (eL cI):=ctp func223 λq h=>by
 refine go h λ_ h=>?_;refine gC h λv1 h=>?_;refine gx h λq2 h=>?_;refine go h λ_ h=>?_;refine jB h λv3 cv3 h=>?_;refine oG Z Z Z ((dX r_ cv3).own Z (nA qE) sF 0 Z) λg4 v5 n6=>?_;refine go h λ_ h=>?_;refine T.jF (G:=(Bool×Nat)) h (λs7 gh=>(gh.1=aae->s7=[])) (λs7 gh=>[(3,hS gh.1 0 gh.2 1 s7.length)]) (λs7 gh=>[bE gh.1 gh.2 1 3 (s7.map cI)]) (λs7 gh h n49=>?_) λs7 h=>?_
 .exact az h
 refine go h λ_ h=>?_;refine kL [12] h (g4,v5) (λs16 gh=>(gh.1=aae->s16.1=[])) (λs16 gh k=>(13,I s16.2)::(3,hS gh.1 0 gh.2 1 s16.1.length)::k) (λs16 gh=>[bE gh.1 gh.2 1 3 (s16.1.map cI)]) (λx=>afh<|n6 x) λs16 gh ws16 h n20=>?_;obtain⟨b19,u18⟩:=gh;refine gy h λq21 h=>?_;refine go h λ_ h=>?_;refine kF (G:=(Bool×Nat)) [13,12] h (λs22 gh=>(gh.1=aae->s22=[])) (λs22 gh k=>(3,hS gh.1 0 gh.2 1 s22.length)::k) (λs22 gh=>[bE gh.1 gh.2 1 3 (s22.map cI)]) (λs22 gh h n45=>?_) λs22 h=>?_
 .exact az h
 refine go h λ_ h=>?_;refine kL [17,4,13,12] h (b19,u18) (λs28 gh=>(gh.1=aae->s28.1=[])) (λs28 gh k=>(18,I s28.2)::(3,hS gh.1 0 gh.2 1 s28.1.length)::k) (λs28 gh=>[bE gh.1 gh.2 1 3 (s28.1.map cI)]) n20 λs28 gh ws28 h n32=>?_;obtain⟨b31,u30⟩:=gh;refine gy h λq33 h=>?_;refine go h λ_ h=>?_;refine kF (G:=(Bool×Nat)) [18,17,4,13,12] h (λs34 gh=>(gh.1=aae->s34=[])) (λs34 gh k=>(3,hS gh.1 0 gh.2 1 s34.length)::k) (λs34 gh=>[bE gh.1 gh.2 1 3 (s34.map cI)]) (λs34 gh h n41=>?_) λs34 h=>?_
 .exact az h
 refine go h λ_ h=>?_;refine jB h λv35 cv35 h=>oA (EvA.callT Z Z (yx s28.1 s28.2 s16.2 cv35) (.cons (Fz.own (g:=b31) (ver:=u30) (l:=s28.1) Z Z Z n32 qE)<|.cons (qD Z)<|.cons (qD Z) .nil) Z)<|gy h λq36 h=>?_;refine T.drawH (dG [dF,dF,dF,([0],aaf),dF,dF,dF,([0],aaf),dF,dF,([0],aae)]) (by kernel_rfl) (by kernel_rfl)<|go h λ_ h=>?_;refine jD h λg37 h=>?_;obtain rfl:=HM n32 rfl g37;refine go h λ_ h=>?_;refine fV 0 [] Z Z (λG hG=>EvA.stO (g:=false) (l:=s28.1) (cs:=[I (bOr .i64 (J s28.1 s28.2)<|J s28.1 s16.2)]) (bOr .i64 (J s28.1 s28.2)<|J s28.1 s16.2) Z8 Z Z (hG.a0 Z) nofun (aS Z g37) Z Z Z)<|go h λ_ h=>?_
 cases h
 exact⟨(aaf,u30),nofun,stW⟩
instance Ev(a:LI)(b:LI):Ct aaj (dU a b) 264 [eL cI a,eL cI b] Bo:=ctp func264 λq h=>az h
theorem Ew(a:LI)(b:LI){q}(h:dU a b=aag q):aF aaj 264 [eL cI a,eL cI b] (Bo q):=(Ev a b).c h
instance Mi(x:Int)(y:Int):Ct aaj (qf x y) 261 [I x,I y] I:=ctp func261 λq h=>az h
instance Bf(a:LI)(b:LI):Ct aaj (iF a b) 260 [eL cI a,eL cI b,.fn (.func 261) []] (eL cI):=ctp func260 λq h=>by
 refine go h λ_ h=>?_;refine gC h λv1 h=>?_;refine gx h λq2 h=>?_;refine go h λ_ h=>?_;refine jD h λg3 h=>oA (EvA.mkN (c:=cI) (aad:Int) iq Z Z g3 Z Z Z)<|go h λ_ h=>?_;refine tJ h (λs4 gh=>[(7,hS aaf 0 gh 1 s4.length)]) (λs4 gh=>[bE aaf gh 1 3 (s4.map cI)]) (λs4 u17 h=>?_) λs4 h=>?_
 .exact az h
 refine go h λ_ h=>?_;refine kT [17,0,1,2] h 0 (λs8 gh k=>(18,I s8.2)::(7,hS aaf 0 gh 1 s8.1.length)::k) (λs8 gh=>[bE aaf gh 1 3 (s8.1.map cI)]) λs8 u10 ws8 h=>?_;refine gy h λq11 h=>?_;refine go h λ_ h=>?_;refine gs h λ_ h=>?_;refine jP (dG [dF,dF,dF,dF,dF,dF,dF,dF,dF,dF,dF,dF,dF,([0],aae)]) (by kernel_rfl) (by kernel_rfl)<|gD h λv14 h=>(go h λf h=>?_);obtain⟨g15,_⟩:=f;refine fV 0 [] Z Z (λG hG=>EvA.stO (g:=false) (l:=s8.1) (cs:=[I v14]) v14 Z8 Z Z (hG.a0 Z) nofun (aS Z g15) Z Z Z)<|go h λ_ h=>?_;obtain rfl:=ZV h;exact⟨((s8.1.set s8.2.toNat v14),(s8.2+V)),u10,Z,trivial,stW⟩
instance OT(a:LI)(b:LI):Ct aaj (oD a b) 224 [eL cI a,eL cI b] (eL cI):=ctp func224 λq h=>az h
instance Nq(x:Int)(y:Int):Ct aaj (rT x y) 262 [I x,I y] I:=ctp func262 λq h=>az h
instance Cg(a:LI)(b:LI):Ct aaj (iS a b) 260 [eL cI a,eL cI b,.fn (.func 262) []] (eL cI):=ctp func260 λq h=>by
 refine go h λ_ h=>?_;refine gC h λv1 h=>?_;refine gx h λq2 h=>?_;refine go h λ_ h=>?_;refine jD h λg3 h=>oA (EvA.mkN (c:=cI) (aad:Int) iq Z Z g3 Z Z Z)<|go h λ_ h=>?_;refine tJ h (λs4 gh=>[(7,hS aaf 0 gh 1 s4.length)]) (λs4 gh=>[bE aaf gh 1 3 (s4.map cI)]) (λs4 u17 h=>?_) λs4 h=>?_
 .exact az h
 refine go h λ_ h=>?_;refine kT [17,0,1,2] h 0 (λs8 gh k=>(18,I s8.2)::(7,hS aaf 0 gh 1 s8.1.length)::k) (λs8 gh=>[bE aaf gh 1 3 (s8.1.map cI)]) λs8 u10 ws8 h=>?_;refine gy h λq11 h=>?_;refine go h λ_ h=>?_;refine gs h λ_ h=>?_;refine jP (dG [dF,dF,dF,dF,dF,dF,dF,dF,dF,dF,dF,dF,dF,([0],aae)]) (by kernel_rfl) (by kernel_rfl)<|gD h λv14 h=>(go h λf h=>?_);obtain⟨g15,_⟩:=f;refine fV 0 [] Z Z (λG hG=>EvA.stO (g:=false) (l:=s8.1) (cs:=[I v14]) v14 Z8 Z Z (hG.a0 Z) nofun (aS Z g15) Z Z Z)<|go h λ_ h=>?_;obtain rfl:=ZV h;exact⟨((s8.1.set s8.2.toNat v14),(s8.2+V)),u10,Z,trivial,stW⟩
instance O8(a:LI)(b:LI):Ct aaj (qJ a b) 225 [eL cI a,eL cI b] (eL cI):=ctp func225 λq h=>az h
instance Mj(x:Int)(y:Int):Ct aaj (qg x y) 263 [I x,I y] I:=ctp func263 λq h=>az h
instance Bg(a:LI)(b:LI):Ct aaj (iG a b) 260 [eL cI a,eL cI b,.fn (.func 263) []] (eL cI):=ctp func260 λq h=>by
 refine go h λ_ h=>?_;refine gC h λv1 h=>?_;refine gx h λq2 h=>?_;refine go h λ_ h=>?_;refine jD h λg3 h=>oA (EvA.mkN (c:=cI) (aad:Int) iq Z Z g3 Z Z Z)<|go h λ_ h=>?_;refine tJ h (λs4 gh=>[(7,hS aaf 0 gh 1 s4.length)]) (λs4 gh=>[bE aaf gh 1 3 (s4.map cI)]) (λs4 u17 h=>?_) λs4 h=>?_
 .exact az h
 refine go h λ_ h=>?_;refine kT [17,0,1,2] h 0 (λs8 gh k=>(18,I s8.2)::(7,hS aaf 0 gh 1 s8.1.length)::k) (λs8 gh=>[bE aaf gh 1 3 (s8.1.map cI)]) λs8 u10 ws8 h=>?_;refine gy h λq11 h=>?_;refine go h λ_ h=>?_;refine gs h λ_ h=>?_;refine jP (dG [dF,dF,dF,dF,dF,dF,dF,dF,dF,dF,dF,dF,dF,([0],aae)]) (by kernel_rfl) (by kernel_rfl)<|gD h λv14 h=>(go h λf h=>?_);obtain⟨g15,_⟩:=f;refine fV 0 [] Z Z (λG hG=>EvA.stO (g:=false) (l:=s8.1) (cs:=[I v14]) v14 Z8 Z Z (hG.a0 Z) nofun (aS Z g15) Z Z Z)<|go h λ_ h=>?_;obtain rfl:=ZV h;exact⟨((s8.1.set s8.2.toNat v14),(s8.2+V)),u10,Z,trivial,stW⟩
instance OU(a:LI)(b:LI):Ct aaj (oF a b) 226 [eL cI a,eL cI b] (eL cI):=ctp func226 λq h=>az h
instance Mk(a:LI)(b:LI):Ct aaj (lY a b) 227 [eL cI a,eL cI b] (eL cI):=ctp func227 λq h=>by
 refine go h λ_ h=>?_;refine gs h λ_ h=>?_;refine oC h (λ_=>Ew _ _) Z Z Z Z λv1 _ h=>?_;refine gi h (λ_ q2 h=>?_) λ_ q2 h=>?_
 .exact az h
 refine go h λ_ h=>?_;refine jD h λg3 h=>oA (EvA.mkN (c:=cI) (aad:Int) iq Z Z g3 Z Z Z)<|go h λ_ h=>?_;refine tJ h (λs4 gh=>[(5,hS aaf 0 gh 1 s4.length)]) (λs4 gh=>[bE aaf gh 1 3 (s4.map cI)]) (λs4 u29 h=>?_) λs4 h=>?_
 .exact az h
 refine go h λ_ h=>?_;refine tT h 0 (λs8 gh=>[(17,I s8.2),(16,I (a.length:Int)),(5,hS aaf 0 gh 1 s8.1.length),(0,eL cI a),(1,eL cI b)]) (λs8 gh=>[bE aaf gh 1 3 (s8.1.map cI)]) λs8 u10 ws8 h=>?_;refine go h λ_ h=>?_;refine jH ?_;refine jN Z h (λq11 h=>?_) λq11 h=>?_
 .refine go h λ_ h=>?_;refine tJ h (λs12 gh=>[(17,I s8.2),(16,I (a.length:Int)),(5,hS aaf 0 gh 1 s12.length),(0,eL cI a),(1,eL cI b)]) (λs12 gh=>[bE aaf gh 1 3 (s12.map cI)]) (λs12 u27 h=>?_) λs12 h=>?_
  .exact az h
  refine go h λ_ h=>?_;refine tT h u10 (λs16 gh=>[(22,I s16.2),(21,I (b.length:Int)),(6,I s8.2),(17,I s8.2),(16,I (a.length:Int)),(5,hS aaf 0 gh 1 s16.1.length),(0,eL cI a),(1,eL cI b)]) (λs16 gh=>[bE aaf gh 1 3 (s16.1.map cI)]) λs16 u18 ws16 h=>?_;refine go h λ_ h=>?_;refine jH ?_;refine jN Z h (λq19 h=>?_) λq19 h=>?_
  .refine go h λ_ h=>?_;refine tJ h (λs20 gh=>[(22,I s16.2),(21,I (b.length:Int)),(6,I s8.2),(17,I s8.2),(16,I (a.length:Int)),(5,hS aaf 0 gh 1 s20.length),(0,eL cI a),(1,eL cI b)]) (λs20 gh=>[bE aaf gh 1 3 (s20.map cI)]) (λs20 u25 h=>?_) λs20 h=>?_
   .exact az h
   refine go h λ_ h=>?_;refine oC h (λ_=>yx _ _ _) Z Z Z Z λv21 _ h=>?_;refine gi h (λ_ q22 h=>?_) λ_ q22 h=>?_
   .refine jP (dG [dF,dF,dF,([0],aaf),dF,dF,dF,dF,dF,dF,([0],aae)]) (by kernel_rfl) (by kernel_rfl)<|go h λf h=>?_;obtain⟨_,g23,_⟩:=f;refine fV 0 [] Z Z (λG hG=>EvA.stO (g:=false) (l:=s16.1) (cs:=[I (bOr .i64 (J s16.1 s8.2)<|J b s16.2)]) (bOr .i64 (J s16.1 s8.2)<|J b s16.2) Z8 Z Z (hG.a0 Z) nofun (aS Z g23) Z Z Z)<|go h λ_ h=>?_;obtain rfl:=ZV h;exact⟨u18,trivial,K5 Z<|ZR Z<|ZR Z<|ZR Z<|ZR Z<|ZR Z<|ZR (congrArg (hS aaf 0 u18 1) (by simp:s16.1.length=(s16.1.set s8.2.toNat<|bOr .i64 (J s16.1 s8.2)<|J b s16.2).length))<|ZR Z<|ZR Z ZQ⟩
   exact az h
  exact az h
 exact az h
theorem Dv:∀(nf:Nat)(p:List<|List ZW)(x:ZX)(e_:aa){q}(h:dh nf p x e_=aag q),aF aaj 165 [eL (cL ZW.c) p,.agg (ZX.c x),.agg (aa.c e_)] (eL cI q):=by
 intro nf
 induction nf with
 |zero=>intros;rename_i h;cases h
 |succ nf ih=>
  intro p x e_ q h;replace h:df (dh nf) p x e_=aag q:=h;refine pM func165 Z (by kernel_rfl) Z<|go h λ_ h=>?_;refine eF Z Z Z<|eF Z Z Z ?_;refine go h λ_ h=>?_;refine gsi h (λ_ q1 h=>?_) λ_ q1 h=>?_
  .exact az h
  refine go h λ_ h=>?_;refine jH<|T.drawP (by kernel_rfl) (by kernel_rfl) ?_;refine go h λ_ h=>?_;refine jD h λg3 h=>fN Z (ZT.res (ZT.ixL Je Z Z g3 ZTE.len) (r':=.fp (aa.c (J e_.Kids U).out) 0) λ_ _ hr=>vP (ZTE.out_c _) hr)<|go h λ_ h=>?_;refine fC h (λ_=>ih _ _ _) Z Z Z Z Z λv4 _ h=>(go h λ_ h=>?_);refine gsi h (λ_ q5 h=>?_) λ_ q5 h=>?_
  .exact az h
  refine gi h (λ_ q7 h=>?_) λ_ q7 h=>?_
  .exact az h
  refine go h λ_ h=>?_;refine jH<|T.drawP (by kernel_rfl) (by kernel_rfl) ?_;refine go h λ_ h=>?_;refine jD h λg9 h=>fN Z (ZT.res (ZT.ixL Je Z Z g9 ZTE.len) (r':=.fp (aa.c (J e_.Kids V).out) 0) λ_ _ hr=>vP (ZTE.out_c _) hr)<|go h λ_ h=>?_;refine fC h (λ_=>ih _ _ _) Z Z Z Z Z λv10 _ h=>(go h λ_ h=>?_);refine gsi h (λ_ q11 h=>?_) λ_ q11 h=>?_
  .exact az h
  exact az h
theorem Ex(p:List<|List ZW)(x:ZX)(e_:aa){q}(h:qK p x e_=aag q):aF aaj 165 [eL (cL ZW.c) p,.agg (ZX.c x),.agg (aa.c e_)] (eL cI q):=by
 obtain⟨nf,h⟩:=nz h;exact Dv nf p x e_ h
instance O9(p:List<|List ZW)(x:ZX)(e_:aa):Ct aaj (qK p x e_) 165 [eL (cL ZW.c) p,.agg (ZX.c x),.agg (aa.c e_)] (eL cI):=⟨Ex p x e_⟩
instance Ju(r_:LI):Ct aaj (fq r_) 229 [eL cI r_] Bo:=ctp func229 λq h=>by
 refine go h λ_ h=>?_;refine qS [] h (λs1 k=>k) (λs1 h=>?_) λKs1 ws1 h ks1=>?_
 .exact az h
 refine go h λ_ h=>?_;refine qU [5,0] h (λs4 k=>(6,I s4)::k) λs4 ws4 h=>?_;exact az h
instance Ml(r_:LI):Ct aaj (lZ r_) 228 [eL cI r_] Bo:=ctp func228 λq h=>az h
instance Hh(x:Int):Ct aaj (jl x) 280 [.v (.int .u64 x)] I:=ctp func280 λq h=>az h
instance Jn(x:Int):Ct aaj (ig x) 265 [.v (.int .u64 x)] I:=ctp func265 λq h=>az h
instance OV(r_:LI):Ct aaj (oI r_) 230 [eL cI r_] I:=ctp func230 λq h=>by
 refine go h λ_ h=>?_;refine gC h λv1 h=>?_;refine gx h λq2 h=>?_;refine go h λ_ h=>?_;refine qV [] h (λs3 k=>(3,I s3)::k) (λs3 h=>?_) λs3 h=>?_
 .exact az h
 refine go h λ_ h=>?_;refine qU [10,9] h (λs6 k=>(11,I s6.1)::(3,I s6.2)::k) λs6 ws6 h=>?_;exact az h
instance Nr(kind:Int)(r_:LI):Ct aaj (m6 kind r_) 166 [I kind,eL cI r_] Bo:=ctp func166 λq h=>az h
instance Mm(p:List<|List ZW)(x:ZX)(m:List ah):Ct aaj (fT p x m) 103 [eL (cL ZW.c) p,.agg (ZX.c x),eL ah.c m] (λq=>.tup [I q.1,eL cI q.2]):=ctp func103 λq h=>by
 refine go h λ_ h=>?_;refine eF Z Z Z<|go h λ_ h=>?_;refine qS [] h (λs1 k=>k) (λs1 h=>?_) λKs1 ws1 h ks1=>?_
 .exact az h
 refine go h λ_ h=>?_;refine qU [12,11,4,0] h (λs4 k=>(13,I s4)::k) λs4 ws4 h=>?_;refine gy h λq6 h=>?_;exact az h
instance Pb(p:List<|List ZW)(x:ZX)(m:List ah):Ct aaj (qL p x m) 74 [eL (cL ZW.c) p,.agg (ZX.c x),eL ah.c m] Bo:=ctp func74 λq h=>az h
instance xz(x:ZX)(a1:List<|List ZW)(a2:List ah):Ct aaj (cH x a1 a2) 73 [.agg (ZX.c x),.fp ((cL<|cL ZW.c) a1) 0,.fp ((cL ah.c) a2) 0] Bo:=ctp func73 λq h=>az h
theorem xB(x:ZX)(a1:List<|List ZW)(a2:List ah){q}(h:cH x a1 a2=aag q):aF aaj 73 [.agg (ZX.c x),.fp ((cL<|cL ZW.c) a1) 0,.fp ((cL ah.c) a2) 0] (Bo q):=(xz x a1 a2).c h
instance dw(s:List ZX)(f0:List<|List ZW)(f1:List ah):Ct aaj (aD s f0 f1) 112 [eL ZX.c s,.fn (.func 73) [.fp ((cL<|cL ZW.c) f0) 0,.fp ((cL ah.c) f1) 0]] I:=ctp func112 λq h=>by
 refine go h λ_ h=>?_;refine qS [] h (λs1 k=>k) (λs1 h=>?_) λKs1 ws1 h ks1=>?_
 .exact az h
 refine go h λ_ h=>?_;refine qU [7,0,1] h (λs4 k=>(8,I s4)::k) λs4 ws4 h=>?_;exact az h
theorem dx(s:List ZX)(f0:List<|List ZW)(f1:List ah){q}(h:aD s f0 f1=aag q):aF aaj 112 [eL ZX.c s,.fn (.func 73) [.fp ((cL<|cL ZW.c) f0) 0,.fp ((cL ah.c) f1) 0]] (I q):=(dw s f0 f1).c h
theorem db(s:List ZX)(del0:List<|List ZW)(del1:List ah)(gw:Bool)(aW:Nat)(hgw:gw=aae->s=[]){q}(h:aC s del0 del1=aag q):cN aaj 54 [hS gw 0 aW 2 s.length,.fn (.func 73) [.fp ((cL<|cL ZW.c) del0) 0,.fp ((cL ah.c) del1) 0]] [bE gw aW 2 30 (s.map ZX.c)] (KO 2 30 (λx=>x) q.length (q.map ZX.c) 0 []):=by
 refine cN.mkS func54 Z (by kernel_rfl) Z (by kernel_rfl) (e0:=ak [(0,hS gw 0 aW 2 s.length),(1,.fn (.func 73) [.fp ((cL<|cL ZW.c) del0) 0,.fp ((cL ah.c) del1) 0])]) (ZR Z<|ZR Z ZQ)<|go h λ_ h=>?_;refine jB h λv1 cv1 h=>oA (EvA.callT Z Z (dx s del0 del1 cv1) (.cons (Fz.own (g:=gw) (ver:=aW) (l:=s) Z Z Z hgw ZX.isF)<|.cons (qD Z) .nil) Z)<|go h λ_ h=>?_;refine gsi h (λ_ q2 h=>?_) λ_ q2 h=>?_
 .refine go h λ_ h=>?_;obtain rfl:=ZV h
  repeat (first|refine pG ?_|refine pI ?_)
  exact⟨ak [(4,hS gw 0 aW 2 s.length)],[bE gw aW 2 30 (s.map ZX.c)],Z9,jQ (vs:=[hS gw 0 aW 2 s.length]) (.cons (.tmp Z) .nil) ⟨gw,aW,(vO hgw Z),Z,Z⟩⟩
 refine go h λ_ h=>?_;refine T.jF (G:=(Bool×Nat)) h (λs3 gh=>(gh.1=aae->s3.1=[])) (λs3 gh=>[(5,I s3.2),(0,hS gh.1 0 gh.2 2 s3.1.length)]) (λs3 gh=>[bE gh.1 gh.2 2 30 (s3.1.map ZX.c)]) (λs3 gh h n26=>?_) λs3 h=>?_
 .obtain⟨b25,u24⟩:=gh;refine go h λ_ h=>?_;refine jD h λg27 h=>?_;obtain rfl:=HM n26 rfl g27;refine jD h λg28 h=>oN (ZT.slhs underlying43 O3 (l:=s3.2) (h:=(s3.1.length:Int)) Z (.yes Z) .no g28)<|oV (EvA.clearO (l:=s3.1) Wt (zrC (λ_ _ h=>CN h)<|zrC (λ_ _ h=>CN h)<|zrE (zs:=[])) Z Z<|Qh (l:=s3.1) g28 Z) ?_;refine go h λ_ h=>?_;refine jD h λg29 h=>oA (EvA.cutO (l:=(cpy s3.1 (0+s3.2.toNat) (afg ((s3.1.length:Int).toNat-s3.2.toNat) (aad:ZX))<|(s3.1.length:Int).toNat-s3.2.toNat)) (zl:=(0:Int)) (zh:=s3.2) (ZT.slhs underlying43 O3 (l:=(0:Int)) (h:=s3.2) Z .no (.yes Z) g29) Z (by simp[CM]) g29)<|go h λ_ h=>?_;obtain rfl:=ZV h
  repeat (first|refine pG ?_|refine pI ?_)
  exact⟨ak [(4,hS aaf 0 (u24+1) 2<|(((cpy s3.1 (0+s3.2.toNat) (afg ((s3.1.length:Int).toNat-s3.2.toNat) (aad:ZX))<|(s3.1.length:Int).toNat-s3.2.toNat).drop U.toNat).take<|s3.2.toNat-U.toNat).length)],[bE aaf (u24+1) 2 30 ((((cpy s3.1 (0+s3.2.toNat) (afg ((s3.1.length:Int).toNat-s3.2.toNat) (aad:ZX))<|(s3.1.length:Int).toNat-s3.2.toNat).drop U.toNat).take<|s3.2.toNat-U.toNat).map ZX.c)],Z9,jQ (vs:=[hS aaf 0 (u24+1) 2 ((((cpy s3.1 (0+s3.2.toNat) (afg ((s3.1.length:Int).toNat-s3.2.toNat) (aad:ZX))<|(s3.1.length:Int).toNat-s3.2.toNat).drop U.toNat).take<|s3.2.toNat-U.toNat).length)]) (.cons (.tmp Z) .nil) ⟨aaf,u24+1,nofun,Z,Z⟩⟩
 refine go h λ_ h=>?_;refine tL h (gw,aW) (λs10 gh=>(gh.1=aae->s10.1=[])) (λs10 gh=>[(6,I s10.2.1),(5,I s10.2.2),(0,hS gh.1 0 gh.2 2 s10.1.length),(1,.fn (.func 73) [.fp ((cL<|cL ZW.c) del0) 0,.fp ((cL ah.c) del1) 0])]) (λs10 gh=>[bE gh.1 gh.2 2 30 (s10.1.map ZX.c)]) hgw λs10 gh ws10 h n14=>?_;let d0:=(⟨(J s10.1 s10.2.1).From,(J s10.1 s10.2.1).Order⟩:ZX);obtain⟨b13,u12⟩:=gh;refine gsi h (λ_ q15 h=>?_) λ_ q15 h=>?_
 .refine go h λ_ h=>?_;refine tJ h (λs16 gh=>[(5,I s16.2),(6,I s10.2.1),(0,hS aaf 0 gh 2 s16.1.length),(1,.fn (.func 73) [.fp ((cL<|cL ZW.c) del0) 0,.fp ((cL ah.c) del1) 0])]) (λs16 gh=>[bE aaf gh 2 30 (s16.1.map ZX.c)]) (λs16 u22 h=>?_) λs16 h=>?_
  .refine go h λ_ h=>?_;obtain rfl:=ZV h;exact⟨(s16.1,(s10.2.1+V),s16.2),(aaf,u22),Z,nofun,Z9⟩
  refine go h λ_ h=>?_;refine jD h λg17 h=>?_;obtain rfl:=HM n14 rfl g17;refine go h λ_ h=>?_;refine oC h (λ_=>xB _ _ _) Z Z Z Z λv18 _ h=>?_;refine gi h (λ_ q19 h=>?_) λ_ q19 h=>?_
  .refine go h λf h=>?_;obtain⟨g20,_⟩:=f;refine oV (EvA.stO (g:=false) (l:=s10.1) (cs:=(ZX.c<|J s10.1 s10.2.1)) d0 O3 Z Z Z nofun (aS Z g20) Z Z Z)<|go h λ_ h=>?_;obtain rfl:=ZV h;exact⟨u12,trivial,qH Z (.cons (.list (g:=false) (ver:=u12) (l:=(s10.1.set s10.2.2.toNat d0)) ZX.isF) .nil)<|ai (.fz<|qD Z)<|ai (.fz<|qD Z)<|ai (.eqv (congrArg (hS aaf 0 u12 2) (by simp:s10.1.length=(s10.1.set s10.2.2.toNat d0).length))<|.hS (g:=false) (b:=0) (ver:=u12) (s:=2) (n:=(s10.1.set s10.2.2.toNat d0).length) Z)<|ai (.fnL<|.cons (.fz<|qD Z)<|.cons (.fz<|qD Z) .nil) aO⟩
  exact az h
 exact az h
instance zB(p:List<|List ZW)(m:List ah):Ct aaj (dM p m) 29 [eL (cL ZW.c) p,eL ah.c m] (eL ZX.c):=ctp func29 λq h=>by
 refine go h λ_ h=>?_;refine eF Z Z Z<|eF Z Z Z ?_;refine go h λ_ h=>?_;refine gC h λv1 h=>?_;refine gB [3,2] h 4 (λs2 k=>(12,Bo s2)::k) λs2 h=>?_;refine gx h λq5 h=>?_;refine go h λ_ h=>?_;refine jB h λv6 cv6 h=>?_;refine oG Z Z Z ((Cf p cv6).own Z (nA ZX.isF) sF 0 Z) λg7 v8 n9=>?_;refine oN (ZT.mkfn [.fp ((cL<|cL ZW.c) p) 0,.fp ((cL ah.c) m) 0] Z Z)<|jB h λv10 cv10 h=>?_;refine oGW Z Z (db v6 p m g7 v8 (λx=>afh<|n9 x) cv10) Z (.cons (kz Z)<|.cons (.pF Z) .nil) (nA ZX.isF) (nA ZX.isF) sF λg11 v12 n13=>?_;exact gf h
theorem zC(p:List<|List ZW)(m:List ah){q}(h:dM p m=aag q):aF aaj 29 [eL (cL ZW.c) p,eL ah.c m] (eL ZX.c q):=(zB p m).c h
theorem xC(v:ZVa)(aW:Nat){q}(h:ij v=aag q):eZ aaj 77 [.hp 0 aW 16 0 0] [aag ⟨aW,16,107,[(ZVa.c v)]⟩] (eL cI q.2) [aag ⟨aW,16,107,[(ZVa.c q.1)]⟩]:=by
 let d0:=(⟨v.p,(⟨v.pc.x0,v.pc.x1,v.pc.x2⟩:Z3b),(⟨(⟨v.reg.x0.x0,v.reg.x0.x1,v.reg.x0.x2⟩:Z3b),(⟨v.reg.x1.x0,v.reg.x1.x1,v.reg.x1.x2⟩:Z3b),(⟨v.reg.x2.x0,v.reg.x2.x1,v.reg.x2.x2⟩:Z3b)⟩:Z33),(⟨v.mem.x0,v.mem.x1,v.mem.x2⟩:Z3b)⟩:ZVa);refine aM func77 Z (by kernel_rfl) Z<|jI ?_;refine gq h λ_ h=>?_;refine jH<|T.reserve ?_;refine go h λ_ h=>?_;refine kF (G:=(Bool×Nat)) [0] h (λs1 gh=>(gh.1=aae->s1=[])) (λs1 gh k=>(3,hS gh.1 1 gh.2 1 s1.length)::k) (λs1 gh=>[aag ⟨aW,16,107,[(ZVa.c v)]⟩,bE gh.1 gh.2 1 3 (s1.map cI)]) (λs1 gh h n36=>?_) λs1 h=>?_
 .obtain⟨b35,u34⟩:=gh;refine T.jF (G:=(Bool×Nat)) h (λs37 gh=>(gh.1=aae->s37=[])) (λs37 gh=>[(3,hS gh.1 1 gh.2 1 s37.length)]) (λs37 gh=>[aag ⟨aW,16,107,[(ZVa.c v)]⟩,bE gh.1 gh.2 1 3 (s37.map cI)]) (λs37 gh h n55=>?_) λs37 h=>?_
  .obtain⟨b54,u53⟩:=gh;refine go h λ_ h=>?_;obtain rfl:=ZV h
   repeat (first|refine pG ?_|refine pI ?_)
   exact⟨ak [(2,eL cI s37)],[aag ⟨aW,16,107,[(ZVa.c (⟨d0.p,(d0.pc),(⟨((d0.reg).x0),((d0.reg).x1),((d0.reg).x2)⟩:Z33),(d0.mem)⟩:ZVa))]⟩],Z9,jQ (vs:=[eL cI s37]) (.cons (.tmp Z) .nil) ⟨Z,Z⟩⟩
  refine go h λ_ h=>?_;refine kL [36] h (b35,u34) (λs43 gh=>(gh.1=aae->s43.1=[])) (λs43 gh k=>(37,I s43.2)::(3,hS gh.1 1 gh.2 1 s43.1.length)::k) (λs43 gh=>[aag ⟨aW,16,107,[(ZVa.c v)]⟩,bE gh.1 gh.2 1 3 (s43.1.map cI)]) n36 λs43 gh ws43 h n47=>?_;obtain⟨b46,u45⟩:=gh;refine gy h λq48 h=>?_;refine go h λ_ h=>?_;refine gs h λ_ h=>?_;refine jD h λg49 h=>oN (ZT.ixag (Y<|Z3b.get v.mem s43.2) underlying104 ty5 Z Z g49<|Zb (P:=λ(z:Int)=>wC aaf 1 (Z3b.c v.mem) (z.toNat*1)=aag (Y<|Z3b.get v.mem z)) g49 Z Z Z)<|gk h λ_ _ h=>?_;obtain rfl:=ZV h;exact⟨((s43.1++[(Z3b.get v.mem s43.2)]),(s43.2+V)),(aaf,u45+1),Z,nofun,Z9⟩
 refine go h λ_ h=>?_;refine kL [13,0] h (aae,0) (λs7 gh=>(gh.1=aae->s7.1=[])) (λs7 gh k=>(14,I s7.2)::(3,hS gh.1 1 gh.2 1 s7.1.length)::k) (λs7 gh=>[aag ⟨aW,16,107,[(ZVa.c v)]⟩,bE gh.1 gh.2 1 3 (s7.1.map cI)]) qE λs7 gh ws7 h n11=>?_;obtain⟨b10,u9⟩:=gh;refine gy h λq12 h=>?_;refine go h λ_ h=>?_;refine kF (G:=(Bool×Nat)) [14,13,0] h (λs13 gh=>(gh.1=aae->s13=[])) (λs13 gh k=>(3,hS gh.1 1 gh.2 1 s13.length)::k) (λs13 gh=>[aag ⟨aW,16,107,[(ZVa.c v)]⟩,bE gh.1 gh.2 1 3 (s13.map cI)]) (λs13 gh h n32=>?_) λs13 h=>?_
 .exact az h
 refine go h λf h=>?_;obtain⟨g14,_⟩:=f;refine oA (lh1 (λz0=>.agg<|Z3b.c<|Z33.get v.reg z0) g14 YW Z Z Z Z Z)<|go h λ_ h=>?_;refine kL [22,14,13,0] h (b10,u9) (λs20 gh=>(gh.1=aae->s20.1=[])) (λs20 gh k=>(23,I s20.2)::(3,hS gh.1 1 gh.2 1 s20.1.length)::k) (λs20 gh=>[aag ⟨aW,16,107,[(ZVa.c v)]⟩,bE gh.1 gh.2 1 3 (s20.1.map cI)]) n11 λs20 gh ws20 h n24=>?_;obtain⟨b23,u22⟩:=gh;refine gy h λq25 h=>?_;refine go h λ_ h=>?_;refine gs h λ_ h=>?_;refine jD h λg26 h=>oN (ZT.ixag (Y<|Z3b.get (Z33.get v.reg s7.2) s20.2) underlying104 ty5 Z Z g26<|Zb (P:=λ(z:Int)=>wC aaf 1 (Z3b.c<|Z33.get v.reg s7.2) (z.toNat*1)=aag (Y<|Z3b.get (Z33.get v.reg s7.2) z)) g26 Z Z Z)<|gk h λ_ _ h=>?_;obtain rfl:=ZV h;exact⟨((s20.1++[(Z3b.get (Z33.get v.reg s7.2) s20.2)]),(s20.2+V)),(aaf,u22+1),Z,nofun,Z9⟩
instance Ch(p:List<|List ZW)(x:ZX):Ct aaj (di p x) 30 [eL (cL ZW.c) p,.agg (ZX.c x)] (λq=>.tup [eL cI q.1,Bo q.2]):=ctp func30 λq h=>by
 refine go h λ_ h=>?_;refine eF Z Z Z<|gC h λv1 h=>?_;refine gx h λq2 h=>?_;refine go h λ_ h=>?_;refine kV [8,6,3] h (λs3 k=>k) (λs3=>[aag ⟨0,16,107,[[eL (cL ZW.c) p,Y U,Y U,Y U,Y s3.1,Y s3.2.1,Y s3.2.2.1,Y s3.2.2.2.1,Y s3.2.2.2.2.1,Y s3.2.2.2.2.2.1,Y s3.2.2.2.2.2.2.1,Y s3.2.2.2.2.2.2.2.1,Y s3.2.2.2.2.2.2.2.2,Y U,Y U,Y U]]⟩]) (λs3 h=>?_) λs3 h=>?_
 .refine kV [8] h (λs21 k=>k) (λs21=>[aag ⟨0,16,107,[[eL (cL ZW.c) p,Y U,Y U,Y U,Y s3.1,Y s3.2.1,Y s3.2.2.1,Y s3.2.2.2.1,Y s3.2.2.2.2.1,Y s3.2.2.2.2.2.1,Y s3.2.2.2.2.2.2.1,Y s3.2.2.2.2.2.2.2.1,Y s3.2.2.2.2.2.2.2.2,Y s21.1,Y s21.2.1,Y s21.2.2]]⟩]) (λs21 h=>?_) λs21 h=>?_
  .refine go h λ_ h=>?_;refine jB h λv35 cv35 h=>oA (EvA.call Z Z Z<|(xC (⟨p,(⟨U,U,U⟩:Z3b),(⟨(⟨s3.1,s3.2.1,s3.2.2.1⟩:Z3b),(⟨s3.2.2.2.1,s3.2.2.2.2.1,s3.2.2.2.2.2.1⟩:Z3b),(⟨s3.2.2.2.2.2.2.1,s3.2.2.2.2.2.2.2.1,s3.2.2.2.2.2.2.2.2⟩:Z3b)⟩:Z33),(⟨s21.1,s21.2.1,s21.2.2⟩:Z3b)⟩:ZVa) 0 cv35).one 0 Z (.cons (.hp Z) .nil) (au Z) (au Z) Z) ?_;exact gf h
  refine go h λ_ h=>?_;refine kU [60,59,8,6] h (λs25 k=>(61,I s25.2.2.2)::k) (λs25=>[aag ⟨0,16,107,[[eL (cL ZW.c) p,Y U,Y U,Y U,Y s3.1,Y s3.2.1,Y s3.2.2.1,Y s3.2.2.2.1,Y s3.2.2.2.2.1,Y s3.2.2.2.2.2.1,Y s3.2.2.2.2.2.2.1,Y s3.2.2.2.2.2.2.2.1,Y s3.2.2.2.2.2.2.2.2,Y s25.1,Y s25.2.1,Y s25.2.2.1]]⟩]) λs25 ws25 h=>?_;refine gy h λq27 h=>?_;refine go h λ_ h=>?_;refine gs h λf h=>?_;obtain⟨g33,_⟩:=f;refine oV (sr1 (λz0=>(ZVa.c (⟨p,(⟨U,U,U⟩:Z3b),(⟨(⟨s3.1,s3.2.1,s3.2.2.1⟩:Z3b),(⟨s3.2.2.2.1,s3.2.2.2.2.1,s3.2.2.2.2.2.1⟩:Z3b),(⟨s3.2.2.2.2.2.2.1,s3.2.2.2.2.2.2.2.1,s3.2.2.2.2.2.2.2.2⟩:Z3b)⟩:Z33),(Z3b.set (⟨s25.1,s25.2.1,s25.2.2.1⟩:Z3b) z0<|J v1.1<|J (J x.Order s25.2.2.2)<|((J x.Order s25.2.2.2).length:Int)-V)⟩:ZVa))) g33 ty5 Z Z Z Z Z Z)<|go h λ_ h=>?_;exact lE h Z9
 refine gC h λv4 h=>?_;refine kU [25,24,8,6,3,0] h (λs7 k=>(26,I s7.2.2.2.2.2.2.2.2.2)::k) (λs7=>[aag ⟨0,16,107,[[eL (cL ZW.c) p,Y U,Y U,Y U,Y s7.1,Y s7.2.1,Y s7.2.2.1,Y s7.2.2.2.1,Y s7.2.2.2.2.1,Y s7.2.2.2.2.2.1,Y s7.2.2.2.2.2.2.1,Y s7.2.2.2.2.2.2.2.1,Y s7.2.2.2.2.2.2.2.2.1,Y U,Y U,Y U]]⟩]) λs7 ws7 h=>?_;refine gy h λq9 h=>?_;refine go h λ_ h=>?_;refine kV [26,25,24,8,6,3,0] h (λs10 k=>k) (λs10=>[aag ⟨0,16,107,[[eL (cL ZW.c) p,Y U,Y U,Y U,Y s10.1,Y s10.2.1,Y s10.2.2.1,Y s10.2.2.2.1,Y s10.2.2.2.2.1,Y s10.2.2.2.2.2.1,Y s10.2.2.2.2.2.2.1,Y s10.2.2.2.2.2.2.2.1,Y s10.2.2.2.2.2.2.2.2,Y U,Y U,Y U]]⟩]) (λs10 h=>?_) λs10 h=>?_
 .exact az h
 refine gy h λq12 h=>?_;refine jP (dG [dF,([1],aaf),dF,dF,([1],aaf),dF,dF,dF,([1],aaf),dF,dF,dF,dF,dF,dF,dF,dF,dF,dF,dF,dF,dF,dF,dF,([0],aae)]) (by kernel_rfl) (by kernel_rfl)<|go h λf h=>?_;obtain⟨g19,g18,_⟩:=f;refine fV 0 [] Z Z (λG hG=>sr2 (λz0 z1=>(ZVa.c (⟨p,(⟨U,U,U⟩:Z3b),(⟨((Z33.set (⟨(⟨s7.1,s7.2.1,s7.2.2.1⟩:Z3b),(⟨s7.2.2.2.1,s7.2.2.2.2.1,s7.2.2.2.2.2.1⟩:Z3b),(⟨s7.2.2.2.2.2.2.1,s7.2.2.2.2.2.2.2.1,s7.2.2.2.2.2.2.2.2.1⟩:Z3b)⟩:Z33) z0<|Z3b.set (Z33.get (⟨(⟨s7.1,s7.2.1,s7.2.2.1⟩:Z3b),(⟨s7.2.2.2.1,s7.2.2.2.2.1,s7.2.2.2.2.2.1⟩:Z3b),(⟨s7.2.2.2.2.2.2.1,s7.2.2.2.2.2.2.2.1,s7.2.2.2.2.2.2.2.2.1⟩:Z3b)⟩:Z33) z0) z1<|J v1.1<|J x.From s7.2.2.2.2.2.2.2.2.2).x0),((Z33.set (⟨(⟨s7.1,s7.2.1,s7.2.2.1⟩:Z3b),(⟨s7.2.2.2.1,s7.2.2.2.2.1,s7.2.2.2.2.2.1⟩:Z3b),(⟨s7.2.2.2.2.2.2.1,s7.2.2.2.2.2.2.2.1,s7.2.2.2.2.2.2.2.2.1⟩:Z3b)⟩:Z33) z0<|Z3b.set (Z33.get (⟨(⟨s7.1,s7.2.1,s7.2.2.1⟩:Z3b),(⟨s7.2.2.2.1,s7.2.2.2.2.1,s7.2.2.2.2.2.1⟩:Z3b),(⟨s7.2.2.2.2.2.2.1,s7.2.2.2.2.2.2.2.1,s7.2.2.2.2.2.2.2.2.1⟩:Z3b)⟩:Z33) z0) z1<|J v1.1<|J x.From s7.2.2.2.2.2.2.2.2.2).x1),((Z33.set (⟨(⟨s7.1,s7.2.1,s7.2.2.1⟩:Z3b),(⟨s7.2.2.2.1,s7.2.2.2.2.1,s7.2.2.2.2.2.1⟩:Z3b),(⟨s7.2.2.2.2.2.2.1,s7.2.2.2.2.2.2.2.1,s7.2.2.2.2.2.2.2.2.1⟩:Z3b)⟩:Z33) z0<|Z3b.set (Z33.get (⟨(⟨s7.1,s7.2.1,s7.2.2.1⟩:Z3b),(⟨s7.2.2.2.1,s7.2.2.2.2.1,s7.2.2.2.2.2.1⟩:Z3b),(⟨s7.2.2.2.2.2.2.1,s7.2.2.2.2.2.2.2.1,s7.2.2.2.2.2.2.2.2.1⟩:Z3b)⟩:Z33) z0) z1<|J v1.1<|J x.From s7.2.2.2.2.2.2.2.2.2).x2)⟩:Z33),(⟨U,U,U⟩:Z3b)⟩:ZVa))) g18 g19 ty5 Z Z (hG.a0 Z) ⟨Z,Z,Z,Z,Z,Z,Z,Z,Z⟩)<|go h λ_ h=>?_
 cases h
 exact⟨(),trivial,Z9⟩
theorem Ci(p:List<|List ZW)(x:ZX){q}(h:di p x=aag q):aF aaj 30 [eL (cL ZW.c) p,.agg (ZX.c x)] (.tup [eL cI q.1,Bo q.2]):=(Ch p x).c h
instance wU(s1_:LI)(s2_:LI):Ct aaj (aN s1_ s2_) 31 [eL cI s1_,eL cI s2_] Bo:=ctp func31 λq h=>by
 refine gx h λq1 h=>?_;refine go h λ_ h=>?_;refine qS [] h (λs2 k=>k) (λs2 h=>?_) λKs2 ws2 h ks2=>?_
 .exact az h
 refine go h λ_ h=>?_;refine qU [12,0,1] h (λs5 k=>(13,I s5)::k) λs5 ws5 h=>?_;exact az h
theorem nU(s1_:LI)(s2_:LI){q}(h:aN s1_ s2_=aag q):aF aaj 31 [eL cI s1_,eL cI s2_] (Bo q):=(wU s1_ s2_).c h
instance Pd(p:List<|List ZW)(m:List ah)(o_:LI):Ct aaj (qM p m o_) 7 [eL (cL ZW.c) p,eL ah.c m,eL cI o_] (λq=>.tup [.agg (ZX.c q.1),Bo q.2]):=ctp func7 λq h=>by
 refine go h λ_ h=>?_;refine gs h λ_ h=>?_;refine oC h (λ_=>rM _ _) Z Z Z Z λv1 _ h=>(go h λ_ h=>?_);refine kB [6,0,1,2] h 4 (λs2 k=>(20,Bo s2)::k) (λs2=>[aag ⟨0,2,30,[[.nil,.nil]]⟩]) (λs2 q3 h js2=>?_) (λs2 q3 h js2=>?_) λs2 h=>?_
 .exact gj h js2
 .refine go h λ_ h=>?_;refine jB h λv4 cv4 h=>gN Z q3 (ZT.call Z Z Z (uU m cv4) Z) ?_;exact gj h js2
 refine gi h (λ_ q5 h=>?_) λ_ q5 h=>?_
 .exact az h
 refine go h λ_ h=>?_;refine kS [6] h (λs6 k=>k) (λs6=>[aag ⟨0,2,30,[[.nil,.nil]]⟩]) (λs6 h=>?_) λKs6 ws6 h ks6=>?_
 .exact gf h
 refine go h λ_ h=>?_;refine oC h (λ_=>zC _ _) Z Z Z Z λv7 _ h=>(go h λ_ h=>?_);refine kU [25,24,6,0,2] h (λs10 k=>(26,I s10)::k) (λs10=>[aag ⟨0,2,30,[[.nil,.nil]]⟩]) λs10 ws10 h=>?_;refine go h λ_ h=>?_;refine jH ?_;refine jN Z h (λq12 h=>?_) λq12 h=>?_
 .refine go h λ_ h=>?_;refine gs h λ_ h=>?_;refine oC h (λ_=>Ci _ _) Z Z Z Z λv14 _ h=>(go h λ_ h=>?_);refine oC h (λ_=>nU _ _) Z Z Z Z λv15 _ h=>?_;refine gi h (λ_ q16 h=>?_) λ_ q16 h=>?_
  .exact az h
  exact az h
 refine jM<|lX h λh=>?_
 cases h
 exact⟨(),(),ks6,trivial,Z9⟩
instance Gs(p:List<|List ZW):Ct aaj (sW p) 79 [eL (cL ZW.c) p] I:=ctp func79 λq h=>az h
theorem Gt(p:List<|List ZW){q}(h:sW p=aag q):aF aaj 79 [eL (cL ZW.c) p] (I q):=(Gs p).c h
instance zD(p:List<|List ZW)(o_:LI):Ct aaj (fZ p o_) 32 [eL (cL ZW.c) p,eL cI o_] Bo:=ctp func32 λq h=>by
 refine go h λ_ h=>?_;refine gs h λ_ h=>?_;refine oC h (λ_=>lM _) Z Z Z Z λv1 _ h=>(go h λ_ h=>?_);refine kB [1] h 6 (λs2 k=>(15,Bo s2)::k) (λs2=>[]) (λs2 q3 h js2=>?_) (λs2 q3 h js2=>?_) λs2 h=>?_
 .exact gj h js2
 .refine go h λ_ h=>?_;refine jB h λv4 cv4 h=>gN Z q3 (ZT.call Z Z Z (Gt p cv4) Z) ?_;exact gj h js2
 refine gi h (λ_ q5 h=>?_) λ_ q5 h=>?_
 .exact az h
 refine go h λ_ h=>?_;refine kS [] h (λs6 k=>k) (λs6=>[]) (λs6 h=>?_) λKs6 ws6 h ks6=>?_
 .exact gz h
 refine go h λ_ h=>?_;refine kU [1] h (λs9 k=>(5,I s9)::k) (λs9=>[]) λs9 ws9 h=>?_;refine gsi h (λ_ q11 h=>?_) λ_ q11 h=>?_
 .refine go h λ_ h=>?_;refine gs h λ_ h=>?_;refine oC h (λ_=>Ji _ _) Z Z Z Z λv13 _ h=>?_;refine gi h (λ_ q14 h=>?_) λ_ q14 h=>?_
  .refine go h λ_ h=>?_;refine lX h λh=>?_;obtain rfl:=ZV h;replace h:=congrArg aag (show _=_ from ks6);exact gz h
  refine go h λ_ h=>?_;exact lE h Z9
 refine jM<|lX h λh=>?_
 cases h
 exact⟨(),(),ks6,trivial,Z9⟩
theorem zE(p:List<|List ZW)(o_:LI){q}(h:fZ p o_=aag q):aF aaj 32 [eL (cL ZW.c) p,eL cI o_] (Bo q):=(zD p o_).c h
instance Gu(op:Int):Ct aaj (fF op) 191 [I op] I:=ctp func191 λq h=>by
 refine gx h λq1 h=>?_;refine qV [3] h (λs2 k=>(6,Bo s2)::k) (λs2 h=>?_) λs2 h=>?_
 .exact az h
 exact az h
theorem Gv(op:Int){q}(h:fF op=aag q):aF aaj 191 [I op] (I q):=(Gu op).c h
theorem Ey{q}(h:dW=aag q):aF aaj 129 [] (eL cS q):=by
 refine aF.mkT func129 Z (by kernel_rfl) Z (by kernel_rfl) (e0:=ak []) ZQ<|jI ?_;refine go h λ_ h=>?_;refine oN (ZT.mkF (c:=cS) ([(⟨#[112,111]⟩:BA),(⟨#[108,111,99]⟩:BA),(⟨#[101,120,116]⟩:BA),(⟨#[114,102]⟩:BA),(⟨#[99,111]⟩:BA),(⟨#[102,114]⟩:BA),(⟨#[102,101,110,99,101]⟩:BA),(⟨#[119,114]⟩:BA),(⟨#[119,119]⟩:BA),(⟨#[105,100]⟩:BA)]:List BA) [[St (⟨#[112,111]⟩:BA)],[St (⟨#[108,111,99]⟩:BA)],[St (⟨#[101,120,116]⟩:BA)],[St (⟨#[114,102]⟩:BA)],[St (⟨#[99,111]⟩:BA)],[St (⟨#[102,114]⟩:BA)],[St (⟨#[102,101,110,99,101]⟩:BA)],[St (⟨#[119,114]⟩:BA)],[St (⟨#[119,119]⟩:BA)],[St (⟨#[105,100]⟩:BA)]] Ur Z Z Z qE qE Z) ?_;exact gz h
instance Pe:Ct aaj (dW ) 129 [] (eL cS):=⟨Ey⟩
instance Ez(s:BA):Ct aaj (fO s) 192 [St s] Bo:=ctp func192 λq h=>by
 refine gC h λv1 h=>?_;refine qS [] h (λs2 k=>k) (λs2 h=>?_) λKs2 ws2 h ks2=>?_
 .exact az h
 refine go h λ_ h=>?_;refine qU [3,0] h (λs5 k=>(4,I s5)::k) λs5 ws5 h=>?_;exact az h
theorem EA(s:BA){q}(h:fO s=aag q):aF aaj 192 [St s] (Bo q):=(Ez s).c h
theorem Dw:∀(nf:Nat)(e_:aa)(depth:Int){q}(h:eT nf e_ depth=aag q),aF aaj 145 [.agg (aa.c e_),I depth] (Bo q):=by
 intro nf
 induction nf with
 |zero=>intros;rename_i h;cases h
 |succ nf ih=>
  intro e_ depth q h;replace h:gP (eT nf) e_ depth=aag q:=h;refine pM func145 Z (by kernel_rfl) Z<|go h λ_ h=>?_;refine eF Z Z Z<|go h λ_ h=>?_;refine qS [2,1] h (λs1 k=>k) (λs1 h=>?_) λKs1 ws1 h ks1=>?_
  .obtain⟨Ks10,es10,ws10,h,ks10⟩:=II h;refine T.join (S:=Unit) (G:=Unit) (λs10=>Ks10 s10=aag q) (λs10 gh=>True) (λs10 gh=>[]) (λs10 gh=>[]) (λs10 gh h hg=>?_) ?_
   .exact az h
   refine go h λ_ h=>?_;refine qU [2,1] h (λs13 k=>(5,I s13)::k) λs13 ws13 h=>?_;refine gy h λq15 h=>?_;refine go h λ_ h=>?_;refine gs h λ_ h=>?_;refine jD h λg16 h=>oN (ZT.res (ZT.ixL Je Z Z g16 ZTE.len) (r':=.fp (aa.c (J e_.Kids s13).out) 0) λ_ _ hr=>vP (ZTE.out_c _) hr)<|go h λ_ h=>?_;refine oC h (λ_=>ih _ _) Z Z Z Z λv18 _ h=>?_;exact az h
  refine qV [2,1] h (λs2 k=>(35,Bo s2)::k) (λs2 h=>?_) λs2 h=>?_
  .exact az h
  refine T.drawG (λ_=>([],aaf)) (by kernel_rfl) (by kernel_rfl)<|go h λ_ h=>?_;rcases DY h with⟨q3,h⟩|⟨q3,h⟩
  .exact az h
  refine go h λ_ h=>?_;refine jB h λv4 cv4 h=>tgN Z q3 Z (ZT.call Z Z Z (Gv e_.Op cv4) Z)<|gp h λ_ h=>?_;refine go h λ_ h=>?_;rcases DY h with⟨q5,h⟩|⟨q5,h⟩
  .refine gp h λ_ h=>?_;refine gp h λ_ h=>?_;refine go h λ_ h=>?_
   cases h
   exact⟨(),trivial,Z9⟩
  refine go h λ_ h=>?_;refine jB h λv6 cv6 h=>tgN Z q5 Z (ZT.call Z Z Z (EA e_.Name cv6) Z)<|tgN Z q5 Z (ZT.bne bt4 Z Z) ?_;refine gp h λ_ h=>?_;refine go h λ_ h=>?_;rcases DY h with⟨q7,h⟩|⟨q7,h⟩
  .refine gp h λ_ h=>?_;refine go h λ_ h=>?_
   cases h
   exact⟨(),trivial,Z9⟩
  refine go h λ_ h=>?_;rcases DY h with⟨q8,h⟩|⟨q8,h⟩
  .refine go h λ_ h=>?_;refine tgN Z q7 Z (ZT.pickT Z q8 (Bo<|!decide (e_.Name=(⟨#[]⟩:BA))) Z)<|gp h λ_ h=>?_;refine go h λ_ h=>?_
   cases h
   exact⟨(),trivial,Z9⟩
  refine go h λ_ h=>?_;refine tgN Z q7 Z (ZT.pickF Z q8 (Bo aaf) Z)<|gp h λ_ h=>?_;refine go h λ_ h=>?_
  cases h
  exact⟨(),trivial,Z9⟩
theorem EC(e_:aa)(depth:Int){q}(h:qN e_ depth=aag q):aF aaj 145 [.agg (aa.c e_),I depth] (Bo q):=by
 obtain⟨nf,h⟩:=nz h;exact Dw nf e_ depth h
instance Pf(e_:aa)(depth:Int):Ct aaj (qN e_ depth) 145 [.agg (aa.c e_),I depth] Bo:=⟨EC e_ depth⟩
theorem Dx:∀(nf:Nat)(e_:aa)(most:Int){q}(h:eX nf e_ most=aag q),aF aaj 146 [.agg (aa.c e_),I most] (I q):=by
 intro nf
 induction nf with
 |zero=>intros;rename_i h;cases h
 |succ nf ih=>
  intro e_ most q h;replace h:gQ (eX nf) e_ most=aag q:=h;refine pM func146 Z (by kernel_rfl) Z<|go h λ_ h=>?_;refine eF Z Z Z<|go h λ_ h=>?_;refine qV [] h (λs1 k=>(5,I s1)::k) (λs1 h=>?_) λs1 h=>?_
  .exact az h
  refine go h λ_ h=>?_;refine qU [2,1] h (λs4 k=>(6,I s4.1)::(5,I s4.2)::k) λs4 ws4 h=>?_;refine gs h λ_ h=>?_;refine gB [6,5,2,1] h 4 (λs6 k=>(16,Bo s6)::k) λs6 h=>?_;refine gy h λq8 h=>?_;refine go h λ_ h=>?_;refine gs h λ_ h=>?_;refine jD h λg9 h=>oN (ZT.res (ZT.ixL Je Z Z g9 ZTE.len) (r':=.fp (aa.c (J e_.Kids s4.1).out) 0) λ_ _ hr=>vP (ZTE.out_c _) hr)<|go h λ_ h=>?_;refine oC h (λ_=>ih _ _) Z Z Z Z λv11 _ h=>(go h λ_ h=>?_);exact lE h Z9
theorem ED(e_:aa)(most:Int){q}(h:qO e_ most=aag q):aF aaj 146 [.agg (aa.c e_),I most] (I q):=by
 obtain⟨nf,h⟩:=nz h;exact Dx nf e_ most h
instance Pg(e_:aa)(most:Int):Ct aaj (qO e_ most) 146 [.agg (aa.c e_),I most] I:=⟨ED e_ most⟩
instance KI(e_:aa):Ct aaj (cG e_) 81 [.agg (aa.c e_)] Bo:=ctp func81 λq h=>az h
theorem uW(m:List ah){q}(h:dN m=aag q):aF aaj 33 [eL ah.c m] (Bo q):=by
 refine pM func33 Z (by kernel_rfl) Z<|jI<|oN as'<|jA ?_;refine qS [0] h (λs1 k=>k) (λs1 h=>?_) λKs1 ws1 h ks1=>?_
 .refine jI<|oN mv<|oN (ZT.lenL Im Z)<|oN (ZT.igt Z Z)<|oN mv ?_;refine gB [] h 4 (λs17 k=>(44,Bo s17)::k) λs17 h=>?_;refine oN as'<|jA<|jK ?_
  cases h
  exact SV Z Z Z
 refine jI<|oN as'<|jA<|jE ?_;refine T.lU h (λs4=>[(3,I s4),(0,eL ah.c m)]) (λs4=>[]) (kw Z Z) λs4 ws4 h=>?_;refine jH<|jI<|oN mv<|oN mv<|oN (ZT.lenL Im Z)<|oN (ZT.ilt Z Z)<|oN mv ?_;refine gB [3,0] h 3 (λs6 k=>(11,Bo s6)::k) λs6 h=>?_;refine jA ?_;refine jN Z h (λq8 h=>?_) λq8 h=>?_
 .refine jG<|jH<|jE<|jI<|oN mv<|oN mv<|jD h λg9 h=>oN (ZT.ixL Im Z Z g9 qE)<|oN (fa Yx Z)<|oN (lf (I<|(J m s4).Kind) Z8 Z)<|oN (ZT.ilt Z Z)<|oN mv ?_;refine gB [3,0] h 7 (λs10 k=>(27,Bo s10)::k) λs10 h=>?_;refine oN mv<|gB [3,0] h 8 (λs12 k=>(36,Bo s12)::k) λs12 h=>?_;refine jA ?_;refine jN Z h (λq15 h=>?_) λq15 h=>?_
  .refine jI<|oN as'<|jA<|jK<|lX h λh=>?_;obtain rfl:=ZV h;replace h:=congrArg aag (show _=_ from ks1)
   cases h
   exact SV Z Z Z
  refine jG<|jC<|oN mv<|jW h λg16 h=>oN (ZT.add Z Z g16)<|oN as'<|jA ?_;exact lE h<|kw Z Z
 refine jM<|lX h λh=>?_
 cases h
 exact⟨(),(),ks1,trivial,kw Z Z⟩
instance OW(p:List<|List ZW):Ct aaj (f9 p) 84 [eL (cL ZW.c) p] (eL ZY.c):=ctp func84 λq h=>by
 refine go h λ_ h=>?_;refine oA (EvA.mkO (c:=ZY.c) ([]:List ZY) [] Kq Z Z Z qE Z Z)<|go h λ_ h=>?_;refine kJ [0] h (λs1 gh k=>(3,hS aaf 0 gh 5 s1.length)::k) (λs1 gh=>[bE aaf gh 5 111 (s1.map ZY.c)]) (λs1 u11 h=>?_) λs1 h=>?_
 .refine tJ h (λs12 gh=>[(3,hS aaf 0 gh 5 s12.length)]) (λs12 gh=>[bE aaf gh 5 111 (s12.map ZY.c)]) (λs12 u39 h=>?_) λs12 h=>?_
  .exact az h
  refine go h λ_ h=>?_;refine kT [0] h u11 (λs16 gh k=>(5,I s16.2)::(3,hS aaf 0 gh 5 s16.1.length)::k) (λs16 gh=>[bE aaf gh 5 111 (s16.1.map ZY.c)]) λs16 u18 ws16 h=>?_;refine gy h λq19 h=>?_;refine go h λ_ h=>?_;refine kJ [5,0] h (λs20 gh k=>(3,hS aaf 0 gh 5 s20.length)::k) (λs20 gh=>[bE aaf gh 5 111 (s20.map ZY.c)]) (λs20 u37 h=>?_) λs20 h=>?_
  .exact az h
  refine go h λ_ h=>?_;refine kT [5,0] h u18 (λs24 gh k=>(6,I s24.2)::(3,hS aaf 0 gh 5 s24.1.length)::k) (λs24 gh=>[bE aaf gh 5 111 (s24.1.map ZY.c)]) λs24 u26 ws24 h=>?_;refine gs h λf h=>?_;obtain⟨g27,_⟩:=f;refine jN Z h (λq28 h=>?_) λq28 h=>?_
  .refine go h λ_ h=>?_;refine kJ [6,5,0] h (λs29 gh k=>(3,hS aaf 0 gh 5 s29.length)::k) (λs29 gh=>[bE aaf gh 5 111 (s29.map ZY.c)]) (λs29 u35 h=>?_) λs29 h=>?_
   .exact az h
   refine gy h λq31 h=>?_;refine T.cl [7,6,5,3,0] Z<|jP (dG [dF,dF,dF,dF,([1],aaf),([1],aaf),dF,([1],aaf),dF,dF,dF,([0],aae),dF]) (by kernel_rfl) (by kernel_rfl) ?_;refine gC h λv32 h=>?_;refine gC h λv33 h=>?_;refine fN Z (ZT.mkF (c:=ZY.c) ([(⟨s16.2,s24.2,(J (J p s16.2) s24.2).Loc,v32,v33⟩:ZY)]:List ZY) [[I s16.2,I s24.2,I ((J (J p s16.2) s24.2).Loc),Bo v32,Bo v33]] Kq Z Z Z qE ZY.isF Z)<|jL h λg34 h=>fW 0 [] Z Z (λG hG=>EvA.app1 (g:=false) (l:=s24.1) (⟨s16.2,s24.2,(J (J p s16.2) s24.2).Loc,v32,v33⟩:ZY) Kq (by kernel_rfl) Z Z (hG.a0 Z) nofun (bH.fz (l:=([(⟨s16.2,s24.2,(J (J p s16.2) s24.2).Loc,v32,v33⟩:ZY)]:List ZY)) Z qE) g34) ?_;refine go h λ_ h=>?_
   cases h
   exact⟨u26+1,trivial,Z9⟩
  exact az h
 refine go h λ_ h=>?_;refine kT [0] h 0 (λs5 gh k=>(4,I s5.2)::(3,hS aaf 0 gh 5 s5.1.length)::k) (λs5 gh=>[bE aaf gh 5 111 (s5.1.map ZY.c)]) λs5 u7 ws5 h=>?_;refine gy h λq8 h=>?_;refine go h λ_ h=>?_;refine gs h λ_ h=>?_;refine oN (ZT.mkF (c:=ZY.c) ([(⟨(-1:Int),s5.2,s5.2,aaf,aae⟩:ZY)]:List ZY) [[I (-1:Int),I s5.2,I s5.2,Bo aaf,Bo aae]] Kq Z Z Z qE ZY.isF Z)<|go h λ_ h=>?_;obtain rfl:=ZV h;exact⟨((s5.1++[(⟨(-1:Int),s5.2,s5.2,aaf,aae⟩:ZY)]),(s5.2+V)),u7+1,Z,trivial,Z9⟩
instance Ns(events:List ZY)(loc:Int):Ct aaj (gT events loc) 171 [eL ZY.c events,I loc] (eL cI):=ctp func171 λq h=>by
 refine go h λ_ h=>?_;refine oA (EvA.mkO (c:=cI) ([]:LI) [] iq Z Z Z qE Z Z)<|go h λ_ h=>?_;refine tJ h (λs1 gh=>[(5,hS aaf 0 gh 1 s1.length)]) (λs1 gh=>[bE aaf gh 1 3 (s1.map cI)]) (λs1 u17 h=>?_) λs1 h=>?_
 .exact az h
 refine go h λ_ h=>?_;refine kT [0,1] h 0 (λs5 gh k=>(6,I s5.2)::(5,hS aaf 0 gh 1 s5.1.length)::k) (λs5 gh=>[bE aaf gh 1 3 (s5.1.map cI)]) λs5 u7 ws5 h=>?_;refine gy h λq8 h=>?_;refine go h λ_ h=>?_;refine kJ [6,0,1] h (λs9 gh k=>(5,hS aaf 0 gh 1 s9.length)::k) (λs9 gh=>[bE aaf gh 1 3 (s9.map cI)]) (λs9 u15 h=>?_) λs9 h=>?_
 .exact az h
 refine go h λf h=>?_;obtain⟨g10,_⟩:=f;refine gB [6,5,0,1] h 8 (λs11 k=>(27,Bo s11)::k) λs11 h=>?_;refine gy h λq13 h=>?_;refine gk h λ_ _ h=>?_
 cases h
 exact⟨u7+1,trivial,Z9⟩
theorem Dy:∀(nf:Nat)(events:List ZY)(i:Int){q}(h:jy nf events i=aag q),aF aaj 147 [eL ZY.c events,I i] (eL (cL cI) q):=by
 intro nf
 induction nf with
 |zero=>intros;rename_i h;cases h
 |succ nf ih=>
  intro events i q h;replace h:gV (jy nf) events i=aag q:=h;refine pM func147 Z (by kernel_rfl) Z<|go h λ_ h=>?_;refine gsi h (λ_ q1 h=>?_) λ_ q1 h=>?_
  .refine go h λ_ h=>?_;refine oN (ZT.mkF (c:=cI) ([]:LI) [] iq Z Z Z qE qE Z)<|gk h λ_ _ h=>?_;exact gz h
  refine go h λ_ h=>?_;refine oC h (λ_=>ih _ _) Z Z Z Z λv3 _ h=>(gk h λ_ _ h=>?_);refine qV [5,1] h (λs4 k=>(6,eL cI s4)::k) (λs4 h=>?_) λs4 h=>?_
  .refine go h λ_ h=>?_;refine oA (EvA.mkO (c:=(cL cI)) ([]:LL) [] wo Z Z Z qE Z Z)<|go h λ_ h=>?_;refine tJ h (λs8 gh=>[(7,hS aaf 0 gh 1 s8.length)]) (λs8 gh=>[bE aaf gh 1 25 (s8.map<|cL cI)]) (λs8 u34 h=>?_) λs8 h=>?_
   .exact az h
   refine go h λ_ h=>?_;refine kT [6,5,1] h 0 (λs12 gh k=>(8,I s12.2)::(7,hS aaf 0 gh 1 s12.1.length)::k) (λs12 gh=>[bE aaf gh 1 25 (s12.1.map<|cL cI)]) λs12 u14 ws12 h=>?_;let d0:=s4.getD s12.2.toNat aad;refine gy h λq15 h=>?_;refine go h λ_ h=>?_;refine kJ [8,6,5,1] h (λs16 gh k=>(7,hS aaf 0 gh 1 s16.length)::k) (λs16 gh=>[bE aaf gh 1 25 (s16.map<|cL cI)]) (λs16 u32 h=>?_) λs16 h=>?_
   .exact az h
   refine go h λ_ h=>?_;refine kT [8,6,5,1] h u14 (λs20 gh k=>(9,I s20.2)::(7,hS aaf 0 gh 1 s20.1.length)::k) (λs20 gh=>[bE aaf gh 1 25 (s20.1.map<|cL cI)]) λs20 u22 ws20 h=>?_;refine gs h λ_ h=>?_;refine gB [9,8,7,6,5,1] h 7 (λs23 k=>(51,Bo s23)::k) λs23 h=>?_;refine gy h λq26 h=>?_;refine go h λ_ h=>?_;refine gs h λ_ h=>?_;refine T.drawX [0,1,2,3,4,6,7,8,9,5,10,11,12,13] (λi=>([(aaf,[]),(aaf,[]),(aaf,[]),(aaf,[]),(aaf,[]),(aae,[]),(aaf,[]),(aaf,[]),(aaf,[]),(aaf,[]),(aae,[1]),(aae,[]),(aae,[0]),(aaf,[])]:List Xc).getD i (aaf,[])) (by kernel_rfl) (by kernel_rfl) (by kernel_rfl)<|go h λ_ h=>?_;refine xA Z Z (EvA.mkO (c:=cI) ([d0]:LI) [[I d0]] iq Z Z Z qE Z Z) qI<|jL h λg29 h=>xA Z Z (EvA.appF (l:=([d0]:LI)) (J v3 s20.2) iq (by kernel_rfl) Z Z Z (bH.fz (l:=(J v3 s20.2)) Z qE) g29) fB<|xA Z Z (EvA.mkR [[hS aaf 1 (0+1) 1 ((([d0]:LI)++(J v3 s20.2)).length)]] wo Z Z Z Z) qI<|jL h λg30 h=>xA Z Z (EvA.appR (g:=false) (rows:=s20.1.map<|cL cI) (rows':=s20.1.map (cL cI)++[[hS aaf 1 (0+1) 1 ((([d0]:LI)++(J v3 s20.2)).length)]]) (n':=s20.1.length+1) wo (by kernel_rfl) Z Z (by simp) nofun (bH.raw (rows:=[[hS aaf 1 (0+1) 1 ((([d0]:LI)++(J v3 s20.2)).length)]]) Z Z Z) g30 Z Z) fB ?_;refine gq h λ_ h=>?_;refine T.cut (e0:=ak [(7,hS aaf 0 (u22+1) 1<|(s20.1++[(([d0]:LI)++(J v3 s20.2))]).length),(9,I s20.2),(8,I s12.2),(6,eL cI s4),(5,eL (cL cI) v3),(1,I i)]) (H0:=[bE aaf (u22+1) 1 25 ((s20.1++[(([d0]:LI)++(J v3 s20.2))]).map<|cL cI)]) (qH Z (.cons (.snoc qE<|.cons (.cons (.fz<|Fz.own (g:=false) (ver:=0+1) (l:=(([d0]:LI)++(J v3 s20.2))) Z Z Z nofun qE) .nil) .nil) .nil)<|ai (.eqv (congrArg (hS aaf 0 (u22+1) 1) (by simp:(s20.1.length+1)=(s20.1++[(([d0]:LI)++(J v3 s20.2))]).length))<|.hS (g:=false) (b:=0) (ver:=u22+1) (s:=1) (n:=(s20.1++[(([d0]:LI)++(J v3 s20.2))]).length) Z)<|ai (.fz<|qD Z)<|ai (.fz<|qD Z)<|ai (.fz<|qD Z)<|ai (.fz<|qD Z)<|ai (.fz<|qD Z) aO)<|go h λ_ h=>?_;obtain rfl:=ZV h;exact⟨((s20.1++[(([d0]:LI)++(J v3 s20.2))]),(s20.2+V)),u22+1,Z,trivial,Z9⟩
  exact az h
theorem EE(events:List ZY)(i:Int){q}(h:qP events i=aag q):aF aaj 147 [eL ZY.c events,I i] (eL (cL cI) q):=by
 obtain⟨nf,h⟩:=nz h;exact Dy nf events i h
instance Ph(events:List ZY)(i:Int):Ct aaj (qP events i) 147 [eL ZY.c events,I i] (eL<|cL cI):=⟨EE events i⟩
theorem Dz:∀(nf:Nat)(list:LI){q}(h:jJ nf list=aag q),aF aaj 193 [eL cI list] (eL (cL cI) q):=by
 intro nf
 induction nf with
 |zero=>intros;rename_i h;cases h
 |succ nf ih=>
  intro list q h;replace h:gW (jJ nf) list=aag q:=h;refine pM func193 Z (by kernel_rfl) Z<|go h λ_ h=>?_;refine gsi h (λ_ q1 h=>?_) λ_ q1 h=>?_
  .refine go h λ_ h=>?_;refine oN (ZT.mkF (c:=cI) ([]:LI) [] iq Z Z Z qE qE Z)<|gk h λ_ _ h=>?_;exact gz h
  refine go h λ_ h=>?_;refine oA (EvA.mkO (c:=(cL cI)) ([]:LL) [] wo Z Z Z qE Z Z)<|go h λ_ h=>?_;refine tJ h (λs2 gh=>[(3,hS aaf 0 gh 1 s2.length)]) (λs2 gh=>[bE aaf gh 1 25 (s2.map<|cL cI)]) (λs2 u31 h=>?_) λs2 h=>?_
  .exact az h
  refine go h λ_ h=>?_;refine kT [0] h 0 (λs6 gh k=>(4,I s6.2)::(3,hS aaf 0 gh 1 s6.1.length)::k) (λs6 gh=>[bE aaf gh 1 25 (s6.1.map<|cL cI)]) λs6 u8 ws6 h=>?_;let d0:=list.getD s6.2.toNat aad;refine gy h λq9 h=>?_;refine go h λ_ h=>?_;refine kJ [4,0] h (λs10 gh k=>(3,hS aaf 0 gh 1 s10.length)::k) (λs10 gh=>[bE aaf gh 1 25 (s10.map<|cL cI)]) (λs10 u29 h=>?_) λs10 h=>?_
  .exact az h
  refine jE<|jH<|T.reserve<|T.drawH (dG [([1],aae),dF,dF,dF,([1],aae),dF,dF,dF,dF,([1],aae),dF]) (by kernel_rfl) (by kernel_rfl)<|fW 1 [] Z Z (λG hG=>EvA.mkOR (c:=cI) 1 ([]:LI) [] iq Z Z Z qE qE Z<|hG.a0 Z) ?_;refine go h λ_ h=>?_;refine jD h λg11 h=>fN Z (ZT.slL iq Z .no (.yes Z) g11 qE)<|jL h λg12 h=>fW 1 [] Z Z (λG hG=>EvA.appF (l:=([]:LI)) ((list.drop U.toNat).take<|s6.2.toNat-U.toNat) iq (by kernel_rfl) Z Z (hG.a0 Z) (bH.fz (l:=((list.drop U.toNat).take<|s6.2.toNat-U.toNat)) Z qE) g12) ?_;refine go h λ_ h=>?_;refine jD h λg14 h=>fN Z (ZT.slL iq Z (.yes Z) .no g14 qE)<|jL h λg15 h=>fW 1 [] Z Z (λG hG=>EvA.appF (l:=(([]:LI)++((list.drop U.toNat).take<|s6.2.toNat-U.toNat))) ((list.drop (s6.2+V).toNat).take<|(list.length:Int).toNat-(s6.2+V).toNat) iq (by kernel_rfl) Z Z (hG.a0 Z) (bH.fz (l:=((list.drop (s6.2+V).toNat).take<|(list.length:Int).toNat-(s6.2+V).toNat)) Z qE) g15)<|fN Z (ZT.asg (hS aaf 1 ((0+1)+1) 1<|((([]:LI)++((list.drop U.toNat).take<|s6.2.toNat-U.toNat))++((list.drop (s6.2+V).toNat).take<|(list.length:Int).toNat-(s6.2+V).toNat)).length) Z)<|jR<|jI<|oN mv<|TO.cut (e0:=ak [(30,eL cI<|(([]:LI)++((list.drop U.toNat).take<|s6.2.toNat-U.toNat))++((list.drop (s6.2+V).toNat).take<|(list.length:Int).toNat-(s6.2+V).toNat)),(4,I s6.2),(3,hS aaf 0 u8 1 s6.1.length),(0,eL cI list)]) (H0:=[bE aaf u8 1 25 (s6.1.map<|cL cI)]) (qH Z (.cons (.list (g:=false) (ver:=u8) (l:=s6.1) qE) .nil)<|ai (.fz<|Fz.own (g:=false) (ver:=(0+1)+1) (l:=((([]:LI)++((list.drop U.toNat).take<|s6.2.toNat-U.toNat))++((list.drop (s6.2+V).toNat).take<|(list.length:Int).toNat-(s6.2+V).toNat))) Z Z Z nofun qE)<|ai (.fz<|qD Z)<|ai (.hS (g:=false) (b:=0) (ver:=u8) (s:=1) (n:=s6.1.length) Z)<|ai (.fz<|qD Z) aO)<|oC h (λ_=>ih _) Z Z Z Z λv16 _ h=>?_;refine go h λ_ h=>?_;refine kT [6,4,0] h u8 (λs20 gh k=>(7,I s20.2)::(3,hS aaf 0 gh 1 s20.1.length)::k) (λs20 gh=>[bE aaf gh 1 25 (s20.1.map<|cL cI)]) λs20 u22 ws20 h=>?_;refine gy h λq23 h=>?_;refine go h λ_ h=>?_;refine gs h λ_ h=>?_;refine T.drawX [0,1,2,3,4,6,7,8,9,5,10,11,12,13] (λi=>([(aaf,[]),(aaf,[]),(aaf,[]),(aaf,[]),(aaf,[]),(aae,[]),(aaf,[]),(aaf,[]),(aaf,[]),(aaf,[]),(aae,[1]),(aae,[]),(aae,[0]),(aaf,[])]:List Xc).getD i (aaf,[])) (by kernel_rfl) (by kernel_rfl) (by kernel_rfl)<|go h λ_ h=>?_;refine xA Z Z (EvA.mkO (c:=cI) ([d0]:LI) [[I d0]] iq Z Z Z qE Z Z) qI<|jL h λg26 h=>xA Z Z (EvA.appF (l:=([d0]:LI)) (J v16 s20.2) iq (by kernel_rfl) Z Z Z (bH.fz (l:=(J v16 s20.2)) Z qE) g26) fB<|xA Z Z (EvA.mkR [[hS aaf 1 (0+1) 1 ((([d0]:LI)++(J v16 s20.2)).length)]] wo Z Z Z Z) qI<|jL h λg27 h=>xA Z Z (EvA.appR (g:=false) (rows:=s20.1.map<|cL cI) (rows':=s20.1.map (cL cI)++[[hS aaf 1 (0+1) 1 ((([d0]:LI)++(J v16 s20.2)).length)]]) (n':=s20.1.length+1) wo (by kernel_rfl) Z Z (by simp) nofun (bH.raw (rows:=[[hS aaf 1 (0+1) 1 ((([d0]:LI)++(J v16 s20.2)).length)]]) Z Z Z) g27 Z Z) fB ?_;refine gq h λ_ h=>?_;refine T.cut (e0:=ak [(3,hS aaf 0 (u22+1) 1<|(s20.1++[(([d0]:LI)++(J v16 s20.2))]).length),(7,I s20.2),(6,eL (cL cI) v16),(4,I s6.2),(0,eL cI list)]) (H0:=[bE aaf (u22+1) 1 25 ((s20.1++[(([d0]:LI)++(J v16 s20.2))]).map<|cL cI)]) (qH Z (.cons (.snoc qE<|.cons (.cons (.fz<|Fz.own (g:=false) (ver:=0+1) (l:=(([d0]:LI)++(J v16 s20.2))) Z Z Z nofun qE) .nil) .nil) .nil)<|ai (.eqv (congrArg (hS aaf 0 (u22+1) 1) (by simp:(s20.1.length+1)=(s20.1++[(([d0]:LI)++(J v16 s20.2))]).length))<|.hS (g:=false) (b:=0) (ver:=u22+1) (s:=1) (n:=(s20.1++[(([d0]:LI)++(J v16 s20.2))]).length) Z)<|ai (.fz<|qD Z)<|ai (.fz<|qD Z)<|ai (.fz<|qD Z)<|ai (.fz<|qD Z) aO)<|go h λ_ h=>?_;obtain rfl:=ZV h;exact⟨((s20.1++[(([d0]:LI)++(J v16 s20.2))]),(s20.2+V)),u22+1,Z,trivial,Z9⟩
theorem EF(list:LI){q}(h:vS list=aag q):aF aaj 193 [eL cI list] (eL (cL cI) q):=by
 obtain⟨nf,h⟩:=nz h;exact Dz nf list h
theorem Cj:∀(nf:Nat)(events:List ZY)(loc:Int){q}(h:iU nf events loc=aag q),aF aaj 148 [eL ZY.c events,I loc] (eL (cL<|cL cI) q):=by
 intro nf
 induction nf with
 |zero=>intros;rename_i h;cases h
 |succ nf ih=>
  intro events loc q h;replace h:fU (iU nf) events loc=aag q:=h;refine pM func148 Z (by kernel_rfl) Z<|go h λ_ h=>?_;refine gsi h (λ_ q1 h=>?_) λ_ q1 h=>?_
  .refine go h λ_ h=>?_;refine oN (ZT.mkF (c:=(cL cI)) ([]:LL) [] wo Z Z Z qE qE Z)<|gk h λ_ _ h=>?_;exact gz h
  refine go h λ_ h=>?_;refine oC h (λ_=>ih _ _) Z Z Z Z λv3 _ h=>(gC h λv4 h=>?_);refine jD h λg5 h=>oN (ZT.slL iq Z (.yes Z) .no g5 qE)<|oC h (λ_=>EF _) Z Z Z Z λv6 _ h=>?_;refine go h λ_ h=>?_;refine oA (EvA.mkO (c:=(cL<|cL cI)) ([]:List<|LL) [] Kr Z Z Z qE Z Z)<|go h λ_ h=>?_;refine tJ h (λs7 gh=>[(8,hS aaf 0 gh 1 s7.length)]) (λs7 gh=>[bE aaf gh 1 28 (s7.map<|cL<|cL cI)]) (λs7 u32 h=>?_) λs7 h=>?_
  .refine T.cut (e0:=ak [(8,eL (cL<|cL cI) s7)]) (H0:=[]) (qH Z .nil<|ai (.fz<|Fz.own (g:=false) (ver:=u32) (l:=s7) Z Z Z nofun qE) aO) ?_;exact gz h
  refine go h λ_ h=>?_;refine kT [7,6,5] h 0 (λs11 gh k=>(9,I s11.2)::(8,hS aaf 0 gh 1 s11.1.length)::k) (λs11 gh=>[bE aaf gh 1 28 (s11.1.map<|cL<|cL cI)]) λs11 u13 ws11 h=>?_;refine gy h λq14 h=>?_;refine go h λ_ h=>?_;refine kJ [9,7,6,5] h (λs15 gh k=>(8,hS aaf 0 gh 1 s15.length)::k) (λs15 gh=>[bE aaf gh 1 28 (s15.map<|cL<|cL cI)]) (λs15 u30 h=>?_) λs15 h=>?_
  .exact az h
  refine jE<|jH<|T.reserve<|jP (dG [dF,dF,dF,([1],aae),dF,dF,dF,dF,([1],aae),dF]) (by kernel_rfl) (by kernel_rfl) ?_;refine go h λ_ h=>?_;refine fW 1 [] Z Z (λG hG=>EvA.mkOR (c:=cI) 1 ([(J v4 U)]:LI) [[I (J v4 U)]] iq Z Z Z qE qE Z<|hG.a0 Z)<|go h λ_ h=>?_;refine jL h λg18 h=>fW 1 [] Z Z (λG hG=>EvA.appF (l:=([(J v4 U)]:LI)) (J v6 s11.2) iq (by kernel_rfl) Z Z (hG.a0 Z) (bH.fz (l:=(J v6 s11.2)) Z qE) g18)<|fN Z (ZT.asg (hS aaf 1 (0+1) 1<|(([(J v4 U)]:LI)++(J v6 s11.2)).length) Z)<|jR<|jI<|oN as'<|TO.cut (e0:=ak [(11,I U),(10,eL cI<|([(J v4 U)]:LI)++(J v6 s11.2)),(9,I s11.2),(8,hS aaf 0 u13 1 s11.1.length),(7,eL (cL cI) v6),(6,eL cI v4),(5,eL (cL<|cL cI) v3)]) (H0:=[bE aaf u13 1 28 (s11.1.map<|cL<|cL cI)]) (qH Z (.cons (.list (g:=false) (ver:=u13) (l:=s11.1) qE) .nil)<|ai (.fz<|qD Z)<|ai (.fz<|Fz.own (g:=false) (ver:=0+1) (l:=(([(J v4 U)]:LI)++(J v6 s11.2))) Z Z Z nofun qE)<|ai (.fz<|qD Z)<|ai (.hS (g:=false) (b:=0) (ver:=u13) (s:=1) (n:=s11.1.length) Z)<|ai (.fz<|qD Z)<|ai (.fz<|qD Z)<|ai (.fz<|qD Z) aO) ?_;refine go h λ_ h=>?_;refine kT [10,9,7,6,5] h u13 (λs22 gh k=>(11,I s22.2)::(8,hS aaf 0 gh 1 s22.1.length)::k) (λs22 gh=>[bE aaf gh 1 28 (s22.1.map<|cL<|cL cI)]) λs22 u24 ws22 h=>?_;refine gy h λq25 h=>?_;refine go h λ_ h=>?_;refine gs h λ_ h=>?_;refine oA (EvA.mkO (c:=(cL cI)) ([(([(J v4 U)]:LI)++(J v6 s11.2))]:LL) [[eL cI (([(J v4 U)]:LI)++(J v6 s11.2))]] wo Z Z Z qE Z Z)<|go h λ_ h=>?_;refine oA (EvA.mkR [[hS aaf 1 (0+1) 1 ((([(([(J v4 (0:Int))]:LI)++(J v6 s11.2))]:LL)++(J v3 s22.2)).length)]] Kr Z Z Z Z)<|jL h λg28 h=>oA (EvA.appR (g:=false) (rows:=s22.1.map<|cL<|cL cI) (rows':=s22.1.map (cL<|cL cI)++[[hS aaf 1 (0+1) 1 ((([(([(J v4 (0:Int))]:LI)++(J v6 s11.2))]:LL)++(J v3 s22.2)).length)]]) (n':=s22.1.length+1) Kr (by kernel_rfl) Z Z (by simp) nofun (bH.raw (rows:=[[hS aaf 1 (0+1) 1 ((([(([(J v4 (0:Int))]:LI)++(J v6 s11.2))]:LL)++(J v3 s22.2)).length)]]) Z Z Z) g28 Z Z) ?_;refine gq h λ_ h=>?_;refine T.cut (e0:=ak [(8,hS aaf 0 (u24+1) 1<|(s22.1++[(([(([(J v4 (0:Int))]:LI)++(J v6 s11.2))]:LL)++(J v3 s22.2))]).length),(11,I s22.2),(10,eL cI<|([(J v4 (0:Int))]:LI)++(J v6 s11.2)),(9,I s11.2),(7,eL (cL cI) v6),(6,eL cI v4),(5,eL (cL<|cL cI) v3)]) (H0:=[bE aaf (u24+1) 1 28 ((s22.1++[(([(([(J v4 (0:Int))]:LI)++(J v6 s11.2))]:LL)++(J v3 s22.2))]).map<|cL<|cL cI)]) (qH Z (.cons (.snoc qE<|.cons (.cons (.fz<|Fz.own (g:=false) (ver:=0+1) (l:=(([(([(J v4 (0:Int))]:LI)++(J v6 s11.2))]:LL)++(J v3 s22.2))) Z Z Z nofun qE) .nil) .nil) .nil)<|ai (.eqv (congrArg (hS aaf 0 (u24+1) 1) (by simp:(s22.1.length+1)=(s22.1++[(([(([(J v4 (0:Int))]:LI)++(J v6 s11.2))]:LL)++(J v3 s22.2))]).length))<|.hS (g:=false) (b:=0) (ver:=u24+1) (s:=1) (n:=(s22.1++[(([(([(J v4 (0:Int))]:LI)++(J v6 s11.2))]:LL)++(J v3 s22.2))]).length) Z)<|ai (.fz<|qD Z)<|ai (.fz<|qD Z)<|ai (.fz<|qD Z)<|ai (.fz<|qD Z)<|ai (.fz<|qD Z)<|ai (.fz<|qD Z) aO)<|go h λ_ h=>?_;obtain rfl:=ZV h;exact⟨((s22.1++[(([(([(J v4 U)]:LI)++(J v6 s11.2))]:LL)++(J v3 s22.2))]),(s22.2+V)),u24+1,Z,trivial,Z9⟩
theorem DC(events:List ZY)(loc:Int){q}(h:oK events loc=aag q):aF aaj 148 [eL ZY.c events,I loc] (eL (cL<|cL cI) q):=by
 obtain⟨nf,h⟩:=nz h;exact Cj nf events loc h
instance OX(events:List ZY)(loc:Int):Ct aaj (oK events loc) 148 [eL ZY.c events,I loc] (eL<|cL<|cL cI):=⟨DC events loc⟩
theorem Gw(x:ZX){q}(h:oL x=aag q):aF aaj 149 [.agg (ZX.c x)] (.agg<|ZX.c q):=by
 refine pM func149 Z (by kernel_rfl) Z<|jI<|oN (ZT.bxF (ZX.c x) Z Z Z)<|oA (EvA.al X7 Z Z)<|jA<|jH<|T.reserve<|jC<|oA (EvA.mkO (c:=cI) ([]:LI) [] iq Z Z Z qE Z Z)<|oN (fa WS Z)<|oN (lf (eL cI x.From) AX Z)<|jL h λg1 h=>oA (EvA.appF (l:=([]:LI)) x.From iq (by kernel_rfl) Z Z Z (bH.fz (l:=x.From) Z qE) g1)<|oN (ZT.build [hS aaf 2 (0+1) 1 ((([]:LI)++x.From).length),hS aae 1 0 1 (([]:LL).length)] underlying30 X7 WS Z Z)<|oA (EvA.al X7 Z Z)<|oV (sr [hS aaf 2 (0+1) 1 ((([]:LI)++x.From).length),hS aae 1 0 1 (([]:LL).length)] O3 Z Z Z Z) ?_;refine jA ?_;refine kF (G:=(Bool×Nat)) [3,2] h (λs2 gh=>(gh.1=aae->s2=[])) (λs2 gh k=>k) (λs2 gh=>[aag ⟨0,2,30,[[.nil,.nil]]⟩,bE gh.1 gh.2 1 25 (s2.map<|cL cI),bE aaf (0+1) 1 3 ((([]:LI)++x.From).map cI),aag ⟨0,2,30,[[hS aaf 2 (0+1) 1 ((([]:LI)++x.From).length),hS gh.1 1 gh.2 1 s2.length]]⟩]) (λs2 gh h n20=>?_) λs2 h=>?_
 .obtain⟨b19,u18⟩:=gh;refine jI<|oA (lh (.agg [hS aaf 2 (0+1) 1 ((([]:LI)++x.From).length),hS b19 1 u18 1 s2.length]) O3 Z Z Z)<|oV (EvA.st (cs:=[hS aaf 2 (0+1) 1 ((([]:LI)++x.From).length),hS b19 1 u18 1 s2.length]) ⟨0,2,30,[[hS aaf 2 (0+1) 1 ((([]:LI)++x.From).length),hS b19 1 u18 1 s2.length]]⟩ O3 Z (by generalize b19=gq0;cases gq0 <;> rfl) Z Z Z Z Z Z Z)<|jA<|jK ?_;obtain rfl:=ZV h
  repeat (first|refine pG ?_|refine pI ?_)
  exact jQ (vs:=[.agg [hS aaf 2 (0+1) 1 ((([]:LI)++x.From).length),hS b19 1 u18 1 s2.length]]) (.cons (.cell (.agg [hS aaf 2 (0+1) 1 ((([]:LI)++x.From).length),hS b19 1 u18 1 s2.length]) O3 Z Z Z Z Z Z) .nil)<|Fz.aggL<|.cons (Fz.own (g:=false) (ver:=0+1) (l:=(([]:LI)++x.From)) Z Z Z nofun qE)<|.cons (Fz.own (g:=b19) (ver:=u18) (l:=s2) Z Z Z n20 qE) .nil
 refine jI<|oN as'<|jA<|jE ?_;refine jO (S:=(LL)×Int) (G:=(Bool×Nat)) (rU x) (λs8 gh=>(gh.1=aae->s8.1=[])) (λs8 gh=>[(4,I s8.2),(3,.hp 3 0 2 0 0),(2,.hp 0 0 2 0 0),(1,.fp (ZX.c x) 0)]) (λs8 gh=>[aag ⟨0,2,30,[[.nil,.nil]]⟩,bE gh.1 gh.2 1 25 (s8.1.map<|cL cI),bE aaf (0+1) 1 3 ((([]:LI)++x.From).map cI),aag ⟨0,2,30,[[hS aaf 2 (0+1) 1 ((([]:LI)++x.From).length),hS gh.1 1 gh.2 1 s8.1.length]]⟩]) (s0:=(([]:LL),U)) (aae,0) h qE (kw Z Z) λs8 gh ws8 h n12=>?_;obtain⟨b11,u10⟩:=gh;refine jH<|jI<|oN mv<|oN (fa WS Z)<|oN (lf (eL (cL cI) x.Order) Jd Z)<|oN (ZT.lenL wo Z)<|oN (ZT.ilt Z Z)<|jA ?_;refine jN Z h (λq13 h=>?_) λq13 h=>?_
 .refine jG<|jH<|jE<|T.drawX [0,3,4,5,6,7,1,2,8,9,10,11,12] (λi=>([(aaf,[]),(aaf,[3]),(aae,[]),(aaf,[]),(aaf,[]),(aaf,[]),(aaf,[]),(aaf,[]),(aae,[4]),(aae,[]),(aae,[1]),(aaf,[]),(aae,[3])]:List Xc).getD i (aaf,[])) (by kernel_rfl) (by kernel_rfl) (by kernel_rfl)<|xN Z Z (fa WS Z)<|xN Z Z (fa WS Z)<|xN Z Z (lf (eL (cL cI) x.Order) Jd Z)<|xN Z Z mv<|jD h λg14 h=>xN Z Z (ZT.ixL wo Z Z g14 qE)<|xN Z Z (lf (eL cI<|J x.Order s8.2) AX Z)<|xR [3] Z Z Z (λG hG=>EvA.loadhp (hS b11 1 u10 1 s8.1.length) Jd Z (hG.a0 Z) Z Z Z Z)<|xA Z Z (EvA.mkO (c:=cI) ([]:LI) [] iq Z Z Z qE Z Z) qI<|jL h λg15 h=>xA Z Z (EvA.appF (l:=([]:LI)) (J x.Order s8.2) iq (by kernel_rfl) Z Z Z (bH.fz (l:=(J x.Order s8.2)) Z qE) g15) fB<|xA Z Z (EvA.mkR [[hS aaf 4 (0+1) 1 ((([]:LI)++(J x.Order s8.2)).length)]] wo Z Z Z Z) qI ?_;refine jL h λg16 h=>xA Z Z (EvA.appR (g:=b11) (rows:=s8.1.map<|cL cI) (rows':=s8.1.map (cL cI)++[[hS aaf 4 (0+1) 1 ((([]:LI)++(J x.Order s8.2)).length)]]) (n':=s8.1.length+1) wo (by kernel_rfl) Z Z (by simp) (λq=>by first|(rw[n12 q];rfl)|(cases q)) (bH.raw (rows:=[[hS aaf 4 (0+1) 1 ((([]:LI)++(J x.Order s8.2)).length)]]) Z Z Z) g16 Z Z) fB<|xN Z Z (fa WS Z)<|xV Z Z (sr [hS aaf 2 (0+1) 1 ((([]:LI)++x.From).length),hS aaf 1 (u10+1) 1 (s8.1.length+1)] Jd Z Z Z Z) fB<|TX.nil<|T.cut (e0:=ak [(4,I s8.2),(3,.hp 3 0 2 0 0),(2,.hp 0 0 2 0 0),(1,.fp (ZX.c x) 0)]) (H0:=[aag ⟨0,2,30,[[.nil,.nil]]⟩,bE aaf (u10+1) 1 25 ((s8.1++[(([]:LI)++(J x.Order s8.2))]).map<|cL cI),bE aaf (0+1) 1 3 ((([]:LI)++x.From).map cI),aag ⟨0,2,30,[[hS aaf 2 (0+1) 1 ((([]:LI)++x.From).length),hS aaf 1 (u10+1) 1 (s8.1.length+1)]]⟩]) (qH Z (.cons (.row<|.cons (.fz<|qD Z)<|.cons (.fz<|qD Z) .nil)<|.cons (.snoc qE<|.cons (.cons (.fz<|Fz.own (g:=false) (ver:=0+1) (l:=(([]:LI)++(J x.Order s8.2))) Z Z Z nofun qE) .nil) .nil)<|.cons (.list (g:=false) (ver:=0+1) (l:=(([]:LI)++x.From)) qE)<|.cons (.row<|.cons (.hS (g:=false) (b:=2) (ver:=0+1) (s:=1) (n:=(([]:LI)++x.From).length) Z)<|.cons (.hS (g:=false) (b:=1) (ver:=u10+1) (s:=1) (n:=(s8.1.length+1)) Z) .nil) .nil)<|ai (.fz<|qD Z)<|ai (.hp<|nlb Z)<|ai (.hp<|nlb Z)<|ai (.fz<|qD Z) aO)<|jC<|oN mv<|jW h λg17 h=>oN (ZT.add Z Z g17)<|oN as'<|jA ?_;obtain rfl:=ZV h;exact⟨((s8.1++[(([]:LI)++(J x.Order s8.2))]),(s8.2+(1:Int))),(aaf,u10+1),Z,nofun,kw (by first|(simp only[afi] <;> rfl)|simp only[lla,afj,llc,List.length_nil,afi]) Z⟩
 exact az h
instance S9(p:List<|List ZW):Ct aaj (vD p) 82 [eL (cL ZW.c) p] (eL ZX.c):=ctp func82 λq h=>by
 refine gC h λv1 h=>?_;refine gC h λv2 h=>?_;refine gC h λv3 h=>?_;refine oA (EvA.mkO (c:=ZX.c) ([]:List ZX) [] Wt Z Z Z qE Z Z)<|go h λ_ h=>?_;refine tJ h (λs4 gh=>[(6,hS aaf 0 gh 2 s4.length)]) (λs4 gh=>[bE aaf gh 2 30 (s4.map ZX.c)]) (λs4 u27 h=>?_) λs4 h=>?_
 .exact az h
 refine go h λ_ h=>?_;refine kT [5,4] h 0 (λs8 gh k=>(7,I s8.2)::(6,hS aaf 0 gh 2 s8.1.length)::k) (λs8 gh=>[bE aaf gh 2 30 (s8.1.map ZX.c)]) λs8 u10 ws8 h=>?_;refine gy h λq11 h=>?_;refine go h λ_ h=>?_;refine kJ [7,5,4] h (λs12 gh k=>(6,hS aaf 0 gh 2 s12.length)::k) (λs12 gh=>[bE aaf gh 2 30 (s12.map ZX.c)]) (λs12 u25 h=>?_) λs12 h=>?_
 .exact az h
 refine go h λ_ h=>?_;refine kT [7,5,4] h u10 (λs16 gh k=>(8,I s16.2)::(6,hS aaf 0 gh 2 s16.1.length)::k) (λs16 gh=>[bE aaf gh 2 30 (s16.1.map ZX.c)]) λs16 u18 ws16 h=>?_;refine gy h λq19 h=>?_;refine go h λ_ h=>?_;refine gs h λ_ h=>?_;refine jP (dG [dF,dF,dF,dF,dF,dF,dF,dF,dF,dF,dF,dF,([0],aae),dF]) (by kernel_rfl) (by kernel_rfl)<|go h λ_ h=>?_;refine fC h (λ_=>Gw _) Z Z Z Z Z λv22 _ h=>fN Z (ZT.mkF (c:=ZX.c) ([v22]:List ZX) [(ZX.c v22)] Wt Z Z Z qE ZX.isF Z)<|jL h λg23 h=>fW 0 [] Z Z (λG hG=>EvA.app1 (g:=false) (l:=s16.1) v22 Wt (by kernel_rfl) Z Z (hG.a0 Z) nofun (bH.fz (l:=([v22]:List ZX)) Z qE) g23) ?_;refine go h λ_ h=>?_;obtain rfl:=ZV h;exact⟨((s16.1++[v22]),(s16.2+V)),u18+1,Z,trivial,Z9⟩
instance Ta(p:List<|List ZW)(events:List ZY)(t:Int)(index:Int)(reg:Int):Ct aaj (rI p events t index reg) 86 [eL (cL ZW.c) p,eL ZY.c events,I t,I index,I reg] I:=ctp func86 λq h=>by
 refine go h λ_ h=>?_;refine qV [] h (λs1 k=>(11,I s1)::k) (λs1 h=>?_) λs1 h=>?_
 .exact az h
 refine go h λ_ h=>?_;refine qU [0,1,2,3,4] h (λs4 k=>(12,I s4.1)::(11,I s4.2)::k) λs4 ws4 h=>?_;refine gy h λq6 h=>?_;refine go h λ_ h=>?_;refine qV [12,0,1,2,3,4] h (λs7 k=>(11,I s7)::k) (λs7 h=>?_) λs7 h=>?_
 .exact az h
 refine go h λ_ h=>?_;refine qV [12,11,0,1,2,3,4] h (λs9 k=>(50,Bo s9)::k) (λs9 h=>?_) λs9 h=>?_
 .exact az h
 refine T.drawG (dG [dF,([0],aaf),dF,dF,dF,dF,([0],aaf),dF,dF,dF,dF,dF,([0],aaf),dF,dF,dF,dF,dF,dF,dF,([0],aaf),dF,dF,dF,dF,dF,dF]) (by kernel_rfl) (by kernel_rfl)<|go h λ_ h=>?_;rcases DY h with⟨q10,h⟩|⟨q10,h⟩
 .refine go h λ_ h=>?_;refine tgR Z q10 [0] Z (λG hG=>EvA.loadhp (I<|(J events s4.1).Index) Z8 Z (hG.a0 Z) Z Z Z Z)<|gp h λ_ h=>?_;refine go h λ_ h=>?_;rcases DY h with⟨q11,h⟩|⟨q11,h⟩
  .refine go h λ_ h=>?_;refine tgR Z q11 [0] Z (λG hG=>EvA.loadhp (Bo<|(J events s4.1).Reads) ty4 Z (hG.a0 Z) Z Z Z Z)<|gp h λ_ h=>?_;refine go h λ_ h=>?_;rcases DY h with⟨q12,h⟩|⟨q12,h⟩
   .exact az h
   exact az h
  exact az h
 exact az h
instance EG(p:List<|List ZW)(events:List ZY)(x:ZX)(i:Int)(known:LI):Ct aaj (mK p events x i known) 85 [eL (cL ZW.c) p,eL ZY.c events,.agg (ZX.c x),I i,eL cI known] I:=ctp func85 λq h=>by
 refine go h λ_ h=>?_;refine eF Z Z Z<|gx h λq2 h=>?_;refine jG<|jH<|T.reserve<|jP (dG [dF,dF,([0],aaf),dF,dF,dF,([0],aaf),dF,dF,([1],aae),([1],aae)]) (by kernel_rfl) (by kernel_rfl) ?_;refine go h λ_ h=>?_;refine fW 1 [] Z Z (λG hG=>EvA.alR 1 L9 Z Z<|hG.a0 Z) ?_;exact az h
theorem EH(p:List<|List ZW)(events:List ZY)(x:ZX)(i:Int)(known:LI){q}(h:mK p events x i known=aag q):aF aaj 85 [eL (cL ZW.c) p,eL ZY.c events,.agg (ZX.c x),I i,eL cI known] (I q):=(EG p events x i known).c h
instance DD(p:List<|List ZW)(x:ZX):Ct aaj (dY p x) 35 [eL (cL ZW.c) p,.agg (ZX.c x)] (λq=>.tup [eL cI q.1,Bo q.2]):=ctp func35 λq h=>by
 refine go h λ_ h=>?_;refine eF Z Z Z<|gC h λv1 h=>?_;refine oA (EvA.mkO (c:=cI) ([]:LI) [] iq Z Z Z qE Z Z)<|go h λ_ h=>?_;refine kJ [6,3,0] h (λs2 gh k=>(7,hS aaf 0 gh 1 s2.length)::k) (λs2 gh=>[bE aaf gh 1 3 (s2.map cI)]) (λs2 u12 h=>?_) λs2 h=>?_
 .refine kJ [6] h (λs13 gh k=>(7,hS aaf 0 gh 1 s13.length)::k) (λs13 gh=>[bE aaf gh 1 3 (s13.map cI)]) (λs13 u38 h=>?_) λs13 h=>?_
  .refine qS [7] h (λs39 k=>k) (λs39 h=>?_) λKs39 ws39 h ks39=>?_
   .exact az h
   refine go h λ_ h=>?_;refine qU [7,6] h (λs42 k=>(11,I s42)::k) λs42 ws42 h=>?_;refine gy h λq44 h=>?_;refine go h λ_ h=>?_;refine gs h λ_ h=>?_;refine qB [11,7,6] h 6 (λs46 k=>(67,Bo s46)::k) (λs46 q47 h js46=>?_) (λs46 q47 h js46=>?_) λs46 h=>?_
   .refine go h λf h=>?_;obtain⟨g48,_⟩:=f;refine gA Z q47 (EvA.ldO (g:=false) (l:=s13) (I<|J s13 s42) Z8 Z Z nofun (aS Z g48) Z) ?_;exact gj h js46
   .exact gj h js46
   exact az h
  refine go h λ_ h=>?_;refine kT [6,3,0] h u12 (λs17 gh k=>(9,I s17.2)::(7,hS aaf 0 gh 1 s17.1.length)::k) (λs17 gh=>[bE aaf gh 1 3 (s17.1.map cI)]) λs17 u19 ws17 h=>?_;refine gy h λq20 h=>?_;refine go h λ_ h=>?_;refine kJ [9,6,3,0] h (λs21 gh k=>(7,hS aaf 0 gh 1 s21.length)::k) (λs21 gh=>[bE aaf gh 1 3 (s21.map cI)]) (λs21 u36 h=>?_) λs21 h=>?_
  .exact az h
  refine go h λ_ h=>?_;refine kT [9,6,3,0] h u19 (λs25 gh k=>(10,I s25.2)::(7,hS aaf 0 gh 1 s25.1.length)::k) (λs25 gh=>[bE aaf gh 1 3 (s25.1.map cI)]) λs25 u27 ws25 h=>?_;refine gy h λq28 h=>?_;refine go h λ_ h=>?_;refine kJ [10,9,6,3,0] h (λs29 gh k=>(7,hS aaf 0 gh 1 s29.length)::k) (λs29 gh=>[bE aaf gh 1 3 (s29.map cI)]) (λs29 u34 h=>?_) λs29 h=>?_
  .exact az h
  refine gy h λq31 h=>?_;refine go h λ_ h=>?_;refine jB h λv32 cv32 h=>oA (EvA.callT Z Z (EH p v1 x s25.2 s25.1 cv32) (.cons (qD Z)<|.cons (qD Z)<|.cons (qD Z)<|.cons (qD Z)<|.cons (Fz.own (g:=false) (ver:=u27) (l:=s25.1) Z Z Z nofun qE) .nil) Z)<|go h λf h=>?_;obtain⟨g33,_⟩:=f;refine oV (EvA.stO (g:=false) (l:=s25.1) (cs:=[I v32]) v32 Z8 Z Z Z nofun (aS Z g33) Z Z Z)<|go h λ_ h=>?_
  cases h
  exact⟨u27,trivial,stW⟩
 refine go h λ_ h=>?_;refine kT [6,3,0] h 0 (λs6 gh k=>(8,I s6.2)::(7,hS aaf 0 gh 1 s6.1.length)::k) (λs6 gh=>[bE aaf gh 1 3 (s6.1.map cI)]) λs6 u8 ws6 h=>?_;refine gy h λq9 h=>?_;refine go h λ_ h=>?_;refine gs h λ_ h=>?_;refine gk h λ_ _ h=>?_;obtain rfl:=ZV h;exact⟨((s6.1++[(-1:Int)]),(s6.2+V)),u8+1,Z,trivial,Z9⟩
theorem DF(p:List<|List ZW)(x:ZX){q}(h:dY p x=aag q):aF aaj 35 [eL (cL ZW.c) p,.agg (ZX.c x)] (.tup [eL cI q.1,Bo q.2]):=(DD p x).c h
instance Pi(list:LI)(n:Int):Ct aaj (mL list n) 170 [eL cI list,I n] I:=ctp func170 λq h=>by
 refine go h λ_ h=>?_;refine qS [] h (λs1 k=>k) (λs1 h=>?_) λKs1 ws1 h ks1=>?_
 .exact az h
 refine go h λ_ h=>?_;refine qU [0,1] h (λs4 k=>(5,I s4)::k) λs4 ws4 h=>?_;exact az h
instance DG(x:ZX)(loc:Int)(i:Int)(k_:Int):Ct aaj (dZ x loc i k_) 266 [.agg (ZX.c x),I loc,I i,I k_] Bo:=ctp func266 λq h=>az h
theorem DI(x:ZX)(loc:Int)(i:Int)(k_:Int){q}(h:dZ x loc i k_=aag q):aF aaj 266 [.agg (ZX.c x),I loc,I i,I k_] (Bo q):=(DG x loc i k_).c h
instance EI(list:List ZW)(from_:Int)(to:Int):Ct aaj (ko list from_ to) 267 [eL ZW.c list,I from_,I to] Bo:=ctp func267 λq h=>by
 refine go h λ_ h=>?_;refine qS [] h (λs1 k=>k) (λs1 h=>?_) λKs1 ws1 h ks1=>?_
 .exact az h
 refine go h λ_ h=>?_;refine qU [0,2] h (λs5 k=>(7,I s5)::k) λs5 ws5 h=>?_;exact az h
theorem EJ(list:List ZW)(from_:Int)(to:Int){q}(h:ko list from_ to=aag q):aF aaj 267 [eL ZW.c list,I from_,I to] (Bo q):=(EI list from_ to).c h
instance Ss(p:List<|List ZW)(x:ZX)(events:List ZY)(name:BA)(i:Int)(k_:Int):Ct aaj (fG p x events name i k_) 235 [eL (cL ZW.c) p,.agg (ZX.c x),eL ZY.c events,St name,I i,I k_] Bo:=ctp func235 λq h=>by
 refine go h λ_ h=>?_;refine eF Z Z Z<|go h λ_ h=>?_;refine gB [14,13,7,0,3,4,5] h 4 (λs3 k=>(33,Bo s3)::k) λs3 h=>?_;refine go h λ_ h=>?_;refine qS [3,4,5] h (λs5 k=>k) (λs5 h=>?_) λKs5 ws5 h ks5=>?_
 .exact az h
 refine gx h λq6 h=>?_;refine gx h λq9 h=>?_;refine gx h λq10 h=>?_;refine gx h λq11 h=>?_;refine gx h λq15 h=>?_;refine gi h (λ_ q23 h=>?_) λ_ q23 h=>?_
 .refine qV [] h (λs24 k=>(12,Bo s24)::k) (λs24 h=>?_) λs24 h=>?_
  .exact az h
  refine T.cl [14,13,7,4,5] Z<|T.drawG (dG [dF,([0],aaf),dF,dF,([1],aaf),dF,dF,dF,([0],aaf),dF,([1],aaf),dF,dF,dF,dF,dF,dF,dF,dF,dF,dF,([0],aaf),dF,dF,dF,dF,dF,dF,dF,dF,dF]) (by kernel_rfl) (by kernel_rfl) ?_;refine go h λ_ h=>?_;rcases DY h with⟨q25,h⟩|⟨q25,h⟩
  .refine go h λ_ h=>?_;refine tgR Z q25 [1] Z (λG hG=>EvA.loadhp (Bo<|(J events k_).aP) ty4 Z (hG.a0 Z) Z Z Z Z)<|gp h λ_ h=>?_;refine go h λ_ h=>?_;rcases DY h with⟨q26,h⟩|⟨q26,h⟩
   .refine go h λ_ h=>?_;refine tgR Z q26 [0] Z (λG hG=>EvA.loadhp (I<|(J events i).Loc) Z8 Z (hG.a0 Z) Z Z Z Z)<|go h λ_ h=>?_;refine tgR Z q26 [1] Z (λG hG=>EvA.loadhp (I<|(J events k_).Loc) Z8 Z (hG.a0 Z) Z Z Z Z)<|gp h λ_ h=>?_;refine go h λ_ h=>?_;rcases DY h with⟨q27,h⟩|⟨q27,h⟩
    .refine gp h λ_ h=>?_;refine go h λ_ h=>?_;rcases DY h with⟨q28,h⟩|⟨q28,h⟩
     .refine go h λ_ h=>?_;refine tgR Z q28 [0] Z (λG hG=>EvA.loadhp (I<|(J events i).Loc) Z8 Z (hG.a0 Z) Z Z Z Z)<|go h λ_ h=>?_;refine jB h λv30 cv30 h=>tgN Z q28 Z (ZT.call Z Z Z (DI x ((J events i).Loc) (J x.From i) k_ cv30) Z)<|gp h λ_ h=>?_;refine go h λ_ h=>?_
      cases h
      exact⟨(),trivial,Z9⟩
     exact az h
    exact az h
   exact az h
  exact az h
 refine gy h λq31 h=>?_;refine qV [] h (λs32 k=>(12,Bo s32)::k) (λs32 h=>?_) λs32 h=>?_
 .exact az h
 refine T.cl [15,14,13,0] Z<|T.drawG (dG [dF,dF,dF,([0],aaf),dF,([1],aaf),dF,dF,dF,dF,dF,([0],aaf),dF,dF,dF,([0],aaf),dF,([1],aaf),dF,dF,dF]) (by kernel_rfl) (by kernel_rfl) ?_;refine go h λ_ h=>?_;rcases DY h with⟨q33,h⟩|⟨q33,h⟩
 .refine go h λ_ h=>?_;refine tgR Z q33 [0] Z (λG hG=>EvA.loadhp (I<|(J events i).Index) Z8 Z (hG.a0 Z) Z Z Z Z)<|go h λ_ h=>?_;refine tgR Z q33 [1] Z (λG hG=>EvA.loadhp (I<|(J events k_).Index) Z8 Z (hG.a0 Z) Z Z Z Z)<|gp h λ_ h=>?_;refine go h λ_ h=>?_;rcases DY h with⟨q34,h⟩|⟨q34,h⟩
  .refine go h λ_ h=>?_;refine tgR Z q34 [0] Z (λG hG=>EvA.loadhp (I<|(J events i).Thread) Z8 Z (hG.a0 Z) Z Z Z Z)<|go h λ_ h=>?_;refine tgR Z q34 [0] Z (λG hG=>EvA.loadhp (I<|(J events i).Index) Z8 Z (hG.a0 Z) Z Z Z Z)<|go h λ_ h=>?_;refine tgR Z q34 [1] Z (λG hG=>EvA.loadhp (I<|(J events k_).Index) Z8 Z (hG.a0 Z) Z Z Z Z)<|jB h λv36 cv36 h=>tgN Z q34 Z (ZT.call Z Z Z (EJ (J p<|(J events i).Thread) ((J events i).Index) ((J events k_).Index) cv36) Z) ?_;refine gp h λ_ h=>?_;refine go h λ_ h=>?_
   cases h
   exact⟨(),trivial,Z9⟩
  refine gp h λ_ h=>?_;refine go h λ_ h=>?_
  cases h
  exact⟨(),trivial,Z9⟩
 exact az h
instance Tc(p:List<|List ZW)(x:ZX)(name:BA):Ct aaj (ik p x name) 175 [eL (cL ZW.c) p,.agg (ZX.c x),St name] (eL cI):=ctp func175 λq h=>by
 refine go h λ_ h=>?_;refine eF Z Z Z<|gC h λv1 h=>?_;refine oA (EvA.mkO (c:=cI) ([]:LI) [] iq Z Z Z qE Z Z)<|go h λ_ h=>?_;refine tJ h (λs2 gh=>[(8,hS aaf 0 gh 1 s2.length)]) (λs2 gh=>[bE aaf gh 1 3 (s2.map cI)]) (λs2 u25 h=>?_) λs2 h=>?_
 .exact az h
 refine go h λ_ h=>?_;refine kT [7,4,0,2] h 0 (λs6 gh k=>(9,I s6.2)::(8,hS aaf 0 gh 1 s6.1.length)::k) (λs6 gh=>[bE aaf gh 1 3 (s6.1.map cI)]) λs6 u8 ws6 h=>?_;refine gy h λq9 h=>?_;refine go h λ_ h=>?_;refine kJ [9,7,4,0,2] h (λs10 gh k=>(8,hS aaf 0 gh 1 s10.length)::k) (λs10 gh=>[bE aaf gh 1 3 (s10.map cI)]) (λs10 u23 h=>?_) λs10 h=>?_
 .exact az h
 refine go h λ_ h=>?_;refine qV [9,8,7,4,0,2] h (λs11 k=>(10,I s11)::k) (λs11 h=>?_) λs11 h=>?_
 .refine gk h λ_ _ h=>?_
  cases h
  exact⟨u8+1,trivial,Z9⟩
 refine go h λ_ h=>?_;refine qU [9,8,7,4,0,2] h (λs14 k=>(11,I s14.1)::(10,I s14.2)::k) λs14 ws14 h=>?_;exact az h
instance Hk(r_:LI)(i:Int)(k_:Int):Ct aaj (jd r_ i k_) 234 [eL cI r_,I i,I k_] Bo:=ctp func234 λq h=>az h
theorem Hl(r_:LI)(i:Int)(k_:Int){q}(h:jd r_ i k_=aag q):aF aaj 234 [eL cI r_,I i,I k_] (Bo q):=(Hk r_ i k_).c h
instance Nt(r_:LI):Ct aaj (m8 r_) 176 [eL cI r_] (eL cI):=ctp func176 λq h=>by
 refine go h λ_ h=>?_;refine jD h λg1 h=>oA (EvA.mkN (c:=cI) (aad:Int) iq Z Z g1 Z Z Z)<|go h λ_ h=>?_;refine tJ h (λs2 gh=>[(3,hS aaf 0 gh 1 s2.length)]) (λs2 gh=>[bE aaf gh 1 3 (s2.map cI)]) (λs2 u27 h=>?_) λs2 h=>?_
 .exact az h
 refine go h λ_ h=>?_;refine kT [0] h 0 (λs6 gh k=>(4,I s6.2)::(3,hS aaf 0 gh 1 s6.1.length)::k) (λs6 gh=>[bE aaf gh 1 3 (s6.1.map cI)]) λs6 u8 ws6 h=>?_;refine gy h λq9 h=>?_;refine go h λ_ h=>?_;refine kJ [4,0] h (λs10 gh k=>(3,hS aaf 0 gh 1 s10.length)::k) (λs10 gh=>[bE aaf gh 1 3 (s10.map cI)]) (λs10 u25 h=>?_) λs10 h=>?_
 .exact az h
 refine go h λ_ h=>?_;refine kT [4,0] h u8 (λs14 gh k=>(5,I s14.2)::(3,hS aaf 0 gh 1 s14.1.length)::k) (λs14 gh=>[bE aaf gh 1 3 (s14.1.map cI)]) λs14 u16 ws14 h=>?_;refine gy h λq17 h=>?_;refine go h λ_ h=>?_;refine kJ [5,4,0] h (λs18 gh k=>(3,hS aaf 0 gh 1 s18.length)::k) (λs18 gh=>[bE aaf gh 1 3 (s18.map cI)]) (λs18 u23 h=>?_) λs18 h=>?_
 .exact az h
 refine gC h λv19 h=>?_;refine gy h λq20 h=>?_;refine jP (dG [dF,dF,dF,dF,dF,([0],aaf),dF,dF,dF,dF,([0],aae)]) (by kernel_rfl) (by kernel_rfl)<|go h λf h=>?_;obtain⟨_,g21,_⟩:=f;refine fV 0 [] Z Z (λG hG=>EvA.stO (g:=false) (l:=s14.1) (cs:=[I (bOr .i64 (J s14.1 s14.2)<|ME .i64 V s6.2)]) (bOr .i64 (J s14.1 s14.2)<|ME .i64 V s6.2) Z8 Z Z (hG.a0 Z) nofun (aS Z g21) Z Z Z)<|go h λ_ h=>?_
 cases h
 exact⟨u16,trivial,stW⟩
instance Nu(r_:LI):Ct aaj (jS r_) 177 [eL cI r_] (eL cI):=ctp func177 λq h=>by
 refine go h λ_ h=>?_;refine oA (EvA.mkO (c:=cI) ([]:LI) [] iq Z Z Z qE Z Z)<|go h λ_ h=>?_;refine tJ h (λs2 gh=>[(3,hS aaf 0 gh 1 s2.length)]) (λs2 gh=>[bE aaf gh 1 3 (s2.map cI)]) (λs2 u27 h=>?_) λs2 h=>?_
 .exact az h
 refine go h λ_ h=>?_;refine tT h (0+1) (λs6 gh=>[(4,I s6.2),(3,hS aaf 0 gh 1 s6.1.length)]) (λs6 gh=>[bE aaf gh 1 3 (s6.1.map cI)]) λs6 u8 ws6 h=>?_;refine gy h λq9 h=>?_;refine go h λ_ h=>?_;refine kJ [4] h (λs10 gh k=>(3,hS aaf 0 gh 1 s10.length)::k) (λs10 gh=>[bE aaf gh 1 3 (s10.map cI)]) (λs10 u25 h=>?_) λs10 h=>?_
 .exact az h
 refine go h λ_ h=>?_;refine kT [4] h u8 (λs14 gh k=>(5,I s14.2)::(3,hS aaf 0 gh 1 s14.1.length)::k) (λs14 gh=>[bE aaf gh 1 3 (s14.1.map cI)]) λs14 u16 ws14 h=>?_;refine gy h λq17 h=>?_;refine go h λ_ h=>?_;refine kJ [5,4] h (λs18 gh k=>(3,hS aaf 0 gh 1 s18.length)::k) (λs18 gh=>[bE aaf gh 1 3 (s18.map cI)]) (λs18 u23 h=>?_) λs18 h=>?_
 .exact az h
 refine go h λ_ h=>?_;refine jB h λv19 cv19 h=>oA (EvA.callT Z Z (Hl s14.1 s14.2 s6.2 cv19) (.cons (Fz.own (g:=false) (ver:=u16) (l:=s14.1) Z Z Z nofun qE)<|.cons (qD Z)<|.cons (qD Z) .nil) Z)<|gy h λq20 h=>?_;refine T.drawH (dG [dF,dF,dF,dF,dF,([0],aaf),dF,dF,dF,([0],aaf),dF,dF,([0],aae)]) (by kernel_rfl) (by kernel_rfl)<|go h λf h=>?_;obtain⟨_,g21,_⟩:=f;refine fV 0 [] Z Z (λG hG=>EvA.stO (g:=false) (l:=s14.1) (cs:=[I (bOr .i64 (J s14.1 s14.2)<|J s14.1 s6.2)]) (bOr .i64 (J s14.1 s14.2)<|J s14.1 s6.2) Z8 Z Z (hG.a0 Z) nofun (aS Z g21) Z Z Z)<|go h λ_ h=>?_
 cases h
 exact⟨u16,trivial,stW⟩
instance Pj(a:LI)(b:LI):Ct aaj (qQ a b) 178 [eL cI a,eL cI b] (eL cI):=ctp func178 λq h=>by
 refine go h λ_ h=>?_;refine oA (EvA.mkO (c:=cI) ([]:LI) [] iq Z Z Z qE Z Z)<|go h λ_ h=>?_;refine tJ h (λs1 gh=>[(5,hS aaf 0 gh 1 s1.length)]) (λs1 gh=>[bE aaf gh 1 3 (s1.map cI)]) (λs1 u13 h=>?_) λs1 h=>?_
 .exact az h
 refine go h λ_ h=>?_;refine kT [0,1] h 0 (λs5 gh k=>(6,I s5.2)::(5,hS aaf 0 gh 1 s5.1.length)::k) (λs5 gh=>[bE aaf gh 1 3 (s5.1.map cI)]) λs5 u7 ws5 h=>?_;refine gy h λq8 h=>?_;refine go h λ_ h=>?_;refine gs h λ_ h=>?_;refine jP (dG [dF,dF,dF,dF,dF,dF,dF,dF,dF,dF,dF,([0],aae),dF]) (by kernel_rfl) (by kernel_rfl)<|gk h λ_ _ h=>?_;refine jL h λg11 h=>fW 0 [] Z Z (λG hG=>EvA.app1 (g:=false) (l:=s5.1) (bOr .i64 (J a s5.2)<|J b s5.2) iq (by kernel_rfl) Z Z (hG.a0 Z) nofun (bH.fz (l:=([(bOr .i64 (J a s5.2)<|J b s5.2)]:LI)) Z qE) g11)<|go h λ_ h=>?_;obtain rfl:=ZV h;exact⟨((s5.1++[(bOr .i64 (J a s5.2)<|J b s5.2)]),(s5.2+V)),u7+1,Z,trivial,Z9⟩
instance Su(a:LI)(b:LI):Ct aaj (sZ a b) 179 [eL cI a,eL cI b] (eL cI):=ctp func179 λq h=>by
 refine go h λ_ h=>?_;refine oA (EvA.mkO (c:=cI) ([]:LI) [] iq Z Z Z qE Z Z)<|go h λ_ h=>?_;refine tJ h (λs1 gh=>[(5,hS aaf 0 gh 1 s1.length)]) (λs1 gh=>[bE aaf gh 1 3 (s1.map cI)]) (λs1 u13 h=>?_) λs1 h=>?_
 .exact az h
 refine go h λ_ h=>?_;refine kT [0,1] h 0 (λs5 gh k=>(6,I s5.2)::(5,hS aaf 0 gh 1 s5.1.length)::k) (λs5 gh=>[bE aaf gh 1 3 (s5.1.map cI)]) λs5 u7 ws5 h=>?_;refine gy h λq8 h=>?_;refine go h λ_ h=>?_;refine gs h λ_ h=>?_;refine jP (dG [dF,dF,dF,dF,dF,dF,dF,dF,dF,dF,dF,([0],aae),dF]) (by kernel_rfl) (by kernel_rfl)<|gk h λ_ _ h=>?_;refine jL h λg11 h=>fW 0 [] Z Z (λG hG=>EvA.app1 (g:=false) (l:=s5.1) (jc .i64 (J a s5.2)<|J b s5.2) iq (by kernel_rfl) Z Z (hG.a0 Z) nofun (bH.fz (l:=([(jc .i64 (J a s5.2)<|J b s5.2)]:LI)) Z qE) g11)<|go h λ_ h=>?_;obtain rfl:=ZV h;exact⟨((s5.1++[(jc .i64 (J a s5.2)<|J b s5.2)]),(s5.2+V)),u7+1,Z,trivial,Z9⟩
theorem EK(a:LI)(b:LI){q}(h:mM a b=aag q):aF aaj 180 [eL cI a,eL cI b] (eL cI q):=by
 refine pM func180 Z (by kernel_rfl) Z<|jI<|oN as'<|jA<|jI<|oA (EvA.mkO (c:=cI) ([]:LI) [] iq Z Z Z qE Z Z)<|oN (ZT.asg (hS aaf 0 0 1<|([]:LI).length) Z)<|jA ?_;refine T.jF (G:=Nat) h (λs1 gh=>True) (λs1 gh=>[(5,hS aaf 0 gh 1 s1.length)]) (λs1 gh=>[bE aaf gh 1 3 (s1.map cI)]) (λs1 u13 h hg=>?_) λs1 h=>?_
 .exact az h
 refine jI<|oN as'<|jA<|jE ?_;refine jO (S:=(LI)×Int) (G:=Nat) (l6 a b) (λs5 gh=>True) (λs5 gh=>[(6,I s5.2),(5,hS aaf 0 gh 1 s5.1.length),(0,eL cI a),(1,eL cI b)]) (λs5 gh=>[bE aaf gh 1 3 (s5.1.map cI)]) (s0:=(([]:LI),U)) 0 h trivial (kw Z Z) λs5 u7 ws5 h hg=>?_;refine jH<|jI<|oN mv<|oN mv<|oN (ZT.lenL iq Z)<|oN (ZT.ilt Z Z)<|jA ?_;refine jN Z h (λq8 h=>?_) λq8 h=>?_
 .refine jG<|jH<|jE<|jP (dG [dF,dF,dF,dF,dF,dF,dF,dF,dF,dF,dF,([0],aae),dF]) (by kernel_rfl) (by kernel_rfl)<|fN Z mv<|fN Z mv<|fN Z mv<|jD h λg9 h=>fN Z (ZT.ixL iq Z Z g9 qE)<|fN Z (lf (I<|J a s5.2) Z8 Z)<|fN Z mv<|fN Z mv<|jD h λg10 h=>fN Z (ZT.ixL iq Z Z g10 qE)<|fN Z (lf (I<|J b s5.2) Z8 Z)<|fN Z (ZT.bandNot Z Z) ?_;refine fN Z (ZT.mkF (c:=cI) ([(p5 .i64 (J a s5.2)<|J b s5.2)]:LI) [[I (p5 .i64 (J a s5.2)<|J b s5.2)]] iq Z Z Z qE qE Z)<|jL h λg11 h=>fW 0 [] Z Z (λG hG=>EvA.app1 (g:=false) (l:=s5.1) (p5 .i64 (J a s5.2)<|J b s5.2) iq (by kernel_rfl) Z Z (hG.a0 Z) nofun (bH.fz (l:=([(p5 .i64 (J a s5.2)<|J b s5.2)]:LI)) Z qE) g11)<|fN Z (ZT.asg (hS aaf 0 (u7+1) 1<|(s5.1++[(p5 .i64 (J a s5.2)<|J b s5.2)]).length) Z)<|jR<|T.clean (H0:=[bE aaf (u7+1) 1 3 ((s5.1++[(p5 .i64 (J a s5.2)<|J b s5.2)]).map cI)]) (e0:=ak [(5,hS aaf 0 (u7+1) 1<|(s5.1++[(p5 .i64 (J a s5.2)<|J b s5.2)]).length),(6,I s5.2),(0,eL cI a),(1,eL cI b)]) Z (ZR Z<|ZR Z<|ZR Z<|ZR Z ZQ)<|jC<|oN mv<|jW h λg12 h=>oN (ZT.add Z Z g12)<|oN as'<|jA ?_;obtain rfl:=ZV h;exact⟨((s5.1++[(p5 .i64 (J a s5.2)<|J b s5.2)]),(s5.2+V)),u7+1,Z,trivial,kw Z Z⟩
 exact az h
instance Pk(a:LI)(b:LI):Ct aaj (mM a b) 180 [eL cI a,eL cI b] (eL cI):=⟨EK a b⟩
instance Nv(a:LI)(b:LI):Ct aaj (m9 a b) 181 [eL cI a,eL cI b] (eL cI):=ctp func181 λq h=>by
 refine go h λ_ h=>?_;refine oA (EvA.mkO (c:=cI) ([]:LI) [] iq Z Z Z qE Z Z)<|go h λ_ h=>?_;refine tJ h (λs1 gh=>[(5,hS aaf 0 gh 1 s1.length)]) (λs1 gh=>[bE aaf gh 1 3 (s1.map cI)]) (λs1 u24 h=>?_) λs1 h=>?_
 .exact az h
 refine go h λ_ h=>?_;refine kT [0,1] h 0 (λs5 gh k=>(6,I s5.2)::(5,hS aaf 0 gh 1 s5.1.length)::k) (λs5 gh=>[bE aaf gh 1 3 (s5.1.map cI)]) λs5 u7 ws5 h=>?_;refine gy h λq8 h=>?_;refine go h λ_ h=>?_;refine kJ [6,0,1] h (λs9 gh k=>(5,hS aaf 0 gh 1 s9.length)::k) (λs9 gh=>[bE aaf gh 1 3 (s9.map cI)]) (λs9 u22 h=>?_) λs9 h=>?_
 .exact az h
 refine go h λ_ h=>?_;refine qV [6,5,0,1] h (λs10 k=>(7,I s10)::k) (λs10 h=>?_) λs10 h=>?_
 .refine gk h λ_ _ h=>?_
  cases h
  exact⟨u7+1,trivial,Z9⟩
 refine go h λ_ h=>?_;refine qU [6,5,0,1] h (λs13 k=>(8,I s13.1)::(7,I s13.2)::k) λs13 ws13 h=>?_;exact az h
theorem EL:∀(nf:Nat)(p:List<|List ZW)(x:ZX)(e_:aa){q}(h:eu nf p x e_=aag q),aF aaj 111 [eL (cL ZW.c) p,.agg (ZX.c x),.agg (aa.c e_)] (eL cI q):=by
 intro nf
 induction nf with
 |zero=>intros;rename_i h;cases h
 |succ nf ih=>
  intro p x e_ q h;replace h:d9 (eu nf) p x e_=aag q:=h;refine pM func111 Z (by kernel_rfl) Z<|go h λ_ h=>?_;refine eF Z Z Z<|eF Z Z Z ?_;refine gx h λq1 h=>?_;refine go h λ_ h=>?_;refine jH<|T.drawP (by kernel_rfl) (by kernel_rfl) ?_;refine go h λ_ h=>?_;refine jD h λg3 h=>fN Z (ZT.res (ZT.ixL Je Z Z g3 ZTE.len) (r':=.fp (aa.c (J e_.Kids U).out) 0) λ_ _ hr=>vP (ZTE.out_c _) hr)<|go h λ_ h=>?_;refine fC h (λ_=>ih _ _ _) Z Z Z Z Z λv4 _ h=>(gx h λq5 h=>?_);refine gx h λq7 h=>?_;refine go h λ_ h=>?_;refine jH<|T.drawP (by kernel_rfl) (by kernel_rfl) ?_;refine go h λ_ h=>?_;refine jD h λg9 h=>fN Z (ZT.res (ZT.ixL Je Z Z g9 ZTE.len) (r':=.fp (aa.c (J e_.Kids V).out) 0) λ_ _ hr=>vP (ZTE.out_c _) hr)<|go h λ_ h=>?_;refine fC h (λ_=>ih _ _ _) Z Z Z Z Z λv10 _ h=>?_;exact az h
theorem Gx(p:List<|List ZW)(x:ZX)(e_:aa){q}(h:tj p x e_=aag q):aF aaj 111 [eL (cL ZW.c) p,.agg (ZX.c x),.agg (aa.c e_)] (eL cI q):=by
 obtain⟨nf,h⟩:=nz h;exact EL nf p x e_ h
instance Sv(p:List<|List ZW)(x:ZX)(e_:aa):Ct aaj (tj p x e_) 111 [eL (cL ZW.c) p,.agg (ZX.c x),.agg (aa.c e_)] (eL cI):=⟨Gx p x e_⟩
instance Pm(r_:LI):Ct aaj (qR r_) 195 [eL cI r_] Bo:=ctp func195 λq h=>by
 refine go h λ_ h=>?_;refine qS [] h (λs1 k=>k) (λs1 h=>?_) λKs1 ws1 h ks1=>?_
 .exact az h
 refine go h λ_ h=>?_;refine qU [0] h (λs4 k=>(3,I s4)::k) λs4 ws4 h=>?_;exact az h
instance Nw(r_:LI):Ct aaj (ng r_) 194 [eL cI r_] Bo:=ctp func194 λq h=>az h
instance Pn(r_:LI):Ct aaj (qW r_) 196 [eL cI r_] I:=ctp func196 λq h=>by
 refine go h λ_ h=>?_;refine qV [] h (λs1 k=>(3,I s1)::k) (λs1 h=>?_) λs1 h=>?_
 .exact az h
 refine go h λ_ h=>?_;refine qU [0] h (λs4 k=>(4,I s4.1)::(3,I s4.2)::k) λs4 ws4 h=>?_;refine gy h λq6 h=>?_;refine go h λ_ h=>?_;refine qV [4,0] h (λs7 k=>(3,I s7)::k) (λs7 h=>?_) λs7 h=>?_
 .exact az h
 refine go h λ_ h=>?_;refine qU [4,0] h (λs10 k=>(5,I s10.1)::(3,I s10.2)::k) λs10 ws10 h=>?_;exact az h
instance Po(kind:Int)(r_:LI):Ct aaj (qX kind r_) 150 [I kind,eL cI r_] Bo:=ctp func150 λq h=>az h
instance OY(p:List<|List ZW)(x:ZX)(m:List ah):Ct aaj (lj p x m) 83 [eL (cL ZW.c) p,.agg (ZX.c x),eL ah.c m] I:=ctp func83 λq h=>by
 refine go h λ_ h=>?_;refine eF Z Z Z<|go h λ_ h=>?_;refine qS [] h (λs1 k=>k) (λs1 h=>?_) λKs1 ws1 h ks1=>?_
 .exact az h
 refine go h λ_ h=>?_;refine qU [4,0,2] h (λs4 k=>(7,I s4)::k) λs4 ws4 h=>?_;exact az h
instance Cm(p:List<|List ZW)(m:List ah):Ct aaj (jT p m) 34 [eL (cL ZW.c) p,eL ah.c m] (eL ZX.c):=ctp func34 λq h=>by
 refine go h λ_ h=>?_;refine oA (EvA.mkO (c:=ZX.c) ([]:List ZX) [] Wt Z Z Z qE Z Z)<|gC h λv1 h=>?_;refine tJ h (λs2 gh=>[(5,hS aaf 0 gh 2 s2.length)]) (λs2 gh=>[bE aaf gh 2 30 (s2.map ZX.c)]) (λs2 u20 h=>?_) λs2 h=>?_
 .exact az h
 refine go h λ_ h=>?_;refine kT [6,0,1] h 0 (λs6 gh k=>(7,I s6.2)::(5,hS aaf 0 gh 2 s6.1.length)::k) (λs6 gh=>[bE aaf gh 2 30 (s6.1.map ZX.c)]) λs6 u8 ws6 h=>?_;refine gy h λq9 h=>?_;refine go h λ_ h=>?_;refine kJ [7,6,0,1] h (λs10 gh k=>(5,hS aaf 0 gh 2 s10.length)::k) (λs10 gh=>[bE aaf gh 2 30 (s10.map ZX.c)]) (λs10 u18 h=>?_) λs10 h=>?_
 .exact az h
 refine go h λf h=>?_;obtain⟨g11,_⟩:=f;refine gC h λv12 h=>?_;refine gB [7,6,5,0,1] h 9 (λs13 k=>(38,Bo s13)::k) λs13 h=>?_;refine gy h λq16 h=>?_;refine go h λ_ h=>?_;refine oN (ZT.mkF (c:=ZX.c) ([(J v1 s6.2)]:List ZX) [(ZX.c<|J v1 s6.2)] Wt Z Z Z qE ZX.isF Z)<|go h λ_ h=>?_
 cases h
 exact⟨u8+1,trivial,Z9⟩
theorem Cn(p:List<|List ZW)(m:List ah){q}(h:jT p m=aag q):aF aaj 34 [eL (cL ZW.c) p,eL ah.c m] (eL ZX.c q):=(Cm p m).c h
instance Co(p:List<|List ZW)(x:ZX)(values:LI):Ct aaj (jV p x values) 37 [eL (cL ZW.c) p,.agg (ZX.c x),eL cI values] (eL cI):=ctp func37 λq h=>by
 refine go h λ_ h=>?_;refine eF Z Z Z<|go h λ_ h=>?_;refine oA (EvA.mkO (c:=cI) ([]:LI) [] iq Z Z Z qE Z Z)<|gC h λv1 h=>?_;refine kJ [4,2] h (λs2 gh k=>(7,hS aaf 0 gh 1 s2.length)::k) (λs2 gh=>[bE aaf gh 1 3 (s2.map cI)]) (λs2 u30 h=>?_) λs2 h=>?_
 .refine tJ h (λs31 gh=>[(7,hS aaf 0 gh 1 s31.length)]) (λs31 gh=>[bE aaf gh 1 3 (s31.map cI)]) (λs31 u45 h=>?_) λs31 h=>?_
  .exact az h
  refine go h λ_ h=>?_;refine kT [4,2] h u30 (λs35 gh k=>(12,I s35.2)::(7,hS aaf 0 gh 1 s35.1.length)::k) (λs35 gh=>[bE aaf gh 1 3 (s35.1.map cI)]) λs35 u37 ws35 h=>?_;refine gy h λq38 h=>?_;refine go h λ_ h=>?_;refine gs h λ_ h=>?_;refine gk h λ_ _ h=>?_;obtain rfl:=ZV h;exact⟨((s35.1++[(J values<|J (J x.Order s35.2)<|((J x.Order s35.2).length:Int)-V)]),(s35.2+V)),u37+1,Z,trivial,Z9⟩
 refine go h λ_ h=>?_;refine kT [8,4,0,2] h 0 (λs6 gh k=>(9,I s6.2)::(7,hS aaf 0 gh 1 s6.1.length)::k) (λs6 gh=>[bE aaf gh 1 3 (s6.1.map cI)]) λs6 u8 ws6 h=>?_;refine gy h λq9 h=>?_;refine go h λ_ h=>?_;refine kJ [9,8,4,0,2] h (λs10 gh k=>(7,hS aaf 0 gh 1 s10.length)::k) (λs10 gh=>[bE aaf gh 1 3 (s10.map cI)]) (λs10 u28 h=>?_) λs10 h=>?_
 .exact az h
 refine go h λ_ h=>?_;refine kT [9,8,4,0,2] h u8 (λs14 gh k=>(10,I s14.2)::(7,hS aaf 0 gh 1 s14.1.length)::k) (λs14 gh=>[bE aaf gh 1 3 (s14.1.map cI)]) λs14 u16 ws14 h=>?_;refine gy h λq17 h=>?_;refine go h λ_ h=>?_;refine kJ [10,9,8,4,0,2] h (λs18 gh k=>(7,hS aaf 0 gh 1 s18.length)::k) (λs18 gh=>[bE aaf gh 1 3 (s18.map cI)]) (λs18 u26 h=>?_) λs18 h=>?_
 .exact az h
 refine gC h λv20 h=>?_;refine gi h (λ_ q21 h=>?_) λ_ q21 h=>?_
 .refine gk h λ_ _ h=>?_
  cases h
  exact⟨u16+1,trivial,Z9⟩
 refine gk h λ_ _ h=>?_
 cases h
 exact⟨u16+1,trivial,Z9⟩
theorem Cq(p:List<|List ZW)(x:ZX)(values:LI){q}(h:jV p x values=aag q):aF aaj 37 [eL (cL ZW.c) p,.agg (ZX.c x),eL cI values] (eL cI q):=(Co p x values).c h
instance Gy(a:LI)(b:LI):Ct aaj (jp a b) 36 [eL cI a,eL cI b] I:=ctp func36 λq h=>by
 refine go h λ_ h=>?_;refine qS [] h (λs1 k=>k) (λs1 h=>?_) λKs1 ws1 h ks1=>?_
 .exact az h
 refine go h λ_ h=>?_;refine qU [0,1] h (λs4 k=>(5,I s4)::k) λs4 ws4 h=>?_;exact az h
theorem Gz(a:LI)(b:LI){q}(h:jp a b=aag q):aF aaj 36 [eL cI a,eL cI b] (I q):=(Gy a b).c h
instance Pp(p:List<|List ZW)(m:List ah)(o_:LI):Ct aaj (qY p m o_) 8 [eL (cL ZW.c) p,eL ah.c m,eL cI o_] (λq=>.tup [.agg (ZX.c q.1),Bo q.2]):=ctp func8 λq h=>by
 refine go h λ_ h=>?_;refine gs h λ_ h=>?_;refine oC h (λ_=>zE _ _) Z Z Z Z λv1 _ h=>(go h λ_ h=>?_);refine kB [6,0,1,2] h 4 (λs2 k=>(20,Bo s2)::k) (λs2=>[aag ⟨0,2,30,[[.nil,.nil]]⟩]) (λs2 q3 h js2=>?_) (λs2 q3 h js2=>?_) λs2 h=>?_
 .exact gj h js2
 .refine go h λ_ h=>?_;refine jB h λv4 cv4 h=>gN Z q3 (ZT.call Z Z Z (uW m cv4) Z) ?_;exact gj h js2
 refine gi h (λ_ q5 h=>?_) λ_ q5 h=>?_
 .exact az h
 refine go h λ_ h=>?_;refine oC h (λ_=>Cn _ _) Z Z Z Z λv6 _ h=>(go h λ_ h=>?_);refine kS [6] h (λs7 k=>k) (λs7=>[aag ⟨0,2,30,[[.nil,.nil]]⟩]) (λs7 h=>?_) λKs7 ws7 h ks7=>?_
 .exact gf h
 refine go h λ_ h=>?_;refine kU [8,6,0,2] h (λs10 k=>(9,I s10)::k) (λs10=>[aag ⟨0,2,30,[[.nil,.nil]]⟩]) λs10 ws10 h=>?_;refine gsi h (λ_ q12 h=>?_) λ_ q12 h=>?_
 .refine go h λ_ h=>?_;refine gs h λf h=>?_;obtain⟨g13,_⟩:=f;refine oC h (λ_=>DF _ _) Z Z Z Z λv14 _ h=>(go h λ_ h=>?_);refine oC h (λ_=>Cq _ _ _) Z Z Z Z λv15 _ h=>(go h λ_ h=>?_);refine oC h (λ_=>Gz _ _) Z Z Z Z λv16 _ h=>?_;refine gi h (λ_ q17 h=>?_) λ_ q17 h=>?_
  .refine go h λ_ h=>?_;refine lX h λh=>?_;obtain rfl:=ZV h;replace h:=congrArg aag (show _=_ from ks7);exact gf h
  refine go h λ_ h=>?_;exact lE h Z9
 refine jM<|lX h λh=>?_
 cases h
 exact⟨(),(),ks7,trivial,Z9⟩
theorem EM:∀(nf:Nat)(n:Int){q}(h:ll nf n=aag q),aF aaj 107 [I n] (St q):=by
 intro nf
 induction nf with
 |zero=>intros;rename_i h;cases h
 |succ nf ih=>
  intro n q h;replace h:oO (ll nf) n=aag q:=h;refine pM func107 Z (by kernel_rfl) Z<|jI<|oN as'<|jA<|jH<|jI<|oN mv<|oN (ZT.ilt Z Z)<|jA ?_;refine jN Z h (λq1 h=>?_) λq1 h=>?_
  .exact az h
  refine jG<|jH<|jI<|oN mv<|oN (ZT.ilt Z Z)<|jA ?_;refine jN Z h (λq2 h=>?_) λq2 h=>?_
  .refine jI<|oN mv<|jW h λg3 h=>oN (ZT.neg Z g3)<|oC h (λ_=>ih _) Z Z Z Z λv4 _ h=>jD h λg5 h=>oN (ZT.cat Z Z g5)<|oN as'<|jA<|jK ?_
   cases h
   exact SV Z Z Z
  refine jG<|jI<|oN as'<|jA ?_;refine qV [] h (λs6 k=>(3,St s6.1)::(0,I s6.2)::k) (λs6 h=>?_) λs6 h=>?_
  .refine jI<|oN mv<|jW h λg17 h=>oN (ZT.add Z Z g17)<|jW h λg18 h=>oN (ZT.iconv Z8.und underlying5 Z g18)<|oN (ZT.mkF (c:=cY) ([((48:Int)+s6.2)]:LI) [[Y ((48:Int)+s6.2)]] RY Z Z Z qE qE Z)<|oA (EvA.b2s (l:=([((48:Int)+s6.2)]:LI)) underlying22 underlying5 underlying9 (Qb Z)<|bH.fz (l:=([((48:Int)+s6.2)]:LI)) Z qE)<|oN mv<|jD h λg19 h=>oN (ZT.cat Z Z g19)<|oN as'<|jA<|jK ?_
   cases h
   exact SV Z Z Z
  refine jE ?_;refine T.lU h (λs9=>[(3,St s9.1),(0,I s9.2)]) (λs9=>[]) (kw Z Z) λs9 ws9 h=>?_;refine jH<|jI<|oN mv<|oN (ZT.igt Z Z)<|jA ?_;refine jN Z h (λq11 h=>?_) λq11 h=>?_
  .refine jG<|jE<|jI<|oN mv<|jD h λg12 h=>oN (ZT.rem Z Z g12)<|jW h λg13 h=>oN (ZT.add Z Z g13)<|jW h λg14 h=>oN (ZT.iconv Z8.und underlying5 Z g14)<|oN (ZT.mkF (c:=cY) ([((48:Int)+(s9.2.tmod (10:Int)))]:LI) [[Y ((48:Int)+(s9.2.tmod (10:Int)))]] RY Z Z Z qE qE Z)<|oA (EvA.b2s (l:=([((48:Int)+(s9.2.tmod (10:Int)))]:LI)) underlying22 underlying5 underlying9 (Qb Z)<|bH.fz (l:=([((48:Int)+(s9.2.tmod (10:Int)))]:LI)) Z qE)<|oN mv<|jD h λg15 h=>oN (ZT.cat Z Z g15)<|oN as' ?_;refine jA<|jC<|oN mv<|jW h λg16 h=>oN (ZT.quo Z Z g12 g16)<|oN as'<|jA ?_;exact lE h<|kw Z Z
  exact az h
theorem GA(n:Int){q}(h:oP n=aag q):aF aaj 107 [I n] (St q):=by
 obtain⟨nf,h⟩:=nz h;exact EM nf n h
instance Sw(n:Int):Ct aaj (oP n) 107 [I n] St:=⟨GA n⟩
instance OZ(from_:Int)(n:Int):Ct aaj (lq from_ n) 233 [Y from_,I n] St:=ctp func233 λq h=>by
 refine gk h λ_ _ h=>?_;refine oA (EvA.b2s (l:=([(from_+n)]:LI)) underlying22 underlying5 underlying9 (Qb Z)<|bH.fz (l:=([(from_+n)]:LI)) Z qE) ?_;exact gz h
instance Sy(x:ZW):Ct aaj (tu x) 185 [.agg (ZW.c x)] St:=ctp func185 λq h=>az h
instance wu(a:LI)(b:LI):Ct aaj (bW a b) 99 [eL cI a,eL cI b] Bo:=ctp func99 λq h=>az h
theorem mY(a:LI)(b:LI){q}(h:bW a b=aag q):aF aaj 99 [eL cI a,eL cI b] (Bo q):=(wu a b).c h
theorem fI(s:LL)(gw:Bool)(aW:Nat)(hgw:gw=aae->s=[]){q}(h:aI s=aag q):cN aaj 98 [hS gw 0 aW 1 s.length,.fn (.func 99) []] [bE gw aW 1 25 (s.map<|cL cI)] (KO 1 25 (λx=>x) q.length (q.map<|cL cI) 0 []):=by
 refine cN.mkS func98 Z (by kernel_rfl) Z (by kernel_rfl) (e0:=ak [(0,hS gw 0 aW 1 s.length),(1,.fn (.func 99) [])]) (ZR Z<|ZR Z ZQ)<|go h λ_ h=>?_;refine gsi h (λ_ q1 h=>?_) λ_ q1 h=>?_
 .refine go h λ_ h=>?_;obtain rfl:=ZV h
  repeat (first|refine pG ?_|refine pI ?_)
  exact⟨ak [(4,hS gw 0 aW 1 s.length)],[bE gw aW 1 25 (s.map<|cL cI)],Z9,jQ (vs:=[hS gw 0 aW 1 s.length]) (.cons (.tmp Z) .nil) ⟨gw,aW,(vO hgw Z),Z,Z⟩⟩
 refine go h λ_ h=>?_;obtain⟨Ks2,es2,ws2,h,ks2⟩:=II h;refine T.join (S:=(LL)) (G:=(Bool×Nat)) (λs2=>Ks2 s2=aag q) (λs2 gh=>(gh.1=aae->s2=[])) (λs2 gh=>[(0,hS gh.1 0 gh.2 1 s2.length)]) (λs2 gh=>[bE gh.1 gh.2 1 25 (s2.map<|cL cI)]) (λs2 gh h n45=>?_) ?_
 .clear ks2;subst es2;obtain⟨b44,u43⟩:=gh;refine go h λ_ h=>?_;obtain rfl:=ZV h
  repeat (first|refine pG ?_|refine pI ?_)
  exact⟨ak [(4,hS b44 0 u43 1 s2.length)],[bE b44 u43 1 25 (s2.map<|cL cI)],Z9,jQ (vs:=[hS b44 0 u43 1 s2.length]) (.cons (.tmp Z) .nil) ⟨b44,u43,(vO n45 Z),Z,Z⟩⟩
 refine go h λ_ h=>?_;refine tL h (gw,aW) (λs8 gh=>(gh.1=aae->s8.1=[])) (λs8 gh=>[(5,I s8.2),(0,hS gh.1 0 gh.2 1 s8.1.length),(1,.fn (.func 99) [])]) (λs8 gh=>[bE gh.1 gh.2 1 25 (s8.1.map<|cL cI)]) hgw λs8 gh ws8 h n12=>?_;obtain⟨b11,u10⟩:=gh;refine gsi h (λ_ q13 h=>?_) λ_ q13 h=>?_
 .refine go h λ_ h=>?_;obtain⟨Ks14,es14,ws14,h,ks14⟩:=II h;refine T.join (S:=Unit) (G:=Unit) (λs14=>Ks14 s14=aag ws8) (λs14 gh=>True) (λs14 gh=>[(5,I s8.2),(0,hS aaf 0 u10 1 s8.1.length),(1,.fn (.func 99) [])]) (λs14 gh=>[bE aaf u10 1 25 (s8.1.map<|cL cI)]) (λs14 gh h hg=>?_) ?_
  .clear ks14;subst es14;refine go h λ_ h=>?_;obtain rfl:=ZV h;exact⟨(s8.1,(s8.2+V)),(aaf,u10),Z,nofun,Z9⟩
  refine go h λ_ h=>?_;refine jH<|jP (dG [dF,dF,dF,dF,([0],aaf),dF,dF,dF,dF,([0],aaf),dF]) (by kernel_rfl) (by kernel_rfl) ?_;refine go h λ_ h=>?_;refine jD h λg15 h=>?_;obtain rfl:=HM n12 rfl g15;refine go h λ_ h=>?_;refine fC h (λ_=>mY _ _) Z Z Z Z Z λv18 _ h=>?_;refine gi h (λ_ q19 h=>?_) λ_ q19 h=>?_
  .refine go h λ_ h=>?_;refine jD h λg20 h=>oN (ZT.slhs underlying28 AX (l:=s8.2) (h:=(s8.1.length:Int)) Z (.yes Z) .no g20)<|go h λ_ h=>?_;refine tJ h (λs21 gh=>[(5,I s21.2),(0,hS aaf 0 gh 1 s21.1.length)]) (λs21 gh=>[bE aaf gh 1 25 (s21.1.map<|cL cI)]) (λs21 u39 h=>?_) λs21 h=>?_
   .refine go h λ_ h=>?_;refine jD h λg40 h=>oN (ZT.slhs underlying28 AX (l:=s21.2) (h:=(s21.1.length:Int)) Z (.yes Z) .no g40)<|oV (EvA.clearO (l:=s21.1) wo zrN Z Z<|Qh (l:=s21.1) g40 Z) ?_;refine go h λ_ h=>?_;refine jD h λg41 h=>oA (EvA.cutO (l:=(cpy s21.1 (0+s21.2.toNat) (afg ((s21.1.length:Int).toNat-s21.2.toNat) (aad:LI))<|(s21.1.length:Int).toNat-s21.2.toNat)) (zl:=(0:Int)) (zh:=s21.2) (ZT.slhs underlying28 AX (l:=(0:Int)) (h:=s21.2) Z .no (.yes Z) g41) Z (by simp[CM]) g41)<|go h λ_ h=>?_;obtain rfl:=ZV h;replace h:=congrArg aag (show _=_ from ks14);refine lX h λh=>?_;obtain rfl:=ZV h;replace h:=congrArg aag (show _=_ from ks2);obtain rfl:=ZV h
    repeat (first|refine pG ?_|refine pI ?_)
    exact⟨ak [(4,hS aaf 0 (u39+1) 1<|(((cpy s21.1 (0+s21.2.toNat) (afg ((s21.1.length:Int).toNat-s21.2.toNat) (aad:LI))<|(s21.1.length:Int).toNat-s21.2.toNat).drop U.toNat).take<|s21.2.toNat-U.toNat).length)],[bE aaf (u39+1) 1 25 ((((cpy s21.1 (0+s21.2.toNat) (afg ((s21.1.length:Int).toNat-s21.2.toNat) (aad:LI))<|(s21.1.length:Int).toNat-s21.2.toNat).drop U.toNat).take<|s21.2.toNat-U.toNat).map<|cL cI)],Z9,jQ (vs:=[hS aaf 0 (u39+1) 1 ((((cpy s21.1 (0+s21.2.toNat) (afg ((s21.1.length:Int).toNat-s21.2.toNat) (aad:LI))<|(s21.1.length:Int).toNat-s21.2.toNat).drop U.toNat).take<|s21.2.toNat-U.toNat).length)]) (.cons (.tmp Z) .nil) ⟨aaf,u39+1,nofun,Z,Z⟩⟩
   refine go h λ_ h=>?_;refine tT h u10 (λs25 gh=>[(7,I s25.2.1),(6,.hs 0 gh 1 (0+s8.2.toNat)<|(s8.1.length:Int).toNat-s8.2.toNat),(5,I s25.2.2),(0,hS aaf 0 gh 1 s25.1.length),(1,.fn (.func 99) [])]) (λs25 gh=>[bE aaf gh 1 25 (s25.1.map<|cL cI)]) λs25 u27 ws25 h=>?_;let d0:=s25.1.getD ((0+s8.2.toNat)+s25.2.1.toNat) aad;refine gsi h (λ_ q28 h=>?_) λ_ q28 h=>?_
   .refine go h λ_ h=>?_;refine tJ h (λs29 gh=>[(5,I s29.2),(7,I s25.2.1),(6,.hs 0 gh 1 (0+s8.2.toNat)<|(s8.1.length:Int).toNat-s8.2.toNat),(0,hS aaf 0 gh 1 s29.1.length),(1,.fn (.func 99) [])]) (λs29 gh=>[bE aaf gh 1 25 (s29.1.map<|cL cI)]) (λs29 u37 h=>?_) λs29 h=>?_
    .refine go h λ_ h=>?_;obtain rfl:=ZV h;exact⟨(s29.1,(s25.2.1+V),s29.2),u37,Z,trivial,Z9⟩
    refine go h λ_ h=>?_;refine jH<|jP (dG [dF,dF,dF,dF,([0],aaf),dF,dF,dF,dF,([0],aaf),dF,dF]) (by kernel_rfl) (by kernel_rfl) ?_;refine go h λ_ h=>?_;refine jD h λg30 h=>fN Z (ZT.ixP wo Z Z g30.1)<|fR [0] Z (λG hG=>EvA.ldO (g:=false) (l:=s25.1) (eL cI d0) AX Z (hG.a0 Z) nofun g30.2 Z) ?_;refine go h λ_ h=>?_;refine jD h λg32 h=>fN Z (ZT.ixP wo Z Z g32.1)<|fR [0] Z (λG hG=>EvA.ldO (g:=false) (l:=s25.1) (eL cI<|s25.1.getD ((0+s8.2.toNat)+(s25.2.1-V).toNat) aad) AX Z (hG.a0 Z) nofun g32.2 Z)<|fC h (λ_=>mY _ _) Z Z Z Z Z λv33 _ h=>?_;refine gi h (λ_ q34 h=>?_) λ_ q34 h=>?_
    .refine go h λ_ h=>?_;refine oN (ZT.ixP wo Z Z g30.1)<|oA (EvA.ldO (g:=false) (l:=s25.1) (eL cI d0) AX Z Z nofun g30.2 Z) ?_;refine go h λf h=>?_;obtain⟨g35,_⟩:=f;refine oV (EvA.stO (g:=false) (l:=s25.1) (cs:=[eL cI d0]) d0 AX Z Z Z nofun (aS Z g35) Z Z Z)<|go h λ_ h=>?_;obtain rfl:=ZV h;exact⟨u27,trivial,K5 Z<|ZR Z<|ZR Z<|ZR Z<|ZR (congrArg (hS aaf 0 u27 1) (by simp:s25.1.length=(s25.1.set s25.2.2.toNat d0).length))<|ZR Z ZQ⟩
    refine go h λ_ h=>?_
    cases h
    exact⟨u27,trivial,Z9⟩
   refine jM<|lX h λh=>?_
   cases h
   exact⟨u27,trivial,Z9⟩
  exact az h
 refine jM<|lX h λh=>?_;obtain rfl:=ZV h;exact⟨s8.1,(b11,u10),ks2,n12,Z9⟩
theorem xD(list:LL)(gw:Bool)(aW:Nat)(hgw:gw=aae->list=[]){q}(h:il list=aag q):cN aaj 48 [hS gw 0 aW 1 list.length] [bE gw aW 1 25 (list.map<|cL cI)] (KO 1 25 (λx=>x) q.length (q.map<|cL cI) 0 []):=by
 refine cN.mkS func48 Z (by kernel_rfl) Z (by kernel_rfl) (e0:=ak [(0,hS gw 0 aW 1 list.length)]) (ZR Z ZQ)<|go h λ_ h=>?_;refine jB h λv1 cv1 h=>oA (EvA.call Z Z Z<|(A8 list gw aW hgw cv1).oneE Z (.cons (kz Z)<|.cons (.pF Z) .nil) (nA qE) (nA qE) Z)<|go h λ_ h=>?_;refine jB h λv2 cv2 h=>?_;refine oGW Z Z (fI v1 gw aW (λx=>yV (hgw x) cv1) cv2) Z (.cons (ML Z (yX cv1).symm)<|.cons (.pF Z) .nil) (nA qE) (nA qE) sF λg3 v4 n5=>?_;refine go h λ_ h=>?_;obtain rfl:=ZV h
 repeat (first|refine pG ?_|refine pI ?_)
 exact⟨ak [(2,hS g3 0 v4 1 v2.length)],[bE g3 v4 1 25 (v2.map<|cL cI)],Z9,jQ (vs:=[hS g3 0 v4 1 v2.length]) (.cons (.tmp Z) .nil) ⟨g3,v4,(vO (λx=>afh<|n5 x) Z),Z,Z⟩⟩
theorem yM(p:List<|List ZW)(m:List ah){q}(h:fu p m=aag q):aF aaj 14 [eL (cL ZW.c) p,eL ah.c m] (eL (cL cI) q):=by
 refine pM func14 Z (by kernel_rfl) Z<|jI ?_;refine gq h λ_ h=>?_;refine jH<|T.reserve ?_;refine go h λ_ h=>?_;refine T.jF (G:=(Bool×Nat)) h (λs1 gh=>(gh.1=aae->s1=[])) (λs1 gh=>[(5,hS gh.1 0 gh.2 1 s1.length)]) (λs1 gh=>[bE gh.1 gh.2 1 25 (s1.map<|cL cI)]) (λs1 gh h n20=>?_) λs1 h=>?_
 .obtain⟨b19,u18⟩:=gh;refine go h λ_ h=>?_;refine jB h λv21 cv21 h=>?_;refine oGW Z Z (xD s1 b19 u18 n20 cv21) Z (.cons (kz Z) .nil) (nA qE) (nA qE) sF λg22 v23 n24=>?_;exact gf h
 refine gC h λv2 h=>?_;refine kL [13,12,0] h (aae,0) (λs8 gh=>(gh.1=aae->s8.1=[])) (λs8 gh k=>(14,I s8.2)::(5,hS gh.1 0 gh.2 1 s8.1.length)::k) (λs8 gh=>[bE gh.1 gh.2 1 25 (s8.1.map<|cL cI)]) qE λs8 gh ws8 h n12=>?_;obtain⟨b11,u10⟩:=gh;refine gy h λq13 h=>?_;refine go h λ_ h=>?_;refine gD h λv15 h=>(gk h λ_ _ h=>?_);obtain rfl:=ZV h;exact⟨((s8.1++[v15.1]),(s8.2+V)),(aaf,u10+1),Z,nofun,Z9⟩
instance Jv(p:List<|List ZW)(m:List ah):Ct aaj (fu p m) 14 [eL (cL ZW.c) p,eL ah.c m] (eL<|cL cI):=⟨yM p m⟩
instance uX(s:LI)(v:Int):Ct aaj (cn s v) 92 [eL cI s,I v] Bo:=ctp func92 λq h=>az h
theorem uY(s:LI)(v:Int){q}(h:cn s v=aag q):aF aaj 92 [eL cI s,I v] (Bo q):=(uX s v).c h
instance Ny(p:List<|List ZW)(x:ZX):Ct aaj (jX p x) 47 [eL (cL ZW.c) p,.agg (ZX.c x)] Bo:=ctp func47 λq h=>by
 refine go h λ_ h=>?_;refine eF Z Z Z<|go h λ_ h=>?_;refine gs h λ_ h=>?_;refine oC h (λ_=>rL _) Z Z Z Z λv1 _ h=>?_;refine gi h (λ_ q2 h=>?_) λ_ q2 h=>?_
 .exact az h
 refine go h λ_ h=>?_;refine oC h (λ_=>lN _) Z Z Z Z λv3 _ h=>(go h λ_ h=>?_);refine gs h λ_ h=>?_;refine kB [5,3] h 5 (λs4 k=>(28,Bo s4)::k) (λs4=>[]) (λs4 q5 h js4=>?_) (λs4 q5 h js4=>?_) λs4 h=>?_
 .exact gj h js4
 .exact gj h js4
 refine gi h (λ_ q6 h=>?_) λ_ q6 h=>?_
 .exact az h
 refine go h λ_ h=>?_;refine kS [5,3] h (λs7 k=>k) (λs7=>[]) (λs7 h=>?_) λKs7 ws7 h ks7=>?_
 .obtain⟨Ks27,es27,ws27,h,ks27⟩:=II h;refine T.join (S:=Unit) (G:=Unit) (λs27=>Ks27 s27=aag q) (λs27 gh=>True) (λs27 gh=>[]) (λs27 gh=>[]) (λs27 gh h hg=>?_) ?_
  .exact az h
  refine go h λ_ h=>?_;refine kU [69,68,5] h (λs30 k=>(70,I s30)::k) (λs30=>[]) λs30 ws30 h=>?_;refine go h λ_ h=>?_;refine jH ?_;refine jN Z h (λq32 h=>?_) λq32 h=>?_
  .refine go h λ_ h=>?_;refine gs h λ_ h=>?_;refine jB h λv34 cv34 h=>?_;refine oG Z Z Z ((dX (J x.Order s30) cv34).own Z (nA qE) sF 0 Z) λg35 v36 n37=>?_;refine go h λ_ h=>?_;refine jB h λv38 cv38 h=>oA (EvA.call Z Z Z<|(Gp v34 g35 v36 (λx=>afh<|n37 x) cv38).oneE Z (.cons (kz Z) .nil) (nA qE) (nA qE) Z)<|go h λ_ h=>?_;refine oC h (λ_=>pE _ _) Z Z Z Z λv39 _ h=>jB h λv40 cv40 h=>oA (EvA.callT Z Z (nU v38 v39 cv40) (.cons (Fz.own (g:=g35) (ver:=v36) (l:=v38) Z Z (CS cv38).symm (λx=>CR ((λx=>afh<|n37 x) x) cv38) qE)<|.cons (qD Z) .nil) Z)<|go h λ_ h=>?_;refine kB [70,69,68,5] h 6 (λs41 k=>(91,Bo s41)::k) (λs41=>[bE g35 v36 1 3 (v38.map cI)]) (λs41 q42 h js41=>?_) (λs41 q42 h js41=>?_) λs41 h=>?_
   .exact gj h js41
   .exact gj h js41
   refine gi h (λ_ q44 h=>?_) λ_ q44 h=>?_
   .refine go h λ_ h=>?_;refine lX h λh=>?_;obtain rfl:=ZV h;replace h:=congrArg aag (show _=_ from ks27);exact gz h
   exact az h
  refine jM<|lX h λh=>?_
  cases h
  exact⟨(),(),ks27,trivial,Z9⟩
 refine go h λ_ h=>?_;refine kU [30,29,5,3] h (λs10 k=>(31,I s10)::k) (λs10=>[]) λs10 ws10 h=>?_;refine go h λ_ h=>?_;refine jH ?_;refine jN Z h (λq12 h=>?_) λq12 h=>?_
 .refine go h λ_ h=>?_;refine gs h λ_ h=>?_;refine kB [8,6,7,31,30,29,5,3] h 3 (λs15 k=>(47,Bo s15)::k) (λs15=>[aag ⟨0,5,111,[(ZY.c<|J v3 s10)]⟩]) (λs15 q16 h js15=>?_) (λs15 q16 h js15=>?_) λs15 h=>?_
  .exact gj h js15
  .exact gj h js15
  refine go h λ_ h=>?_;refine kB [31,30,29,5,3] h 17 (λs17 k=>(65,Bo s17)::k) (λs17=>[aag ⟨0,5,111,[(ZY.c<|J v3 s10)]⟩]) (λs17 q18 h js17=>?_) (λs17 q18 h js17=>?_) λs17 h=>?_
  .exact gj h js17
  .refine go h λ_ h=>?_;refine gA Z q18 (lh (Bo<|(J v3 s10).Reads) ty4 Z Z Z)<|go h λ_ h=>?_;refine kB [51,50,49,48,31,30,29,5,3] h 13 (λs19 k=>(64,Bo s19)::k) (λs19=>[aag ⟨0,5,111,[(ZY.c<|J v3 s10)]⟩]) (λs19 q20 h js19=>?_) (λs19 q20 h js19=>?_) λs19 h=>?_
   .refine go h λ_ h=>?_;refine kB [55,54,53,52,51,50,49,48,31,30,29,5,3] h 8 (λs21 k=>(63,Bo s21)::k) (λs21=>[aag ⟨0,5,111,[(ZY.c<|J v3 s10)]⟩]) (λs21 q22 h js21=>?_) (λs21 q22 h js21=>?_) λs21 h=>?_
    .refine go h λ_ h=>?_;refine gN Z q20 (ZT.pickT Z q22 (Bo aae) Z) ?_
     cases h
     exact js21 _ _ Z9
    .refine go h λ_ h=>?_;refine gA Z q22 (lh (I<|(J v3 s10).Loc) Z8 Z Z Z)<|jB h λv23 cv23 h=>gN Z q22 (ZT.call Z Z Z (pE v3 ((J v3 s10).Loc) cv23) Z) ?_;refine go h λ_ h=>?_;refine jB h λv24 cv24 h=>gN Z q22 (ZT.call Z Z Z (uY v23 (J x.From s10) cv24) Z)<|go h λ_ h=>?_;refine gN Z q20 (ZT.pickF Z q22 (Bo<|!v24) Z) ?_
     cases h
     exact js21 _ _ Z9
    refine gN Z q18 (ZT.pickT Z q20 (Bo s21) Z) ?_
    cases h
    exact js19 _ _ Z9
   .refine go h λ_ h=>?_;refine gN Z q18 (ZT.pickF Z q20 (Bo aaf) Z) ?_
    cases h
    exact js19 _ _ Z9
   exact gj h js17
  refine gi h (λ_ q25 h=>?_) λ_ q25 h=>?_
  .refine go h λ_ h=>?_;refine lX h λh=>?_;obtain rfl:=ZV h;replace h:=congrArg aag (show _=_ from ks7);exact gz h
  exact az h
 refine jM<|lX h λh=>?_
 cases h
 exact⟨(),(),ks7,trivial,Z9⟩
instance Nz(p:List<|List ZW)(x:ZX):Ct aaj (ni p x) 12 [eL (cL ZW.c) p,.agg (ZX.c x)] (λq=>.tup [eL cI q.1,Bo q.2]):=ctp func12 λq h=>az h
instance Mo(x:LI)(y:LI):Ct aaj (qj x y) 39 [eL cI x,eL cI y] Bo:=ctp func39 λq h=>az h
instance tO(s1_:LL)(s2_:LL):Ct aaj (aJ s1_ s2_) 38 [eL (cL cI) s1_,eL (cL cI) s2_,.fn (.func 39) []] Bo:=ctp func38 λq h=>by
 refine gx h λq1 h=>?_;refine go h λ_ h=>?_;refine qS [] h (λs2 k=>k) (λs2 h=>?_) λKs2 ws2 h ks2=>?_
 .exact az h
 refine go h λ_ h=>?_;refine qU [16,15,1,2] h (λs5 k=>(17,I s5)::k) λs5 ws5 h=>?_;exact az h
instance DJ(a:ZX)(b:ZX):Ct aaj (gb a b) 9 [.agg (ZX.c a),.agg (ZX.c b)] Bo:=ctp func9 λq h=>az h
theorem wV(a:ZX)(b:ZX){q}(h:gb a b=aag q):aF aaj 9 [.agg (ZX.c a),.agg (ZX.c b)] (Bo q):=(DJ a b).c h
theorem EN(code:LI){q}(h:mP code=aag q):eZ aaj 22 [eL cY code] [] (.hp 0 0 2 0 0) [aag ⟨0,2,80,[(ae.c q)]⟩]:=by
 refine aM func22 Z (by kernel_rfl) Z<|go h λ_ h=>?_;refine qV [] h (λs1 k=>(0,eL cY s1)::k) (λs1 h=>?_) λs1 h=>?_
 .refine go h λ_ h=>?_;refine eB Z Z<|go h λ_ h=>?_;obtain rfl:=ZV h
  repeat (first|refine pG ?_|refine pI ?_)
  exact⟨ak [(2,.hp 0 0 2 0 0)],[aag ⟨0,2,80,[(ae.c (⟨s1,U⟩:ae))]⟩],Z9,jQ (vs:=[.hp 0 0 2 0 0]) (.cons (.tmp Z) .nil) ⟨Z,Z⟩⟩
 refine gy h λq2 h=>?_;refine go h λ_ h=>?_;refine jD h λg3 h=>oN (ZT.slL RY Z .no (.yes Z) g3 qE)<|go h λ_ h=>?_
 cases h
 exact⟨(),trivial,Z9⟩
theorem ax(r_:ae)(n:Int)(aW:Nat){q}(h:av r_ n=aag q):eZ aaj 27 [.hp 0 aW 2 0 0,I n] [aag ⟨aW,2,80,[(ae.c r_)]⟩] (I q.2) [aag ⟨aW,2,80,[(ae.c q.1)]⟩]:=by
 let d0:=((r_.p+V)-V);refine aM func27 Z (by kernel_rfl) Z<|jI<|oN as'<|jA<|jI<|oN mv<|oN mv<|oN (nl Z)<|oN (fa SZ Z)<|oA (lh (I r_.p) Z8 Z Z Z)<|jW h λg1 h=>oN (ZT.add Z Z g1)<|oN (nl Z)<|oN (fa SZ Z)<|oV (sr [eL cY r_.b,I (r_.p+V)] Z8 Z Z Z Z)<|jA ?_;refine jH<|jI<|oN mv<|oN (ZT.ilt Z Z)<|oN mv ?_;refine gB [0,1] h 7 (λs2 k=>(24,Bo s2)::k) λs2 h=>?_;refine jA ?_;refine jN Z h (λq4 h=>?_) λq4 h=>?_
 .refine jI<|oN as'<|jA<|jK ?_;obtain rfl:=ZV h
  repeat (first|refine pG ?_|refine pI ?_)
  exact⟨ak [(4,I U)],[aag ⟨aW,2,80,[(ae.c (⟨r_.b,(r_.p+V)⟩:ae))]⟩],kw Z Z,jQ (vs:=[I U]) (.cons (.tmp Z) .nil) ⟨Z,Z⟩⟩
 refine jG<|jI<|oN mv<|oN (nl Z)<|oN (fa SZ Z)<|oA (lh (I<|r_.p+V) Z8 Z Z Z)<|jW h λg5 h=>oN (ZT.sub Z Z g5)<|oN as'<|jA<|jH<|jI<|oN mv<|oN mv<|oN (nl Z)<|oN (fa SZ Z) ?_;refine oA (lh (eL cY r_.b) Wq Z Z Z)<|oN (ZT.lenL RY Z)<|oN (ZT.ilt Z Z)<|jA ?_;refine jN Z h (λq6 h=>?_) λq6 h=>?_
 .refine jI<|oN mv<|oN (nl Z)<|oN (fa SZ Z)<|oA (lh (eL cY r_.b) Wq Z Z Z)<|oN mv<|jD h λg7 h=>oN (ZT.ixL RY Z Z g7 qE)<|oN (lf (Y<|J r_.b d0) ty5 Z)<|jW h λg8 h=>oN (ZT.iconv ty5.und underlying3 Z g8)<|oN mv<|jD h λg9 h=>oN (ZT.rem Z Z g9)<|oN as'<|jA ?_;refine jK ?_;obtain rfl:=ZV h
  repeat (first|refine pG ?_|refine pI ?_)
  exact⟨ak [(4,I<|(J r_.b d0).tmod n)],[aag ⟨aW,2,80,[(ae.c (⟨r_.b,(r_.p+V)⟩:ae))]⟩],kw Z Z,jQ (vs:=[I ((J r_.b d0).tmod n)]) (.cons (.tmp Z) .nil) ⟨Z,Z⟩⟩
 refine jG<|jH<|jP (dG [dF,dF,dF,([0],aaf),dF,dF,dF,dF,([0],aaf),dF,dF,dF,dF,dF,dF,dF,dF,dF,([0],aaf),dF,dF,dF,dF,dF,dF,([0],aaf),dF,dF,dF,dF,dF,dF,dF,dF,dF,dF,dF,dF,dF,dF,([0],aaf),dF,dF,dF,dF,dF]) (by kernel_rfl) (by kernel_rfl)<|fN Z mv<|fN Z (nl Z)<|fN Z (fa SZ Z)<|fR [0] Z (λG hG=>EvA.loadhp (eL cY r_.b) Wq Z (hG.a0 Z) Z Z Z Z)<|fN Z mv<|fN Z mv<|fN Z (nl Z)<|fN Z (fa SZ Z)<|fR [0] Z (λG hG=>EvA.loadhp (eL cY r_.b) Wq Z (hG.a0 Z) Z Z Z Z)<|fN Z (ZT.lenL RY Z)<|jD h λg10 h=>fN Z (ZT.rem Z Z g10)<|jD h λg11 h=>?_;refine fN Z (ZT.ixL RY Z Z g11 qE)<|fN Z (lf (Y<|J r_.b<|d0.tmod (r_.b.length:Int)) ty5 Z)<|jW h λg12 h=>fN Z (ZT.iconv ty5.und underlying3 Z g12)<|jW h λg13 h=>fN Z (ZT.mul Z Z g13)<|fN Z mv<|fN Z (nl Z)<|fN Z (fa SZ Z)<|fR [0] Z (λG hG=>EvA.loadhp (eL cY r_.b) Wq Z (hG.a0 Z) Z Z Z Z)<|fN Z mv<|jW h λg14 h=>fN Z (ZT.mul Z Z g14)<|jW h λg15 h=>fN Z (ZT.add Z Z g15)<|fN Z mv ?_;refine fN Z (nl Z)<|fN Z (fa SZ Z)<|fR [0] Z (λG hG=>EvA.loadhp (eL cY r_.b) Wq Z (hG.a0 Z) Z Z Z Z)<|fN Z (ZT.lenL RY Z)<|fN Z (ZT.rem Z Z g10)<|jD h λg16 h=>fN Z (ZT.ixL RY Z Z g16 qE)<|fN Z (lf (Y<|J r_.b<|((d0*(7:Int))+(3:Int)).tmod (r_.b.length:Int)) ty5 Z)<|jW h λg17 h=>fN Z (ZT.iconv ty5.und underlying3 Z g17)<|jW h λg18 h=>fN Z (ZT.mul Z Z g18)<|jW h λg19 h=>fN Z (ZT.add Z Z g19)<|fN Z mv<|jW h λg20 h=>?_;refine fN Z (ZT.mul Z Z g20)<|jW h λg21 h=>fN Z (ZT.add Z Z g21)<|fN Z mv<|fN Z mv<|fN Z (nl Z)<|fN Z (fa SZ Z)<|fR [0] Z (λG hG=>EvA.loadhp (eL cY r_.b) Wq Z (hG.a0 Z) Z Z Z Z)<|fN Z (ZT.lenL RY Z)<|jW h λg22 h=>fN Z (ZT.quo Z Z g10 g22)<|jW h λg23 h=>fN Z (ZT.mul Z Z g23)<|jW h λg24 h=>fN Z (ZT.add Z Z g24)<|fN Z as' ?_;refine jR<|jH<|T.clean (H0:=[aag ⟨aW,2,80,[[eL cY r_.b,I (r_.p+V)]]⟩]) (e0:=ak [(6,I<|((((J r_.b<|d0.tmod (r_.b.length:Int))*(131:Int))+((J r_.b<|((d0*(7:Int))+(3:Int)).tmod (r_.b.length:Int))*(1117:Int)))+(d0*(29:Int)))+((d0.tdiv (r_.b.length:Int))*(53:Int))),(1,I n)]) Z (ZR Z<|ZR Z ZQ)<|jC<|oN mv<|oN mv<|jD h λg25 h=>jW h λg26 h=>oN (ZT.quo Z Z g25 g26)<|jB h λw27 ew27 h=>?_;replace ew27:=osi ew27;refine oN (ZT.res (ZT.bxor Z Z) (r':=I w27) λ_ _ hr=>by rw[<- ew27];exact hr)<|oN as'<|jA<|jI<|oN mv<|oN mv<|jD h λg28 h=>oN (ZT.rem Z Z g28)<|oN as'<|jA<|jK ?_;obtain rfl:=ZV h
 repeat (first|refine pG ?_|refine pI ?_)
 exact⟨ak [(4,I<|w27.tmod n)],[aag ⟨aW,2,80,[(ae.c (⟨r_.b,(r_.p+V)⟩:ae))]⟩],kw Z Z,jQ (vs:=[I (w27.tmod n)]) (.cons (.tmp Z) .nil) ⟨Z,Z⟩⟩
theorem cW(r_:ae)(list:LI)(aW:Nat){q}(h:bq r_ list=aag q):eZ aaj 28 [.hp 0 aW 2 0 0,eL cI list] [aag ⟨aW,2,80,[(ae.c r_)]⟩] (I q.2) [aag ⟨aW,2,80,[(ae.c q.1)]⟩]:=by
 refine aM func28 Z (by kernel_rfl) Z<|go h λ_ h=>?_;refine jB h λv1 cv1 h=>oA (EvA.call Z Z Z<|(ax (⟨r_.b,r_.p⟩:ae) (list.length:Int) aW cv1).one 0 Z (.cons (.hp Z)<|.cons (.pF Z) .nil) (au Z) (au Z) Z)<|go h λ_ h=>?_;obtain rfl:=ZV h
 repeat (first|refine pG ?_|refine pI ?_)
 exact⟨ak [(4,I<|J list v1.2)],[aag ⟨aW,2,80,[(ae.c (⟨v1.1.b,v1.1.p⟩:ae))]⟩],Z9,jQ (vs:=[I (J list v1.2)]) (.cons (.tmp Z) .nil) ⟨Z,Z⟩⟩
theorem DK(r_:ae)(list:List BA)(aW:Nat){q}(h:o5 r_ list=aag q):eZ aaj 125 [.hp 0 aW 2 0 0,eL cS list] [aag ⟨aW,2,80,[(ae.c r_)]⟩] (St q.2) [aag ⟨aW,2,80,[(ae.c q.1)]⟩]:=by
 refine aM func125 Z (by kernel_rfl) Z<|go h λ_ h=>?_;refine jB h λv1 cv1 h=>oA (EvA.call Z Z Z<|(ax (⟨r_.b,r_.p⟩:ae) (list.length:Int) aW cv1).one 0 Z (.cons (.hp Z)<|.cons (.pF Z) .nil) (au Z) (au Z) Z)<|go h λ_ h=>?_;obtain rfl:=ZV h
 repeat (first|refine pG ?_|refine pI ?_)
 exact⟨ak [(4,St<|J list v1.2)],[aag ⟨aW,2,80,[(ae.c (⟨v1.1.b,v1.1.p⟩:ae))]⟩],Z9,jQ (vs:=[St (J list v1.2)]) (.cons (.tmp Z) .nil) ⟨Z,Z⟩⟩
theorem EO:∀(nf:Nat)(r_:ae)(depth:Int)(aW:Nat){q}(h:lC nf r_ depth=aag q),eZ aaj 63 [.hp 0 aW 2 0 0,I depth] [aag ⟨aW,2,80,[(ae.c r_)]⟩] (.agg<|aa.c q.2) [aag ⟨aW,2,80,[(ae.c q.1)]⟩]:=by
 intro nf
 induction nf with
 |zero=>intros;rename_i h;cases h
 |succ nf ih=>
  intro r_ depth aW q h;replace h:o8 (lC nf) r_ depth=aag q:=h;refine aM func63 Z (by kernel_rfl) Z<|gC h λv1 h=>?_;refine gs h λ_ h=>?_;rcases DY h with⟨q2,h⟩|⟨q2,h⟩
  .refine gp h λ_ h=>?_;refine go h λ_ h=>?_;refine T.cond Z (λ_=>?_) λq=>absurd (q.symm.trans Z) (by decide);refine go h λ_ h=>?_;refine jB h λv3 cv3 h=>oA (EvA.call Z Z Z<|(ax (⟨r_.b,r_.p⟩:ae) (v1.length:Int) aW cv3).one 0 Z (.cons (.hp Z)<|.cons (.pF Z) .nil) (au Z) (au Z) Z)<|go h λ_ h=>?_;obtain rfl:=ZV h
   repeat (first|refine pG ?_|refine pI ?_)
   exact⟨ak [(4,.fp (aa.c (⟨V,(J v1 v3.2),([]:List ZTE)⟩:aa)) 0)],[aag ⟨aW,2,80,[(ae.c (⟨v3.1.b,v3.1.p⟩:ae))]⟩],qH Z (.cons (.row<|.cons (.fz<|qD Z)<|.cons (.fz<|qD Z) .nil) .nil)<|ai (.fz<|Fz.fpL (ver:=0) (s:=3) (ty:=68) (rows:=[[I V,St (J v1 v3.2),.nil]]) Z Z Z<|.cons (qD Z)<|.cons (qD Z)<|.cons (.nil0) .nil) aO,jQ (vs:=[.agg (aa.c (⟨V,(J v1 v3.2),([]:List ZTE)⟩:aa))]) (.cons (.cellF (.agg<|aa.c (⟨V,(J v1 v3.2),([]:List ZTE)⟩:aa)) OD Z Z) .nil) ⟨Z,Z⟩⟩
  refine go h λ_ h=>?_;refine jB h λv5 cv5 h=>gA Z q2 (EvA.call Z Z Z<|(ax (⟨r_.b,r_.p⟩:ae) (3:Int) aW cv5).one 0 Z (.cons (.hp Z)<|.cons (.pF Z) .nil) (au Z) (au Z) Z)<|gp h λ_ h=>?_;refine gi h (λ_ q6 h=>?_) λ_ q6 h=>?_
  .refine go h λ_ h=>?_;refine jB h λv7 cv7 h=>oA (EvA.call Z Z Z<|(ax (⟨v5.1.b,v5.1.p⟩:ae) (v1.length:Int) aW cv7).one 0 Z (.cons (.hp Z)<|.cons (.pF Z) .nil) (au Z) (au Z) Z)<|go h λ_ h=>?_;obtain rfl:=ZV h
   repeat (first|refine pG ?_|refine pI ?_)
   exact⟨ak [(4,.fp (aa.c (⟨V,(J v1 v7.2),([]:List ZTE)⟩:aa)) 0)],[aag ⟨aW,2,80,[(ae.c (⟨v7.1.b,v7.1.p⟩:ae))]⟩],qH Z (.cons (.row<|.cons (.fz<|qD Z)<|.cons (.fz<|qD Z) .nil) .nil)<|ai (.fz<|Fz.fpL (ver:=0) (s:=3) (ty:=68) (rows:=[[I V,St (J v1 v7.2),.nil]]) Z Z Z<|.cons (qD Z)<|.cons (qD Z)<|.cons (.nil0) .nil) aO,jQ (vs:=[.agg (aa.c (⟨V,(J v1 v7.2),([]:List ZTE)⟩:aa))]) (.cons (.cellF (.agg<|aa.c (⟨V,(J v1 v7.2),([]:List ZTE)⟩:aa)) OD Z Z) .nil) ⟨Z,Z⟩⟩
  refine go h λ_ h=>?_;refine gs h λ_ h=>?_;refine jB h λv9 cv9 h=>oA (EvA.call Z Z Z<|(ax (⟨v5.1.b,v5.1.p⟩:ae) (4:Int) aW cv9).one 0 Z (.cons (.hp Z)<|.cons (.pF Z) .nil) (au Z) (au Z) Z) ?_;refine gi h (λ_ q10 h=>?_) λ_ q10 h=>?_
  .refine go h λ_ h=>?_;refine oN (ZT.mkF (c:=cI) ([(6:Int),(7:Int)]:LI) [[I (6:Int)],[I (7:Int)]] iq Z Z Z qE qE Z)<|jB h λv11 cv11 h=>oA (EvA.call Z Z Z<|(cW (⟨v9.1.b,v9.1.p⟩:ae) ([(6:Int),(7:Int)]:LI) aW cv11).one 0 Z (.cons (.hp Z)<|.cons (.pF Z) .nil) (au Z) (au Z) Z) ?_;refine go h λ_ h=>?_;refine jB h λv13 cv13 h=>oA (EvA.call Z Z Z<|(ih (⟨v11.1.b,v11.1.p⟩:ae) (depth-V) aW cv13).one 0 Z (.cons (.hp Z)<|.cons (.pF Z) .nil) (au Z) (au Z) Z)<|oN (ZT.res (ZT.mkF (c:=aa.c) ([v13.2]:List aa) [(aa.c v13.2)] Je Z Z Z qE aa.isF Z) (r':=eL ZTE.c ([v13.2.inn]:List ZTE)) λ_ _ hr=>CO aa.inn_c hr) ?_;refine go h λ_ h=>?_;obtain rfl:=ZV h
   repeat (first|refine pG ?_|refine pI ?_)
   exact⟨ak [(4,.fp (aa.c (⟨v11.2,(⟨#[]⟩:BA),([v13.2.inn]:List ZTE)⟩:aa)) 0)],[aag ⟨aW,2,80,[(ae.c (⟨v13.1.b,v13.1.p⟩:ae))]⟩],qH Z (.cons (.row<|.cons (.fz<|qD Z)<|.cons (.fz<|qD Z) .nil) .nil)<|ai (.fz<|Fz.fpL (ver:=0) (s:=3) (ty:=68) (rows:=[[I v11.2,St (⟨#[]⟩:BA),eL ZTE.c ([v13.2.inn]:List ZTE)]]) Z Z Z<|.cons (qD Z)<|.cons (qD Z)<|.cons (qD Z) .nil) aO,jQ (vs:=[.agg (aa.c (⟨v11.2,(⟨#[]⟩:BA),([v13.2.inn]:List ZTE)⟩:aa))]) (.cons (.cellF (.agg<|aa.c (⟨v11.2,(⟨#[]⟩:BA),([v13.2.inn]:List ZTE)⟩:aa)) OD Z Z) .nil) ⟨Z,Z⟩⟩
  refine go h λ_ h=>?_;refine oN (ZT.mkF (c:=cI) ([(2:Int),(3:Int),(4:Int),(5:Int)]:LI) [[I (2:Int)],[I (3:Int)],[I (4:Int)],[I (5:Int)]] iq Z Z Z qE qE Z)<|jB h λv14 cv14 h=>oA (EvA.call Z Z Z<|(cW (⟨v9.1.b,v9.1.p⟩:ae) ([(2:Int),(3:Int),(4:Int),(5:Int)]:LI) aW cv14).one 0 Z (.cons (.hp Z)<|.cons (.pF Z) .nil) (au Z) (au Z) Z) ?_;refine go h λf h=>?_;obtain⟨g15,_⟩:=f;refine jB h λv16 cv16 h=>oA (EvA.call Z Z Z<|(ih (⟨v14.1.b,v14.1.p⟩:ae) (depth-V) aW cv16).one 0 Z (.cons (.hp Z)<|.cons (.pF Z) .nil) (au Z) (au Z) Z)<|go h λ_ h=>?_;refine jB h λv17 cv17 h=>oA (EvA.call Z Z Z<|(ih (⟨v16.1.b,v16.1.p⟩:ae) (depth-V) aW cv17).one 0 Z (.cons (.hp Z)<|.cons (.pF Z) .nil) (au Z) (au Z) Z)<|oN (ZT.res (ZT.mkF (c:=aa.c) ([v16.2,v17.2]:List aa) [(aa.c v16.2),(aa.c v17.2)] Je Z Z Z qE aa.isF Z) (r':=eL ZTE.c ([v16.2.inn,v17.2.inn]:List ZTE)) λ_ _ hr=>CO aa.inn_c hr) ?_;refine go h λ_ h=>?_;obtain rfl:=ZV h
  repeat (first|refine pG ?_|refine pI ?_)
  exact⟨ak [(4,.fp (aa.c (⟨v14.2,(⟨#[]⟩:BA),([v16.2.inn,v17.2.inn]:List ZTE)⟩:aa)) 0)],[aag ⟨aW,2,80,[(ae.c (⟨v17.1.b,v17.1.p⟩:ae))]⟩],qH Z (.cons (.row<|.cons (.fz<|qD Z)<|.cons (.fz<|qD Z) .nil) .nil)<|ai (.fz<|Fz.fpL (ver:=0) (s:=3) (ty:=68) (rows:=[[I v14.2,St (⟨#[]⟩:BA),eL ZTE.c ([v16.2.inn,v17.2.inn]:List ZTE)]]) Z Z Z<|.cons (qD Z)<|.cons (qD Z)<|.cons (qD Z) .nil) aO,jQ (vs:=[.agg (aa.c (⟨v14.2,(⟨#[]⟩:BA),([v16.2.inn,v17.2.inn]:List ZTE)⟩:aa))]) (.cons (.cellF (.agg<|aa.c (⟨v14.2,(⟨#[]⟩:BA),([v16.2.inn,v17.2.inn]:List ZTE)⟩:aa)) OD Z Z) .nil) ⟨Z,Z⟩⟩
theorem zF(r_:ae)(depth:Int)(aW:Nat){q}(h:o9 r_ depth=aag q):eZ aaj 63 [.hp 0 aW 2 0 0,I depth] [aag ⟨aW,2,80,[(ae.c r_)]⟩] (.agg<|aa.c q.2) [aag ⟨aW,2,80,[(ae.c q.1)]⟩]:=by
 obtain⟨nf,h⟩:=nz h;exact EO nf r_ depth aW h
theorem Zn{n m:Nat}(hn:n<=2097152)(hm:Nat.ble m 1000=aae):aR n m=aae:=by
 have h1:=nlb hm;have h2:n*m<=2097152*1000:=Nat.mul_le_mul hn h1;exact decide_eq_true ⟨by omega,by omega⟩
theorem DL(r_:ae)(e:aa)(aW:Nat){q}(h:lD r_ e=aag q):eZ aaj 60 [.hp 0 aW 2 0 0,.agg (aa.c e)] [aag ⟨aW,2,80,[(ae.c r_)]⟩] (.agg<|aa.c q.2) [aag ⟨aW,2,80,[(ae.c q.1)]⟩]:=by
 refine eZ.mkT func60 Z (by kernel_rfl) Z (by kernel_rfl) (e0:=ak [(0,.hp 0 aW 2 0 0),(1,.agg<|aa.c e)]) (ZR Z<|ZR Z ZQ) ?_;unfold lD at h;obtain⟨hp,h⟩:=gdD h;refine jI ?_;refine oN (ZT.bxF [I e.Op,St e.Name,eL ZTE.c e.Kids] Z Z Z) ?_;refine oA (EvA.al X8 Z Z) ?_;refine jA ?_;refine jH ?_;refine T.reserve ?_;refine T.reserve ?_;refine jP (dG [dF,dF,dF,dF,([3],aae),dF,dF,([3],aae),dF,([2],aae),([2],aae)]) (by kernel_rfl) (by kernel_rfl) ?_;refine fN Z (fa Uq Z) ?_;refine fN Z (lf (I e.Op) Z8 Z) ?_;refine fN Z (fa Uq Z) ?_;refine fN Z (lf (St e.Name) ty9 Z) ?_;refine fW 3 [] Z Z (λG hG=>EvA.mkOR (c:=ZTE.c) 3 ([]:List ZTE) [] Je Z Z Z ZTE.len ZTE.isF Z<|hG.a0 Z) ?_;refine fN Z (fa Uq Z) ?_;refine fN Z (lf (eL ZTE.c e.Kids) YU Z) ?_;refine fW 3 [] Z Z (λG hG=>EvA.appF (l:=([]:List ZTE)) e.Kids Je (by kernel_rfl) Z Z (hG.a0 Z) (bH.fz (l:=e.Kids) Z ZTE.len)<|Zn (by simp;omega) Z) ?_;refine fN Z (ZT.build [I e.Op,St e.Name,hS aaf 3 (0+1) 3 ((([]:List ZTE)++e.Kids).length)] underlying68 X8 Uq Z Z) ?_;refine fW 2 [] Z Z (λG hG=>EvA.alR 2 X8 Z Z<|hG.a0 Z) ?_;refine fV 2 [] Z Z (λG hG=>sr [I e.Op,St e.Name,hS aaf 3 (0+1) 3 ((([]:List ZTE)++e.Kids).length)] OD Z Z (hG.a0 Z) Z) ?_;refine jR ?_;refine T.cut (e0:=ak [(5,.hp 2 0 3 0 0),(4,.hp 1 0 3 0 0),(0,.hp 0 aW 2 0 0)]) (H0:=[aag ⟨aW,2,80,[(ae.c r_)]⟩,aag ⟨0,3,68,[[I 0,St ⟨#[]⟩,.nil]]⟩,aag ⟨0,3,68,[[I e.Op,St e.Name,hS aaf 3 (0+1) 3 ((([]:List ZTE)++e.Kids).length)]]⟩,bE aaf (0+1) 3 68 ((([]:List ZTE)++e.Kids).map ZTE.c)]) (kw Z Z) ?_;refine T.joinF (G:=Unit) (λ_=>True) (λ_=>[(5,.fp (aa.c q.2) 0),(4,.hp 1 0 3 0 0)]) (λ_=>[aag ⟨aW,2,80,[(ae.c q.1)]⟩,aag ⟨0,3,68,[[I 0,St ⟨#[]⟩,.nil]]⟩]) (λ_ _=>?_) ?_
 .clear h;refine jI ?_;refine oN (lf (.agg<|aa.c q.2) OD Z) ?_;refine oV (sr [I q.2.Op,St q.2.Name,eL ZTE.c q.2.Kids] OD Z Z Z Z) ?_;refine jA ?_;refine jK ?_
  repeat first|refine pG ?_|refine pI ?_
  exact⟨ak [(4,.fp (aa.c q.2) 0)],[aag ⟨aW,2,80,[(ae.c q.1)]⟩],qH Z (.cons (.row<|.cons (.fz<|qD Z)<|.cons (.fz<|qD Z) .nil) .nil)<|ai (.fz<|Fz.fpL (ver:=0) (s:=3) (ty:=68) (rows:=[[I q.2.Op,St q.2.Name,eL ZTE.c q.2.Kids]]) Z Z Z<|.cons (qD Z)<|.cons (qD Z)<|.cons (qD Z) .nil) aO,jQ (vs:=[.agg (aa.c q.2)]) (.cons (.cellF (.agg<|aa.c q.2) OD Z Z) .nil) ⟨Z,Z⟩⟩
 refine jI ?_;refine oN mv ?_;obtain⟨v1,cv1,h⟩:=ve h;refine oA (EvA.call Z Z Z<|(ax r_ (24:Int) aW cv1).one 0 Z (.cons (.hp Z)<|.cons (.pF Z) .nil) (au Z) (au Z) Z) ?_;refine jA ?_;refine jE ?_;refine T.cut (e0:=ak [(17,I v1.2),(5,.hp 2 0 3 0 0),(4,.hp 1 0 3 0 0),(0,.hp 0 aW 2 0 0)]) (H0:=[aag ⟨aW,2,80,[(ae.c v1.1)]⟩,aag ⟨0,3,68,[[I 0,St ⟨#[]⟩,.nil]]⟩,aag ⟨0,3,68,[[I e.Op,St e.Name,hS aaf 3 (0+1) 3 ((([]:List ZTE)++e.Kids).length)]]⟩,bE aaf (0+1) 3 68 ((([]:List ZTE)++e.Kids).map ZTE.c)]) (kw Z Z) ?_;refine jI ?_;refine oN (ZT.ieq Z Z) ?_;refine oN (ZT.asg (Bo<|v1.2==U) Z) ?_;refine jA ?_;refine jN Z h (λq0 h=>?_) λq0 h=>?_
 .obtain⟨a1,ca,h⟩:=ve h;obtain rfl:=osl h;refine jC ?_;refine oN mv ?_;refine oN (ZT.mkF (c:=cI) ([(0:Int),(8:Int),V,(2:Int),(6:Int)]:LI) [[I U],[I (8:Int)],[I V],[I (2:Int)],[I (6:Int)]] iq Z Z Z qE qE Z) ?_;refine oA (EvA.call Z Z Z<|(cW v1.1 _ aW ca).one 0 Z (.cons (.hp Z)<|.cons (.pF Z) .nil) (au Z) (au Z) Z) ?_;refine oN (fa Uq Z) ?_;refine oV (sr [I a1.2,St e.Name,hS aaf 3 (0+1) 3 ((([]:List ZTE)++e.Kids).length)] Z8 Z Z Z Z) ?_;refine jA ?_;exact⟨(),trivial,qH Z (.cons (.row<|.cons (.fz<|qD Z)<|.cons (.fz<|qD Z) .nil)<|.cons (.row<|.cons (.fz<|qD Z)<|.cons (.fz<|qD Z)<|.cons (.fz<|qD Z) .nil) .nil)<|ai (.fz<|Fz.fpL (ver:=0) (s:=3) (ty:=68) (rows:=[[I a1.2,St e.Name,hS aaf 3 (0+1) 3 ((([]:List ZTE)++e.Kids).length)]]) Z Z Z<|.cons (qD Z)<|.cons (qD Z)<|.cons (Fz.own (g:=false) (ver:=0+1) (f:=ZTE.c) (l:=(([]:List ZTE)++e.Kids)) Z Z Z nofun ZTE.isF) .nil)<|ai (.hp<|nlb Z) aO⟩
 refine jI ?_;refine oN (ZT.ieq Z Z) ?_;refine oN (ZT.asg (Bo<|v1.2==V) Z) ?_;refine jA ?_;refine jN Z h (λq1 h=>?_) λq1 h=>?_
 .obtain⟨a1,ca,h⟩:=ve h;obtain rfl:=osl h;refine jC ?_;refine oN mv ?_;refine oN (ZT.mkF (c:=cS) ([(⟨#[]⟩:BA),(⟨#[102,111,111]⟩:BA),(⟨#[112,111]⟩:BA)]:List BA) [[St (⟨#[]⟩:BA)],[St (⟨#[102,111,111]⟩:BA)],[St (⟨#[112,111]⟩:BA)]] Ur Z Z Z qE qE Z) ?_;refine oA (EvA.call Z Z Z<|(DK v1.1 _ aW ca).one 0 Z (.cons (.hp Z)<|.cons (.pF Z) .nil) (au Z) (au Z) Z) ?_;refine oN (fa Uq Z) ?_;refine oV (sr [I e.Op,St a1.2,hS aaf 3 (0+1) 3 ((([]:List ZTE)++e.Kids).length)] ty9 Z Z Z Z) ?_;refine jA ?_;exact⟨(),trivial,qH Z (.cons (.row<|.cons (.fz<|qD Z)<|.cons (.fz<|qD Z) .nil)<|.cons (.row<|.cons (.fz<|qD Z)<|.cons (.fz<|qD Z)<|.cons (.fz<|qD Z) .nil) .nil)<|ai (.fz<|Fz.fpL (ver:=0) (s:=3) (ty:=68) (rows:=[[I e.Op,St a1.2,hS aaf 3 (0+1) 3 ((([]:List ZTE)++e.Kids).length)]]) Z Z Z<|.cons (qD Z)<|.cons (qD Z)<|.cons (Fz.own (g:=false) (ver:=0+1) (f:=ZTE.c) (l:=(([]:List ZTE)++e.Kids)) Z Z Z nofun ZTE.isF) .nil)<|ai (.hp<|nlb Z) aO⟩
 refine jI ?_;refine oN (ZT.ieq Z Z) ?_;refine oN (ZT.asg (Bo<|v1.2==(2:Int)) Z) ?_;refine jA ?_;refine jN Z h (λq2 h=>?_) λq2 h=>?_
 .obtain⟨a1,ca,h⟩:=ve h;obtain rfl:=osl h;refine T.drawX [0,1,2,3,4,5,6,7] (λi=>([(aaf,[]),(aaf,[2]),(aaf,[]),(aae,[0]),(aaf,[]),(aae,[3]),(aaf,[]),(aae,[2])]:List Xc).getD i (aaf,[])) (by kernel_rfl) (by kernel_rfl) (by kernel_rfl) ?_;refine xN Z Z (fa Uq Z) ?_;refine xR [2] Z Z Z (λG hG=>EvA.loadhp (hS aaf 3 (0+1) 3<|(([]:List ZTE)++e.Kids).length) YU Z (hG.a0 Z) Z Z Z Z) ?_;refine xN Z Z mv ?_;refine xA Z Z (EvA.call Z Z Z<|(zF v1.1 V aW ca).one 0 Z (.cons (.hp Z)<|.cons (.pF Z) .nil) (au Z) (au Z) Z) fB ?_;refine xN Z Z (ZT.res (ZT.mkF (c:=aa.c) ([a1.2]:List aa) [(aa.c a1.2)] Je Z Z Z qE aa.isF Z) (r':=eL ZTE.c ([a1.2.inn]:List ZTE)) λ_ _ hr=>CO aa.inn_c hr) ?_;refine xA Z Z (EvA.appF (l:=(([]:List ZTE)++e.Kids)) [a1.2.inn] Je (by kernel_rfl) Z Z Z (bH.fz (l:=[a1.2.inn]) Z ZTE.len)<|Zn (by simp;omega) Z) fB ?_;refine xN Z Z (fa Uq Z) ?_;refine xV Z Z (sr [I e.Op,St e.Name,hS aaf 3 (0+1+1) 3 (((([]:List ZTE)++e.Kids)++[a1.2.inn]).length)] YU Z Z Z Z) fB ?_;refine TX.nil ?_;exact⟨(),trivial,qH Z (.cons (.row<|.cons (.fz<|qD Z)<|.cons (.fz<|qD Z) .nil)<|.cons (.row<|.cons (.fz<|qD Z)<|.cons (.fz<|qD Z)<|.cons (.fz<|qD Z) .nil) .nil)<|ai (.fz<|Fz.fpL (ver:=0) (s:=3) (ty:=68) (rows:=[[I e.Op,St e.Name,hS aaf 3 (0+1+1) 3 (((([]:List ZTE)++e.Kids)++[a1.2.inn]).length)]]) Z Z Z<|.cons (qD Z)<|.cons (qD Z)<|.cons (Fz.own (g:=false) (ver:=0+1+1) (f:=ZTE.c) (l:=(([]:List ZTE)++e.Kids)++[a1.2.inn]) Z Z Z nofun ZTE.isF) .nil)<|ai (.hp<|nlb Z) aO⟩
 refine jI ?_;refine oN (ZT.ieq Z Z) ?_;refine oN (ZT.asg (Bo<|v1.2==(3:Int)) Z) ?_;refine jA ?_;refine jN Z h (λq3 h=>?_) λq3 h=>?_
 .obtain rfl:=osl h;refine jI ?_;refine oN as' ?_;refine jA ?_;refine jE ?_;refine jO (S:=Nat) (G:=Unit) (E:=Nat) (x:=12) (λi=>if i<12 then aag (.inl<|i+1) else aag (.inr i)) (λi _=>i<=12) (λi _=>[(6,I (i:Nat)),(5,.hp 2 0 3 0 0),(4,.hp 1 0 3 0 0)]) (λi _=>[aag ⟨aW,2,80,[(ae.c v1.1)]⟩,aag ⟨0,3,68,[[I 0,St ⟨#[]⟩,.nil]]⟩,aag ⟨0,3,68,[aa.c (SY e i)]⟩]) (s0:=0) () (JN (λi=>i) 12 (λi hi=>by simp[hi])<|by simp) (Nat.zero_le _)
   (qH rfl (.cons (.row<|.cons (.fz<|.of_isF 9 _ rfl)<|.cons (.fz<|.of_isF 9 _ rfl) .nil)<|.cons (.row<|.cons (.fz<|.of_isF 9 _ rfl)<|.cons (.fz<|.of_isF 9 _ rfl)<|.cons (.fz<|.of_isF 9 _ rfl) .nil)<|.cons (.row<|.cons (.fz<|.of_isF 9 _ rfl)<|.cons (.fz<|.of_isF 9 _ rfl)<|.cons (.fz<|Fz.own (g:=false) (ver:=0+1) (f:=ZTE.c) (l:=(([]:List ZTE)++e.Kids)) rfl rfl rfl nofun ZTE.isF) .nil) .nil)<|ai (.fz<|.of_isF 9 _ rfl)<|ai (.hp<|nlb rfl)<|ai (.hp<|nlb rfl) aO) λi _ z hz hle=>?_
  refine jH ?_;refine jI ?_;refine oN mv ?_;refine oN (ZT.ilt Z Z) ?_;refine jA ?_;refine T.cond Z (λqc=>?_) λqc=>?_
  .have hi:i<12:=by have:=of_decide_eq_true qc;omega
   rw[if_pos hi] at hz;obtain rfl:=osl hz;refine jG ?_;refine jH ?_;refine jE ?_;refine jC ?_;refine oA (lh (.agg<|aa.c<|SY e i) OD Z Z Z) ?_;refine oN (ZT.res (ZT.mkF (c:=aa.c) ([SY e i]:List aa) [(aa.c<|SY e i)] Je Z Z Z qE aa.isF Z) (r':=eL ZTE.c ([(SY e i).inn]:List ZTE)) λ_ _ hr=>CO aa.inn_c hr) ?_;refine oN (ZT.build [I (6:Int),St (⟨#[]⟩:BA),eL ZTE.c ([(SY e i).inn]:List ZTE)] underlying68 X8 Uq Z Z) ?_;refine oV (sr [I (6:Int),St (⟨#[]⟩:BA),eL ZTE.c ([(SY e i).inn]:List ZTE)] OD Z Z Z Z) ?_;refine jA ?_;refine jC ?_;refine oN mv ?_;refine oN (ZT.add Z Z<|IntWalk.i64_in _ ⟨by omega,by omega⟩) ?_;refine oN (ZT.asg (I (i+1:Nat)) Z) ?_;refine jA ?_;exact⟨i+1,(),Z,hi,kw Z Z⟩
  have hi : ¬ i<12:=by have:=of_decide_eq_false qc;omega
  rw[if_neg hi] at hz;obtain rfl:=osl hz;obtain rfl:i=12:=by omega
  refine jM ?_;refine⟨_,Z,λhe=>?_⟩;exact⟨(),trivial,qH Z (.cons (.row<|.cons (.fz<|qD Z)<|.cons (.fz<|qD Z) .nil)<|.cons (.row<|.cons (.fz<|qD Z)<|.cons (.fz<|qD Z)<|.cons (.fz<|qD Z) .nil) .nil)<|ai (.fz<|Fz.fpL (ver:=0) (s:=3) (ty:=68) (rows:=[aa.c (SY e 12)]) Z Z Z<|.cons (qD Z)<|.cons (qD Z)<|.cons (qD Z) .nil)<|ai (.hp<|nlb Z) aO⟩
 obtain rfl:=osl h;refine jG ?_;exact⟨(),trivial,qH Z (.cons (.row<|.cons (.fz<|qD Z)<|.cons (.fz<|qD Z) .nil)<|.cons (.row<|.cons (.fz<|qD Z)<|.cons (.fz<|qD Z)<|.cons (.fz<|qD Z) .nil) .nil)<|ai (.fz<|Fz.fpL (ver:=0) (s:=3) (ty:=68) (rows:=[[I e.Op,St e.Name,hS aaf 3 (0+1) 3 ((([]:List ZTE)++e.Kids).length)]]) Z Z Z<|.cons (qD Z)<|.cons (qD Z)<|.cons (Fz.own (g:=false) (ver:=0+1) (f:=ZTE.c) (l:=(([]:List ZTE)++e.Kids)) Z Z Z nofun ZTE.isF) .nil)<|ai (.hp<|nlb Z) aO⟩
theorem EP{q}(h:mQ=aag q):aF aaj 119 [] (eL cS q):=by
 refine aF.mkT func119 Z (by kernel_rfl) Z (by kernel_rfl) (e0:=ak []) ZQ<|jI ?_;refine go h λ_ h=>?_;refine oN (ZT.mkF (c:=cS) ([(⟨#[120,61,49,59,97,61,121,124,121,61,49,59,97,61,120]⟩:BA),(⟨#[120,61,49,59,102,101,110,99,101,59,97,61,121,124,121,61,49,59,102,101,110,99,101,59,97,61,120]⟩:BA),(⟨#[120,61,49,59,121,61,49,124,97,61,121,59,98,61,120]⟩:BA),(⟨#[120,61,49,59,121,61,49,124,97,61,121,59,102,101,110,99,101,59,98,61,120]⟩:BA),(⟨#[120,61,49,59,102,101,110,99,101,59,121,61,49,124,97,61,121,59,98,61,120]⟩:BA),(⟨#[97,61,120,59,121,61,49,124,97,61,121,59,120,61,49]⟩:BA),(⟨#[97,61,120,59,121,61,97,124,97,61,121,59,120,61,97]⟩:BA),(⟨#[120,61,49,124,120,61,50,124,97,61,120,59,98,61,120]⟩:BA),(⟨#[120,61,49,124,121,61,49,124,97,61,120,59,98,61,121,124,97,61,121,59,98,61,120]⟩:BA),(⟨#[120,61,49,124,97,61,120,59,121,61,49,124,97,61,121,59,98,61,120]⟩:BA),(⟨#[120,61,49,124,121,61,49,124,97,61,120,59,98,61,121]⟩:BA),(⟨#[97,61,120,58,49,124,97,61,120,58,50,124,120,61,51]⟩:BA),(⟨#[120,61,49,59,97,61,120,59,98,61,121,124,121,61,49,59,97,61,121,59,98,61,120]⟩:BA),(⟨#[120,61,50,59,121,61,49,124,121,61,50,59,120,61,49]⟩:BA),(⟨#[97,61,120,58,49,59,98,61,121,124,97,61,121,58,49,59,98,61,120]⟩:BA),(⟨#[120,61,49,59,120,61,50,124,97,61,120,59,98,61,120]⟩:BA),(⟨#[120,61,49,59,121,61,49,59,97,61,122,124,122,61,49,59,97,61,121,59,98,61,120]⟩:BA),(⟨#[97,61,120,58,49,124,98,61,120,58,49]⟩:BA),(⟨#[102,101,110,99,101]⟩:BA),(⟨#[]⟩:BA),(⟨#[120,61,49,59,97,61,121,124,121,61,49,59,102,101,110,99,101,59,97,61,120]⟩:BA)]:List BA) [[St (⟨#[120,61,49,59,97,61,121,124,121,61,49,59,97,61,120]⟩:BA)],[St (⟨#[120,61,49,59,102,101,110,99,101,59,97,61,121,124,121,61,49,59,102,101,110,99,101,59,97,61,120]⟩:BA)],[St (⟨#[120,61,49,59,121,61,49,124,97,61,121,59,98,61,120]⟩:BA)],[St (⟨#[120,61,49,59,121,61,49,124,97,61,121,59,102,101,110,99,101,59,98,61,120]⟩:BA)],[St (⟨#[120,61,49,59,102,101,110,99,101,59,121,61,49,124,97,61,121,59,98,61,120]⟩:BA)],[St (⟨#[97,61,120,59,121,61,49,124,97,61,121,59,120,61,49]⟩:BA)],[St (⟨#[97,61,120,59,121,61,97,124,97,61,121,59,120,61,97]⟩:BA)],[St (⟨#[120,61,49,124,120,61,50,124,97,61,120,59,98,61,120]⟩:BA)],[St (⟨#[120,61,49,124,121,61,49,124,97,61,120,59,98,61,121,124,97,61,121,59,98,61,120]⟩:BA)],[St (⟨#[120,61,49,124,97,61,120,59,121,61,49,124,97,61,121,59,98,61,120]⟩:BA)],[St (⟨#[120,61,49,124,121,61,49,124,97,61,120,59,98,61,121]⟩:BA)],[St (⟨#[97,61,120,58,49,124,97,61,120,58,50,124,120,61,51]⟩:BA)],[St (⟨#[120,61,49,59,97,61,120,59,98,61,121,124,121,61,49,59,97,61,121,59,98,61,120]⟩:BA)],[St (⟨#[120,61,50,59,121,61,49,124,121,61,50,59,120,61,49]⟩:BA)],[St (⟨#[97,61,120,58,49,59,98,61,121,124,97,61,121,58,49,59,98,61,120]⟩:BA)],[St (⟨#[120,61,49,59,120,61,50,124,97,61,120,59,98,61,120]⟩:BA)],[St (⟨#[120,61,49,59,121,61,49,59,97,61,122,124,122,61,49,59,97,61,121,59,98,61,120]⟩:BA)],[St (⟨#[97,61,120,58,49,124,98,61,120,58,49]⟩:BA)],[St (⟨#[102,101,110,99,101]⟩:BA)],[St (⟨#[]⟩:BA)],[St (⟨#[120,61,49,59,97,61,121,124,121,61,49,59,102,101,110,99,101,59,97,61,120]⟩:BA)]] Ur Z Z Z qE qE Z) ?_;exact gz h
instance Pq:Ct aaj (mQ ) 119 [] (eL cS):=⟨EP⟩
instance Sz(s:BA)(c:Int):Ct aaj (fH s c) 122 [St s,Y c] (eL cS):=ctp func122 λq h=>by
 refine go h λ_ h=>?_;refine oA (EvA.mkO (c:=cS) ([]:List BA) [] Ur Z Z Z qE Z Z)<|go h λ_ h=>?_;refine tJ h (λs1 gh=>[(5,hS aaf 0 gh 1 s1.length)]) (λs1 gh=>[bE aaf gh 1 9 (s1.map cS)]) (λs1 u19 h=>?_) λs1 h=>?_
 .exact az h
 refine go h λ_ h=>?_;refine kT [0,1] h 0 (λs5 gh k=>(7,I s5.2.1)::(6,I s5.2.2)::(5,hS aaf 0 gh 1 s5.1.length)::k) (λs5 gh=>[bE aaf gh 1 9 (s5.1.map cS)]) λs5 u7 ws5 h=>?_;refine gy h λq8 h=>?_;refine go h λ_ h=>?_;refine kJ [7,0,1] h (λs9 gh k=>(6,I s9.2)::(5,hS aaf 0 gh 1 s9.1.length)::k) (λs9 gh=>[bE aaf gh 1 9 (s9.1.map cS)]) (λs9 u17 h=>?_) λs9 h=>?_
 .exact az h
 refine go h λ_ h=>?_;refine gB [7,6,5,0,1] h 6 (λs10 k=>(25,Bo s10)::k) λs10 h=>?_;refine gy h λq13 h=>?_;refine gk h λ_ _ h=>?_
 cases h
 exact⟨u7+1,trivial,Z9⟩
instance Ps(s:BA)(at_:Int)(from_:Int)(most:Int):Ct aaj (cu s at_ from_ most) 184 [St s,I at_,Y from_,I most] I:=ctp func184 λq h=>by
 refine go h λ_ h=>?_;refine gs h λ_ h=>?_;refine qB [0,1,2,3] h 6 (λs1 k=>(19,Bo s1)::k) (λs1 q2 h js1=>?_) (λs1 q2 h js1=>?_) λs1 h=>?_
 .exact gj h js1
 .exact gj h js1
 refine go h λ_ h=>?_;refine qB [0,1,2] h 9 (λs4 k=>(29,Bo s4)::k) (λs4 q5 h js4=>?_) (λs4 q5 h js4=>?_) λs4 h=>?_
 .exact gj h js4
 .exact gj h js4
 refine gi h (λ_ q9 h=>?_) λ_ q9 h=>?_
 .exact az h
 exact az h
instance EQ(s:BA):Ct aaj (mR s) 123 [St s] (λq=>.agg<|ZW.c q):=ctp func123 λq h=>by
 refine gx h λq1 h=>?_;refine gC h λv2 h=>?_;refine gC h λv3 h=>?_;refine gs h λ_ h=>?_;refine qB [4,3,2,0] h 4 (λs4 k=>(18,Bo s4)::k) (λs4 q5 h js4=>?_) (λs4 q5 h js4=>?_) λs4 h=>?_
 .exact gj h js4
 .exact gj h js4
 exact az h
theorem ER(s:BA){q}(h:mR s=aag q):aF aaj 123 [St s] (.agg<|ZW.c q):=(EQ s).c h
instance Cr(p:List<|List ZW):Ct aaj (j5 p) 124 [eL (cL ZW.c) p] St:=ctp func124 λq h=>by
 refine go h λ_ h=>?_;refine qV [] h (λs1 k=>(3,St s1)::k) (λs1 h=>?_) λs1 h=>?_
 .exact az h
 refine go h λ_ h=>?_;refine qU [0] h (λs4 k=>(4,I s4.1)::(3,St s4.2)::k) λs4 ws4 h=>?_;refine gy h λq6 h=>?_;refine go h λ_ h=>?_;refine qV [4,0] h (λs7 k=>(3,St s7)::k) (λs7 h=>?_) λs7 h=>?_
 .exact az h
 refine go h λ_ h=>?_;refine qV [4,0] h (λs8 k=>(3,St s8)::k) (λs8 h=>?_) λs8 h=>?_
 .refine go h λ_ h=>?_;refine qU [4,0] h (λs13 k=>(5,I s13.1)::(3,St s13.2)::k) λs13 ws13 h=>?_;refine gs h λf h=>?_;obtain⟨g15,_⟩:=f;refine jN Z h (λq16 h=>?_) λq16 h=>?_
  .refine go h λ_ h=>?_;refine gs h λ_ h=>?_;refine qV [5,4,0] h (λs17 k=>(3,St s17)::k) (λs17 h=>?_) λs17 h=>?_
   .refine gC h λv21 h=>?_;exact lE h Z9
   exact az h
  exact az h
 exact az h
theorem Cs(p:List<|List ZW){q}(h:j5 p=aag q):aF aaj 124 [eL (cL ZW.c) p] (St q):=(Cr p).c h
instance KJ(text:BA):Ct aaj (dP text) 59 [St text] (λq=>.tup [eL (cL ZW.c) q.1,Bo q.2]):=ctp func59 λq h=>by
 refine go h λ_ h=>?_;refine oA (EvA.mkO (c:=(cL ZW.c)) ([]:List<|List ZW) [] Ha Z Z Z qE Z Z)<|gC h λv1 h=>?_;refine kJ [0] h (λs2 gh k=>(4,hS aaf 0 gh 1 s2.length)::k) (λs2 gh=>[bE aaf gh 1 114 (s2.map<|cL ZW.c)]) (λs2 u35 h=>?_) λs2 h=>?_
 .refine gs h λ_ h=>?_;refine jB h λv36 cv36 h=>oA (EvA.callT Z Z (lM s2 cv36) (.cons (Fz.own (g:=false) (ver:=u35) (l:=s2) Z Z Z nofun qE) .nil) Z)<|go h λ_ h=>?_;refine qB [4] h 5 (λs37 k=>(66,Bo s37)::k) (λs37 q38 h js37=>?_) (λs37 q38 h js37=>?_) λs37 h=>?_
  .exact gj h js37
  .refine go h λ_ h=>?_;refine jB h λv39 cv39 h=>gA Z q38 (EvA.callT Z Z (Cs s2 cv39) (.cons (Fz.own (g:=false) (ver:=u35) (l:=s2) Z Z Z nofun qE) .nil) Z) ?_;exact gj h js37
  refine gy h λq40 h=>?_;refine go h λ_ h=>?_;refine oN (ZT.mkF (c:=(cL ZW.c)) ([]:List<|List ZW) [] Ha Z Z Z qE qE Z)<|go h λ_ h=>?_;obtain rfl:=ZV h
  repeat (first|refine pG ?_|refine pI ?_)
  exact jQ (vs:=[eL (cL ZW.c) ([]:List<|List ZW),Bo aaf]) (.cons (.tmp Z)<|.cons (.tmp Z) .nil)<|.tupL<|.cons (qD Z)<|.cons (qD Z) .nil
 refine go h λ_ h=>?_;refine kT [5,0] h 0 (λs6 gh k=>(6,I s6.2)::(4,hS aaf 0 gh 1 s6.1.length)::k) (λs6 gh=>[bE aaf gh 1 114 (s6.1.map<|cL ZW.c)]) λs6 u8 ws6 h=>?_;refine gs h λ_ h=>?_;refine qB [6,5,4,0] h 3 (λs9 k=>(20,Bo s9)::k) (λs9 q10 h js9=>?_) (λs9 q10 h js9=>?_) λs9 h=>?_
 .exact gj h js9
 .exact gj h js9
 refine gy h λq11 h=>?_;refine go h λ_ h=>?_;refine kJ [6,5,0] h (λs12 gh k=>(4,hS aaf 0 gh 1 s12.length)::k) (λs12 gh=>[bE aaf gh 1 114 (s12.map<|cL ZW.c)]) (λs12 u33 h=>?_) λs12 h=>?_
 .refine go h λ_ h=>?_;obtain rfl:=ZV h;exact⟨(s12,(s6.2+V)),u33,Z,trivial,Z9⟩
 refine go h λ_ h=>?_;refine oA (EvA.mkO (c:=ZW.c) ([]:List ZW) [] BS Z Z Z qE Z Z)<|go h λf h=>?_;obtain⟨g13,_⟩:=f;refine gC h λv14 h=>?_;refine kJ [6,5,4,0] h (λs15 gh k=>(7,hS aaf 1 gh 4 s15.length)::k) (λs15 gh=>[bE aaf u8 1 114 (s6.1.map<|cL ZW.c),bE aaf gh 4 113 (s15.map ZW.c)]) (λs15 u31 h=>?_) λs15 h=>?_
 .refine go h λ_ h=>?_;refine oA (EvA.mkR [[hS aaf 1 u31 4 s15.length]] Ha Z Z Z Z)<|jL h λg32 h=>oA (EvA.appR (g:=false) (rows:=s6.1.map<|cL ZW.c) (rows':=s6.1.map (cL ZW.c)++[[hS aaf 1 u31 4 s15.length]]) (n':=s6.1.length+1) Ha (by kernel_rfl) Z Z (by simp) nofun (bH.raw (rows:=[[hS aaf 1 u31 4 s15.length]]) Z Z Z) g32 Z Z) ?_;refine go h λ_ h=>?_;obtain rfl:=ZV h;exact⟨u8+1,trivial,qH Z (.cons (.snoc qE<|.cons (.cons (.fz<|Fz.own (g:=false) (ver:=u31) (l:=s15) Z Z Z nofun ZW.isF) .nil) .nil) .nil)<|ai (.eqv (congrArg (hS aaf 0 (u8+1) 1) (by simp:(s6.1.length+1)=(s6.1++[s15]).length))<|.hS (g:=false) (b:=0) (ver:=u8+1) (s:=1) (n:=(s6.1++[s15]).length) Z)<|ai (.fz<|qD Z)<|ai (.fz<|qD Z)<|ai (.fz<|qD Z) aO⟩
 refine go h λ_ h=>?_;refine kT [8,6,5,4,0] h 0 (λs19 gh k=>(9,I s19.2)::(7,hS aaf 1 gh 4 s19.1.length)::k) (λs19 gh=>[bE aaf u8 1 114 (s6.1.map<|cL ZW.c),bE aaf gh 4 113 (s19.1.map ZW.c)]) λs19 u21 ws19 h=>?_;refine gs h λ_ h=>?_;refine qB [9,8,7,6,5,4,0] h 3 (λs22 k=>(36,Bo s22)::k) (λs22 q23 h js22=>?_) (λs22 q23 h js22=>?_) λs22 h=>?_
 .exact gj h js22
 .exact gj h js22
 refine go h λ_ h=>?_;refine qB [9,8,7,6,5,4,0] h 6 (λs24 k=>(43,Bo s24)::k) (λs24 q25 h js24=>?_) (λs24 q25 h js24=>?_) λs24 h=>?_
 .exact gj h js24
 .exact gj h js24
 refine gy h λq26 h=>?_;refine go h λ_ h=>?_;refine gs h λ_ h=>?_;refine oC h (λ_=>ER _) Z Z Z Z λv28 _ h=>oN (ZT.mkF (c:=ZW.c) ([v28]:List ZW) [(ZW.c v28)] BS Z Z Z qE ZW.isF Z)<|go h λ_ h=>?_;obtain rfl:=ZV h;exact⟨((s19.1++[v28]),(s19.2+V)),u21+1,Z,trivial,Z9⟩
theorem yz(r_:ae)(aW:Nat){q}(h:iD r_=aag q):eZ aaj 120 [.hp 0 aW 2 0 0] [aag ⟨aW,2,80,[(ae.c r_)]⟩] (.agg<|ZW.c q.2) [aag ⟨aW,2,80,[(ae.c q.1)]⟩]:=by
 refine aM func120 Z (by kernel_rfl) Z<|go h λ_ h=>?_;refine jB h λv1 cv1 h=>oA (EvA.call Z Z Z<|(ax (⟨r_.b,r_.p⟩:ae) (2:Int) aW cv1).one 0 Z (.cons (.hp Z)<|.cons (.pF Z) .nil) (au Z) (au Z) Z)<|go h λ_ h=>?_;refine gs h λ_ h=>?_;refine jB h λv2 cv2 h=>oA (EvA.call Z Z Z<|(ax (⟨v1.1.b,v1.1.p⟩:ae) (7:Int) aW cv2).one 0 Z (.cons (.hp Z)<|.cons (.pF Z) .nil) (au Z) (au Z) Z) ?_;refine gi h (λ_ q3 h=>?_) λ_ q3 h=>?_
 .refine go h λ_ h=>?_;obtain rfl:=ZV h
  repeat (first|refine pG ?_|refine pI ?_)
  exact⟨ak [(2,.fp (ZW.c (⟨(4:Int),U,U,U⟩:ZW)) 0)],[aag ⟨aW,2,80,[(ae.c (⟨v2.1.b,v2.1.p⟩:ae))]⟩],Z9,jQ (vs:=[.agg (ZW.c (⟨(4:Int),U,U,U⟩:ZW))]) (.cons (.cellF (.agg<|ZW.c (⟨(4:Int),U,U,U⟩:ZW)) xw Z Z) .nil) ⟨Z,Z⟩⟩
 refine gi h (λ_ q4 h=>?_) λ_ q4 h=>?_
 .refine go h λ_ h=>?_;refine jB h λv5 cv5 h=>oA (EvA.call Z Z Z<|(ax (⟨v2.1.b,v2.1.p⟩:ae) (2:Int) aW cv5).one 0 Z (.cons (.hp Z)<|.cons (.pF Z) .nil) (au Z) (au Z) Z)<|go h λ_ h=>?_;obtain rfl:=ZV h
  repeat (first|refine pG ?_|refine pI ?_)
  exact⟨ak [(2,.fp (ZW.c (⟨(3:Int),v1.2,v5.2,U⟩:ZW)) 0)],[aag ⟨aW,2,80,[(ae.c (⟨v5.1.b,v5.1.p⟩:ae))]⟩],Z9,jQ (vs:=[.agg (ZW.c (⟨(3:Int),v1.2,v5.2,U⟩:ZW))]) (.cons (.cellF (.agg<|ZW.c (⟨(3:Int),v1.2,v5.2,U⟩:ZW)) xw Z Z) .nil) ⟨Z,Z⟩⟩
 refine gi h (λ_ q6 h=>?_) λ_ q6 h=>?_
 .refine go h λ_ h=>?_;refine jB h λv7 cv7 h=>oA (EvA.call Z Z Z<|(ax (⟨v2.1.b,v2.1.p⟩:ae) (2:Int) aW cv7).one 0 Z (.cons (.hp Z)<|.cons (.pF Z) .nil) (au Z) (au Z) Z)<|go h λ_ h=>?_;refine jB h λv8 cv8 h=>oA (EvA.call Z Z Z<|(ax (⟨v7.1.b,v7.1.p⟩:ae) (3:Int) aW cv8).one 0 Z (.cons (.hp Z)<|.cons (.pF Z) .nil) (au Z) (au Z) Z)<|go h λ_ h=>?_;obtain rfl:=ZV h
  repeat (first|refine pG ?_|refine pI ?_)
  exact⟨ak [(2,.fp (ZW.c (⟨(5:Int),v1.2,v7.2,(V+v8.2)⟩:ZW)) 0)],[aag ⟨aW,2,80,[(ae.c (⟨v8.1.b,v8.1.p⟩:ae))]⟩],Z9,jQ (vs:=[.agg (ZW.c (⟨(5:Int),v1.2,v7.2,(V+v8.2)⟩:ZW))]) (.cons (.cellF (.agg<|ZW.c (⟨(5:Int),v1.2,v7.2,(V+v8.2)⟩:ZW)) xw Z Z) .nil) ⟨Z,Z⟩⟩
 refine qV [3,2,0] h (λs10 k=>(26,Bo s10)::k) (λs10 h=>?_) λs10 h=>?_
 .refine jN Z h (λq12 h=>?_) λq12 h=>?_
  .refine go h λ_ h=>?_;refine jB h λv13 cv13 h=>oA (EvA.call Z Z Z<|(ax (⟨v2.1.b,v2.1.p⟩:ae) (3:Int) aW cv13).one 0 Z (.cons (.hp Z)<|.cons (.pF Z) .nil) (au Z) (au Z) Z)<|go h λ_ h=>?_;obtain rfl:=ZV h
   repeat (first|refine pG ?_|refine pI ?_)
   exact⟨ak [(2,.fp (ZW.c (⟨(2:Int),v1.2,U,(V+v13.2)⟩:ZW)) 0)],[aag ⟨aW,2,80,[(ae.c (⟨v13.1.b,v13.1.p⟩:ae))]⟩],Z9,jQ (vs:=[.agg (ZW.c (⟨(2:Int),v1.2,U,(V+v13.2)⟩:ZW))]) (.cons (.cellF (.agg<|ZW.c (⟨(2:Int),v1.2,U,(V+v13.2)⟩:ZW)) xw Z Z) .nil) ⟨Z,Z⟩⟩
  refine go h λ_ h=>?_;refine jB h λv15 cv15 h=>oA (EvA.call Z Z Z<|(ax (⟨v2.1.b,v2.1.p⟩:ae) (2:Int) aW cv15).one 0 Z (.cons (.hp Z)<|.cons (.pF Z) .nil) (au Z) (au Z) Z)<|go h λ_ h=>?_;obtain rfl:=ZV h
  repeat (first|refine pG ?_|refine pI ?_)
  exact⟨ak [(2,.fp (ZW.c (⟨V,v1.2,v15.2,U⟩:ZW)) 0)],[aag ⟨aW,2,80,[(ae.c (⟨v15.1.b,v15.1.p⟩:ae))]⟩],Z9,jQ (vs:=[.agg (ZW.c (⟨V,v1.2,v15.2,U⟩:ZW))]) (.cons (.cellF (.agg<|ZW.c (⟨V,v1.2,v15.2,U⟩:ZW)) xw Z Z) .nil) ⟨Z,Z⟩⟩
 exact az h
theorem GD(r_:ae)(aW:Nat){q}(h:tC r_=aag q):eZ aaj 57 [.hp 0 aW 2 0 0] [aag ⟨aW,2,80,[(ae.c r_)]⟩] (eL (cL ZW.c) q.2) [aag ⟨aW,2,80,[(ae.c q.1)]⟩]:=by
 refine aM func57 Z (by kernel_rfl) Z<|gC h λv1 h=>?_;obtain⟨Ks2,es2,ws2,h,ks2⟩:=II h;refine T.join (S:=(LI)×Int) (G:=Unit) (λs2=>Ks2 s2=aag q) (λs2 gh=>True) (λs2 gh=>[(0,.hp 0 aW 2 0 0)]) (λs2 gh=>[aag ⟨aW,2,80,[[eL cY s2.1,I s2.2]]⟩]) (λs2 gh h hg=>?_) ?_
 .clear ks2;subst es2;refine go h λ_ h=>?_;refine oA (EvA.mkO (c:=(cL ZW.c)) ([]:List<|List ZW) [] Ha Z Z Z qE Z Z)<|go h λ_ h=>?_;refine kJ [0] h (λs9 gh k=>(6,hS aaf 1 gh 1 s9.2.2.length)::k) (λs9 gh=>[aag ⟨aW,2,80,[[eL cY s9.1,I s9.2.1]]⟩,bE aaf gh 1 114 (s9.2.2.map<|cL ZW.c)]) (λs9 u35 h=>?_) λs9 h=>?_
  .refine gs h λ_ h=>?_;refine jB h λv36 cv36 h=>oA (EvA.callT Z Z (lM s9.2.2 cv36) (.cons (Fz.own (g:=false) (ver:=u35) (l:=s9.2.2) Z Z Z nofun qE) .nil) Z) ?_;refine gi h (λ_ q37 h=>?_) λ_ q37 h=>?_
   .refine go h λ_ h=>?_;obtain rfl:=ZV h
    repeat (first|refine pG ?_|refine pI ?_)
    exact⟨ak [(2,eL (cL ZW.c) s9.2.2)],[aag ⟨aW,2,80,[(ae.c (⟨s9.1,s9.2.1⟩:ae))]⟩],qH Z (.cons (.row<|.cons (.fz<|qD Z)<|.cons (.fz<|qD Z) .nil) .nil)<|ai (.fz<|Fz.own (g:=false) (ver:=u35) (l:=s9.2.2) Z Z Z nofun qE) aO,jQ (vs:=[eL (cL ZW.c) s9.2.2]) (.cons (.tmp Z) .nil) ⟨Z,Z⟩⟩
   refine go h λ_ h=>?_;refine jB h λv38 cv38 h=>oA (EvA.call Z Z Z<|(yz (⟨s9.1,s9.2.1⟩:ae) aW cv38).one 0 Z (.cons (.hp Z) .nil) (au Z) (au Z) Z)<|oN (ZT.mkF (c:=ZW.c) ([v38.2]:List ZW) [(ZW.c v38.2)] BS Z Z Z qE ZW.isF Z) ?_;refine gk h λ_ _ h=>?_;obtain rfl:=ZV h
   repeat (first|refine pG ?_|refine pI ?_)
   exact⟨ak [(2,eL (cL ZW.c) ([([v38.2]:List ZW)]:List<|List ZW))],[aag ⟨aW,2,80,[(ae.c (⟨v38.1.b,v38.1.p⟩:ae))]⟩],qH Z (.cons (.row<|.cons (.fz<|qD Z)<|.cons (.fz<|qD Z) .nil) .nil)<|ai (.fz<|qD Z) aO,jQ (vs:=[eL (cL ZW.c) ([([v38.2]:List ZW)]:List<|List ZW)]) (.cons (.tmp Z) .nil) ⟨Z,Z⟩⟩
  refine go h λ_ h=>?_;refine oN (ZT.mkF (c:=cI) ([(2:Int),(3:Int),V]:LI) [[I (2:Int)],[I (3:Int)],[I V]] iq Z Z Z qE qE Z)<|jB h λv10 cv10 h=>oA (EvA.call Z Z Z<|(cW (⟨s2.1,s2.2⟩:ae) ([(2:Int),(3:Int),V]:LI) aW cv10).one 0 Z (.cons (.hp Z)<|.cons (.pF Z) .nil) (au Z) (au Z) Z) ?_;refine go h λ_ h=>?_;refine kT [0] h 0 (λs14 gh k=>(7,I s14.2.2.2)::(6,hS aaf 1 gh 1 s14.2.2.1.length)::k) (λs14 gh=>[aag ⟨aW,2,80,[[eL cY s14.1,I s14.2.1]]⟩,bE aaf gh 1 114 (s14.2.2.1.map<|cL ZW.c)]) λs14 u16 ws14 h=>?_;refine gy h λq17 h=>?_;refine go h λ_ h=>?_;refine kJ [7,0] h (λs18 gh k=>(6,hS aaf 1 gh 1 s18.2.2.length)::k) (λs18 gh=>[aag ⟨aW,2,80,[[eL cY s18.1,I s18.2.1]]⟩,bE aaf gh 1 114 (s18.2.2.map<|cL ZW.c)]) (λs18 u33 h=>?_) λs18 h=>?_
  .exact az h
  refine go h λ_ h=>?_;refine oA (EvA.mkO (c:=ZW.c) ([]:List ZW) [] BS Z Z Z qE Z Z)<|go h λ_ h=>?_;refine kJ [7,6,0] h (λs19 gh k=>(8,hS aaf 2 gh 4 s19.2.2.length)::k) (λs19 gh=>[aag ⟨aW,2,80,[[eL cY s19.1,I s19.2.1]]⟩,bE aaf u16 1 114 (s14.2.2.1.map<|cL ZW.c),bE aaf gh 4 113 (s19.2.2.map ZW.c)]) (λs19 u31 h=>?_) λs19 h=>?_
  .refine go h λ_ h=>?_;refine oA (EvA.mkR [[hS aaf 2 u31 4 s19.2.2.length]] Ha Z Z Z Z)<|jL h λg32 h=>oA (EvA.appR (g:=false) (rows:=s14.2.2.1.map<|cL ZW.c) (rows':=s14.2.2.1.map (cL ZW.c)++[[hS aaf 2 u31 4 s19.2.2.length]]) (n':=s14.2.2.1.length+1) Ha (by kernel_rfl) Z Z (by simp) nofun (bH.raw (rows:=[[hS aaf 2 u31 4 s19.2.2.length]]) Z Z Z) g32 Z Z) ?_;refine go h λ_ h=>?_;obtain rfl:=ZV h;exact⟨u16+1,trivial,qH Z (.cons (.row<|.cons (.fz<|qD Z)<|.cons (.fz<|qD Z) .nil)<|.cons (.snoc qE<|.cons (.cons (.fz<|Fz.own (g:=false) (ver:=u31) (l:=s19.2.2) Z Z Z nofun ZW.isF) .nil) .nil) .nil)<|ai (.eqv (congrArg (hS aaf 1 (u16+1) 1) (by simp:(s14.2.2.1.length+1)=(s14.2.2.1++[s19.2.2]).length))<|.hS (g:=false) (b:=1) (ver:=u16+1) (s:=1) (n:=(s14.2.2.1++[s19.2.2]).length) Z)<|ai (.fz<|qD Z)<|ai (.hp<|nlb Z) aO⟩
  refine go h λ_ h=>?_;refine oN (ZT.mkF (c:=cI) ([(2:Int),V,(3:Int),(2:Int),U]:LI) [[I (2:Int)],[I V],[I (3:Int)],[I (2:Int)],[I U]] iq Z Z Z qE qE Z)<|jB h λv20 cv20 h=>oA (EvA.call Z Z Z<|(cW (⟨s14.1,s14.2.1⟩:ae) ([(2:Int),V,(3:Int),(2:Int),U]:LI) aW cv20).one 0 Z (.cons (.hp Z)<|.cons (.pF Z) .nil) (au Z) (au Z) Z) ?_;refine go h λ_ h=>?_;refine kT [7,6,0] h 0 (λs24 gh k=>(9,I s24.2.2.2)::(8,hS aaf 2 gh 4 s24.2.2.1.length)::k) (λs24 gh=>[aag ⟨aW,2,80,[[eL cY s24.1,I s24.2.1]]⟩,bE aaf u16 1 114 (s14.2.2.1.map<|cL ZW.c),bE aaf gh 4 113 (s24.2.2.1.map ZW.c)]) λs24 u26 ws24 h=>?_;refine gy h λq27 h=>?_;refine go h λ_ h=>?_;refine gs h λ_ h=>?_;refine jB h λv28 cv28 h=>oA (EvA.call Z Z Z<|(yz (⟨s24.1,s24.2.1⟩:ae) aW cv28).one 0 Z (.cons (.hp Z) .nil) (au Z) (au Z) Z)<|oN (ZT.mkF (c:=ZW.c) ([v28.2]:List ZW) [(ZW.c v28.2)] BS Z Z Z qE ZW.isF Z) ?_;refine go h λ_ h=>?_;obtain rfl:=ZV h;exact⟨(v28.1.b,v28.1.p,(s24.2.2.1++[v28.2]),(s24.2.2.2-V)),u26+1,Z,trivial,Z9⟩
 refine go h λ_ h=>?_;refine jB h λv3 cv3 h=>oA (EvA.call Z Z Z<|(ax (⟨r_.b,r_.p⟩:ae) (3:Int) aW cv3).one 0 Z (.cons (.hp Z)<|.cons (.pF Z) .nil) (au Z) (au Z) Z)<|gy h λq4 h=>?_;refine go h λ_ h=>?_;refine jB h λv5 cv5 h=>oA (EvA.call Z Z Z<|(ax (⟨v3.1.b,v3.1.p⟩:ae) (v1.length:Int) aW cv5).one 0 Z (.cons (.hp Z)<|.cons (.pF Z) .nil) (au Z) (au Z) Z)<|gC h λv7 h=>?_;refine gy h λq8 h=>?_;refine go h λ_ h=>?_;obtain rfl:=ZV h;replace h:=congrArg aag (show _=_ from ks2);obtain rfl:=ZV h
 repeat (first|refine pG ?_|refine pI ?_)
 exact⟨ak [(2,eL (cL ZW.c) v7.1)],[aag ⟨aW,2,80,[(ae.c (⟨v5.1.b,v5.1.p⟩:ae))]⟩],Z9,jQ (vs:=[eL (cL ZW.c) v7.1]) (.cons (.tmp Z) .nil) ⟨Z,Z⟩⟩
theorem ES(r_:ae)(aW:Nat){q}(h:ry r_=aag q):eZ aaj 23 [.hp 0 aW 2 0 0] [aag ⟨aW,2,80,[(ae.c r_)]⟩] (eL (cL ZW.c) q.2) [aag ⟨aW,2,80,[(ae.c q.1)]⟩]:=by
 refine aM func23 Z (by kernel_rfl) Z<|go h λ_ h=>?_;refine jB h λv1 cv1 h=>oA (EvA.call Z Z Z<|(GD (⟨r_.b,r_.p⟩:ae) aW cv1).one 0 Z (.cons (.hp Z) .nil) (au Z) (au Z) Z)<|go h λ_ h=>?_;refine gC h λv2 h=>?_;refine gi h (λ_ q3 h=>?_) λ_ q3 h=>?_
 .refine go h λ_ h=>?_;obtain rfl:=ZV h
  repeat (first|refine pG ?_|refine pI ?_)
  exact⟨ak [(2,eL (cL ZW.c) v1.2)],[aag ⟨aW,2,80,[(ae.c (⟨v1.1.b,v1.1.p⟩:ae))]⟩],Z9,jQ (vs:=[eL (cL ZW.c) v1.2]) (.cons (.tmp Z) .nil) ⟨Z,Z⟩⟩
 refine gC h λv4 h=>?_;obtain rfl:=ZV h
 repeat (first|refine pG ?_|refine pI ?_)
 exact⟨ak [(2,eL (cL ZW.c) v4.1)],[aag ⟨aW,2,80,[(ae.c (⟨v1.1.b,v1.1.p⟩:ae))]⟩],Z9,jQ (vs:=[eL (cL ZW.c) v4.1]) (.cons (.tmp Z) .nil) ⟨Z,Z⟩⟩
end
end Go.Proofs.YtoagamanbofngaaGreatDoor
