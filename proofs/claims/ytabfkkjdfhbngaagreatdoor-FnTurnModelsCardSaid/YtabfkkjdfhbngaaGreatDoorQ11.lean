/- Texts joined. No conditions. -/
import Derived.OpenShut
import Derived.Carry
import Derived.ChangeOld
import Derived.RowKit
import Derived.LaidMore
import Derived.LaidSub
import Derived.MakeChecks
import Derived.Test.YtabfkkjdfhbngaaGreatDoorQ10
namespace Go.Proofs.YtabfkkjdfhbngaaGreatDoor
noncomputable section
open _root_.Inhabited renaming default -> Nj
open _root_.Bool renaming true -> Nk
open _root_.Bool renaming false -> Nl
open _root_.Option renaming some -> Nn
open _root_.Option renaming none -> Np
open _root_.Go.Proofs.Tryz
open _root_.Go.Proofs.Tryz renaming prog -> Nr
open _root_.List renaming replicate -> SN, eq_nil_of_length_eq_zero -> SR
set_option maxHeartbeats 4000000
open Go.RowKit
set_option maxRecDepth 100000
attribute [local irreducible] T TO TF TG TX M0 EvA
theorem ym:∀ (nf:Nat) (n:Int) {q} (h:iZ nf n=Nn q),aD Nr 108 [I n] (St q):=by
 intro nf
 induction nf with
 | zero=>intros;rename_i h;cases h
 | succ nf ih=>
  intro n q h;replace h:lY (iZ nf) n=Nn q:=h;refine pM func108 Z (by kernel_rfl) Z<|jI<|oN as'<|jA<|jH<|jI<|oN mv<|oN (M0.ilt Z Z)<|jA ?_;refine jN Z h (λq1 h=>?_) λq1 h=>?_
  ·refine jI<|oN as'<|jA<|jK ?_
   cases h
   exact HQ Z Z Z
  refine jG<|jH<|jI<|oN mv<|oN (M0.ilt Z Z)<|jA ?_;refine jN Z h (λq2 h=>?_) λq2 h=>?_
  ·refine jI<|oN mv<|jW h λg3 h=>oN (M0.neg Z g3)<|oC h (λ_=>ih _) Z Z Z Z λv4 _ h=>jD h λg5 h=>oN (M0.cat Z Z g5)<|oN as'<|jA<|jK ?_
   cases h
   exact HQ Z Z Z
  refine jG<|jI<|oN as'<|jA ?_;refine T.jU h (λs6=>[(3,St s6.1),(0,I s6.2)]) (λs6=>[]) (λs6 h=>?_) λs6 h=>?_
  ·refine jI<|oN mv<|jW h λg17 h=>oN (M0.add Z Z g17)<|jW h λg18 h=>oN (M0.iconv ty3.und Tryz.underlying5 Z g18)<|oN (M0.mkF (c:=cY) ([((48:Int)+s6.2)]:LI) [[Y ((48:Int)+s6.2)]] Ff Z Z Z qD qD Z)<|oA (EvA.b2s (l:=([((48:Int)+s6.2)]:LI)) Tryz.underlying22 Tryz.underlying5 Tryz.underlying9 (FN Z)<|dN.fz (l:=([((48:Int)+s6.2)]:LI)) Z qD)<|oN mv<|jD h λg19 h=>oN (M0.cat Z Z g19)<|oN as'<|jA<|jK ?_
   cases h
   exact HQ Z Z Z
  refine jE ?_;refine T.lU h (λs9=>[(3,St s9.1),(0,I s9.2)]) (λs9=>[]) (kw Z Z) λs9 ws9 h=>?_;refine jH<|jI<|oN mv<|oN (M0.igt Z Z)<|jA ?_;refine jN Z h (λq11 h=>?_) λq11 h=>?_
  ·refine jG<|jE<|jI<|oN mv<|jD h λg12 h=>oN (M0.rem Z Z g12)<|jW h λg13 h=>oN (M0.add Z Z g13)<|jW h λg14 h=>oN (M0.iconv ty3.und Tryz.underlying5 Z g14)<|oN (M0.mkF (c:=cY) ([((48:Int)+(s9.2.tmod (10:Int)))]:LI) [[Y ((48:Int)+(s9.2.tmod (10:Int)))]] Ff Z Z Z qD qD Z)<|oA (EvA.b2s (l:=([((48:Int)+(s9.2.tmod (10:Int)))]:LI)) Tryz.underlying22 Tryz.underlying5 Tryz.underlying9 (FN Z)<|dN.fz (l:=([((48:Int)+(s9.2.tmod (10:Int)))]:LI)) Z qD)<|oN mv<|jD h λg15 h=>oN (M0.cat Z Z g15)<|oN as' ?_;refine jA<|jC<|oN mv<|jW h λg16 h=>oN (M0.quo Z Z g12 g16)<|oN as'<|jA ?_;exact lE h<|kw Z Z
  refine jM<|lX h λh=>?_
  cases h
  exact ⟨(),trivial,kw Z Z⟩
theorem ui (n:Int) {q} (h:oM n=Nn q):aD Nr 108 [I n] (St q):=by
 obtain ⟨nf,h⟩:=tz h;exact ym nf n h
theorem rH (from_:Int) (n:Int) {q} (h:i9 from_ n=Nn q):aD Nr 245 [Y from_,I n] (St q):=by
 refine pM func245 Z (by kernel_rfl) Z<|gk h λ_ _ h=>?_;refine oA (EvA.b2s (l:=([(from_+n)]:LI)) Tryz.underlying22 Tryz.underlying5 Tryz.underlying9 (FN Z)<|dN.fz (l:=([(from_+n)]:LI)) Z qD) ?_;exact gz h
theorem zE (x:M5) {q} (h:oO x=Nn q):aD Nr 246 [.agg (M5.c x)] (St q):=by
 refine pM func246 Z (by kernel_rfl) Z<|go h λ_ h=>?_;refine eF Z Z Z<|go h λ_ h=>?_;refine oC h (λ_=>rH _ _) Z Z Z Z λv1 _ h=>(go h λ_ h=>?_);refine oC h (λ_=>rH _ _) Z Z Z Z λv2 _ h=>(go h λ_ h=>?_);refine Ng h (λ_ q3 h=>?_) λ_ q3 h=>?_
 ·exact gz h
 refine gi h (λ_ q6 h=>?_) λ_ q6 h=>?_
 ·refine go h λ_ h=>?_;refine oC h (λ_=>ui _) Z Z Z Z λv8 _ h=>?_;exact gz h
 refine gi h (λ_ q10 h=>?_) λ_ q10 h=>?_
 ·exact gz h
 refine gi h (λ_ q13 h=>?_) λ_ q13 h=>?_
 ·refine go h λ_ h=>?_;refine oC h (λ_=>ui _) Z Z Z Z λv17 _ h=>?_;exact gz h
 exact gz h
theorem qi (k_:Int) (a1:Int) {q} (h:gu k_ a1=Nn q):aD Nr 119 [I k_,.fp (cI a1) 0] (Bo q):=by
 refine pM func119 Z (by kernel_rfl) Z ?_;exact gz h
theorem gV (s:LI) (f0:Int) {q} (h:bA s f0=Nn q):aD Nr 190 [eL cI s,.fn (.func 119) [.fp (cI f0) 0]] (I q):=by
 refine pM func190 Z (by kernel_rfl) Z<|go h λ_ h=>?_;obtain ⟨Ks1,es1,ws1,h,ks1⟩:=Bq h;refine T.join (S:=Unit) (G:=Unit) (λs1=>Ks1 s1=Nn q) (λs1 gh=>True) (λs1 gh=>[]) (λs1 gh=>[]) (λs1 gh h hg=>?_) ?_
 ·clear ks1;subst es1;exact gz h
 refine go h λ_ h=>?_;refine tU h (λs4=>[(8,I s4),(7,I (s.length:Int)),(0,eL cI s),(1,.fn (.func 119) [.fp (cI f0) 0])]) (λs4=>[]) λs4 ws4 h=>?_;refine go h λ_ h=>?_;refine jH ?_;refine jN Z h (λq6 h=>?_) λq6 h=>?_
 ·refine go h λ_ h=>?_;refine gs h λ_ h=>?_;refine oC h (λ_=>qi _ _) Z Z Z Z λv8 _ h=>?_;refine gi h (λ_ q9 h=>?_) λ_ q9 h=>?_
  ·refine go h λ_ h=>?_;refine lX h λh=>?_;obtain rfl:=M4 h;replace h:=congrArg Nn (show _=_ from ks1);exact gz h
  refine go h λ_ h=>?_;exact lE h Nh
 refine jM<|lX h λh=>?_
 cases h
 exact ⟨(),(),ks1,trivial,Nh⟩
theorem fT (s:LI) (zI:Int) (gw:Bool) (aI:Nat) (hgw:gw=Nk->s=[]) {q} (h:aT s zI=Nn q):bP Nr 118 [hS gw 0 aI 1 s.length,.fn (.func 119) [.fp (cI zI) 0]] [bE gw aI 1 3 (s.map cI)] (CP 1 3 (λx=>x) q.length (q.map cI) 0 []):=by
 refine bP.mkS func118 Z (by kernel_rfl) Z (by kernel_rfl) (e0:=ak [(0,hS gw 0 aI 1 s.length),(1,.fn (.func 119) [.fp (cI zI) 0])]) (MZ Z<|MZ Z wkN)<|go h λ_ h=>?_;refine jB h λv1 cv1 h=>oA (EvA.callT Z Z (gV s zI cv1) (.cons (Fz.own (g:=gw) (ver:=aI) (l:=s) Z Z Z hgw qD)<|.cons (qC Z) .nil) Z)<|go h λ_ h=>?_;refine Ng h (λ_ q2 h=>?_) λ_ q2 h=>?_
 ·refine go h λ_ h=>?_;obtain rfl:=M4 h
  repeat (first|refine lD ?_|refine lF ?_)
  exact ⟨ak [(4,hS gw 0 aI 1 s.length)],[bE gw aI 1 3 (s.map cI)],Nh,jQ (vs:=[hS gw 0 aI 1 s.length]) (.cons (.tmp Z) .nil) ⟨gw,aI,(wT hgw Z),Z,Z⟩⟩
 refine go h λ_ h=>?_;refine T.jF (G:=(Bool×Nat)) h (λs3 gh=>(gh.1=Nk->s3.1=[])) (λs3 gh=>[(5,I s3.2),(0,hS gh.1 0 gh.2 1 s3.1.length)]) (λs3 gh=>[bE gh.1 gh.2 1 3 (s3.1.map cI)]) (λs3 gh h n26=>?_) λs3 h=>?_
 ·obtain ⟨b25,u24⟩:=gh;refine go h λ_ h=>?_;refine jD h λg27 h=>?_;obtain rfl:=Ab n26 rfl g27;refine jD h λg28 h=>oN (M0.slhs Tryz.underlying24 ty3 (l:=s3.2) (h:=(s3.1.length:Int)) Z (.yes Z) .no g28)<|oV (EvA.clearO (l:=s3.1) zy zrE Z Z<|IW (l:=s3.1) g28 Z) ?_;refine go h λ_ h=>?_;refine jD h λg29 h=>oA (EvA.cutO (l:=(cpy s3.1 (0+s3.2.toNat) (SN ((s3.1.length:Int).toNat-s3.2.toNat) (Nj:Int))<|(s3.1.length:Int).toNat-s3.2.toNat)) (zl:=(0:Int)) (zh:=s3.2) (M0.slhs Tryz.underlying24 ty3 (l:=(0:Int)) (h:=s3.2) Z .no (.yes Z) g29) Z (by simp [Ag]) g29)<|go h λ_ h=>?_;obtain rfl:=M4 h
  repeat (first|refine lD ?_|refine lF ?_)
  exact ⟨ak [(4,hS Nl 0 (u24+1) 1<|(((cpy s3.1 (0+s3.2.toNat) (SN ((s3.1.length:Int).toNat-s3.2.toNat) (Nj:Int))<|(s3.1.length:Int).toNat-s3.2.toNat).drop U.toNat).take<|s3.2.toNat-U.toNat).length)],[bE Nl (u24+1) 1 3 ((((cpy s3.1 (0+s3.2.toNat) (SN ((s3.1.length:Int).toNat-s3.2.toNat) (Nj:Int))<|(s3.1.length:Int).toNat-s3.2.toNat).drop U.toNat).take<|s3.2.toNat-U.toNat).map cI)],Nh,jQ (vs:=[hS Nl 0 (u24+1) 1 ((((cpy s3.1 (0+s3.2.toNat) (SN ((s3.1.length:Int).toNat-s3.2.toNat) (Nj:Int))<|(s3.1.length:Int).toNat-s3.2.toNat).drop U.toNat).take<|s3.2.toNat-U.toNat).length)]) (.cons (.tmp Z) .nil) ⟨Nl,u24+1,nofun,Z,Z⟩⟩
 refine go h λ_ h=>?_;refine tL h (gw,aI) (λs10 gh=>(gh.1=Nk->s10.1=[])) (λs10 gh=>[(6,I s10.2.1),(5,I s10.2.2),(0,hS gh.1 0 gh.2 1 s10.1.length),(1,.fn (.func 119) [.fp (cI zI) 0])]) (λs10 gh=>[bE gh.1 gh.2 1 3 (s10.1.map cI)]) hgw λs10 gh ws10 h n14=>?_;obtain ⟨b13,u12⟩:=gh;refine Ng h (λ_ q15 h=>?_) λ_ q15 h=>?_
 ·refine go h λ_ h=>?_;refine tJ h (λs16 gh=>[(5,I s16.2),(6,I s10.2.1),(0,hS Nl 0 gh 1 s16.1.length),(1,.fn (.func 119) [.fp (cI zI) 0])]) (λs16 gh=>[bE Nl gh 1 3 (s16.1.map cI)]) (λs16 u22 h=>?_) λs16 h=>?_
  ·refine go h λ_ h=>?_;obtain rfl:=M4 h;exact ⟨(s16.1,(s10.2.1+V),s16.2),(Nl,u22),Z,nofun,Nh⟩
  refine go h λ_ h=>?_;refine jD h λg17 h=>?_;obtain rfl:=Ab n14 rfl g17;refine go h λ_ h=>?_;refine oC h (λ_=>qi _ _) Z Z Z Z λv18 _ h=>?_;refine gi h (λ_ q19 h=>?_) λ_ q19 h=>?_
  ·refine go h λf h=>?_;obtain ⟨g20,_⟩:=f;refine oV (EvA.stO (g:=false) (l:=s10.1) (cs:=[I (J s10.1 s10.2.1)]) (J s10.1 s10.2.1) ty3 Z Z Z nofun (bH Z g20) Z Z Z)<|go h λ_ h=>?_;obtain rfl:=M4 h;exact ⟨u12,trivial,zO Z<|MZ Z<|MZ Z<|MZ (congrArg (hS Nl 0 u12 1) (by simp:s10.1.length=(s10.1.set s10.2.2.toNat<|J s10.1 s10.2.1).length))<|MZ Z wkN⟩
  refine go h λ_ h=>?_
  cases h
  exact ⟨u12,trivial,Nh⟩
 refine jM<|lX h λh=>?_
 cases h
 exact ⟨(b13,u12),n14,Nh⟩
theorem yn:∀ (nf:Nat) (writes:LI) {q} (h:ja nf writes=Nn q),aD Nr 120 [eL cI writes] (eL (cL cI) q):=by
 intro nf
 induction nf with
 | zero=>intros;rename_i h;cases h
 | succ nf ih=>
  intro writes q h;replace h:gy (ja nf) writes=Nn q:=h;refine pM func120 Z (by kernel_rfl) Z<|go h λ_ h=>?_;refine Ng h (λ_ q1 h=>?_) λ_ q1 h=>?_
  ·refine go h λ_ h=>?_;refine oN (M0.mkF0 (f:=cI) Hq Z Z Z) ?_;exact gz h
  refine jG<|jH<|T.reserve ?_;refine go h λ_ h=>?_;refine T.jF (G:=(Bool×Nat)) h (λs2 gh=>(gh.1=Nk->s2=[])) (λs2 gh=>[(3,hS gh.1 0 gh.2 1 s2.length)]) (λs2 gh=>[bE gh.1 gh.2 1 24 (s2.map<|cL cI)]) (λs2 gh h n47=>?_) λs2 h=>?_
  ·obtain ⟨b46,u45⟩:=gh;refine go h λ_ h=>?_;obtain rfl:=M4 h
   repeat (first|refine lD ?_|refine lF ?_)
   exact jQ (vs:=[hS b46 0 u45 1 s2.length]) (.cons (.tmp Z) .nil)<|Fz.own (g:=b46) (ver:=u45) (l:=s2) Z Z Z n47 qD
  refine go h λ_ h=>?_;refine tL h (Nk,0) (λs8 gh=>(gh.1=Nk->s8.1=[])) (λs8 gh=>[(14,I s8.2),(13,I (writes.length:Int)),(12,eL cI writes),(3,hS gh.1 0 gh.2 1 s8.1.length),(0,eL cI writes)]) (λs8 gh=>[bE gh.1 gh.2 1 24 (s8.1.map<|cL cI)]) qD λs8 gh ws8 h n12=>?_;let d0:=writes.getD s8.2.toNat Nj;obtain ⟨b11,u10⟩:=gh;refine go h λ_ h=>?_;refine jH ?_;refine jN Z h (λq13 h=>?_) λq13 h=>?_
  ·refine go h λ_ h=>?_;refine T.jF (G:=(Bool×Nat)) h (λs14 gh=>(gh.1=Nk->s14=[])) (λs14 gh=>[(14,I s8.2),(13,I (writes.length:Int)),(12,eL cI writes),(3,hS gh.1 0 gh.2 1 s14.length),(0,eL cI writes)]) (λs14 gh=>[bE gh.1 gh.2 1 24 (s14.map<|cL cI)]) (λs14 gh h n43=>?_) λs14 h=>?_
   ·obtain ⟨b42,u41⟩:=gh;refine go h λ_ h=>?_;obtain rfl:=M4 h;exact ⟨(s14,(s8.2+V)),(b42,u41),Z,n43,Nh⟩
   refine go h λ_ h=>?_;refine jB h λv16 cv16 h=>?_;refine oG Z Z Z ((dx writes cv16).own Z (pG qD) nB 1 Z) λg17 v18 n19=>?_;refine go h λ_ h=>?_;refine jB h λv21 cv21 h=>?_;refine oGW Z Z (xp v16 s8.2 (s8.2+V) g17 v18 (λx=>SR<|n19 x) cv21) Z (.cons (kI Z)<|.cons (.pF Z)<|.cons (.pF Z) .nil) (pG qD) (pG qD) nB λg22 v23 n24=>?_;refine TO.cut (e0:=ak [(24,eL cI v21),(5,I d0),(14,I s8.2),(13,I (writes.length:Int)),(12,eL cI writes),(3,hS b11 0 u10 1 s8.1.length),(0,eL cI writes)]) (H0:=[bE b11 u10 1 24 (s8.1.map<|cL cI)]) (qZ Z (.cons (.list (g:=b11) (ver:=u10) (l:=s8.1) qD) .nil)<|aj (.fz<|Fz.own (g:=g22) (ver:=v23) (l:=v21) Z Z Z (λx=>SR<|n24 x) qD)<|aj (.fz<|qC Z)<|aj (.fz<|qC Z)<|aj (.fz<|qC Z)<|aj (.fz<|qC Z)<|aj (.hS (g:=b11) (b:=0) (ver:=u10) (s:=1) (n:=s8.1.length) Z)<|aj (.fz<|qC Z) bg)<|oC h (λ_=>ih _) Z Z Z Z λv25 _ h=>?_;refine go h λ_ h=>?_;refine tL h (b11,u10) (λs31 gh=>(gh.1=Nk->s31.1=[])) (λs31 gh=>[(27,I s31.2),(26,I (v25.length:Int)),(25,eL (cL cI) v25),(5,I d0),(14,I s8.2),(13,I (writes.length:Int)),(12,eL cI writes),(3,hS gh.1 0 gh.2 1 s31.1.length),(0,eL cI writes)]) (λs31 gh=>[bE gh.1 gh.2 1 24 (s31.1.map<|cL cI)]) n12 λs31 gh ws31 h n35=>?_;obtain ⟨b34,u33⟩:=gh;refine go h λ_ h=>?_;refine jH ?_;refine jN Z h (λq36 h=>?_) λq36 h=>?_
   ·refine go h λ_ h=>?_;refine gs h λ_ h=>?_;refine oA (EvA.mkO (c:=cI) ([d0]:LI) [[I d0]] zy Z Z Z qD Z Z)<|go h λ_ h=>?_;refine oA (EvA.mkR [[hS Nl 1 (0+1) 1 ((([d0]:LI)++(J v25 s31.2)).length)]] Hq Z Z Z Z)<|jL h λg39 h=>oA (EvA.appR (g:=b34) (rows:=s31.1.map<|cL cI) (rows':=s31.1.map (cL cI)++[[hS Nl 1 (0+1) 1 ((([d0]:LI)++(J v25 s31.2)).length)]]) (n':=s31.1.length+1) Hq (by kernel_rfl) Z Z (by simp) (λq=>by first | (rw [n35 q];rfl) | (cases q)) (dN.raw (rows:=[[hS Nl 1 (0+1) 1 ((([d0]:LI)++(J v25 s31.2)).length)]]) Z Z Z) g39 Z Z) ?_;refine gq h λ_ h=>?_;refine T.cut (e0:=ak [(3,hS Nl 0 (u33+1) 1<|(s31.1++[(([d0]:LI)++(J v25 s31.2))]).length),(27,I s31.2),(26,I (v25.length:Int)),(25,eL (cL cI) v25),(5,I d0),(14,I s8.2),(13,I (writes.length:Int)),(12,eL cI writes),(0,eL cI writes)]) (H0:=[bE Nl (u33+1) 1 24 ((s31.1++[(([d0]:LI)++(J v25 s31.2))]).map<|cL cI)]) (qZ Z (.cons (.snoc qD<|.cons (.cons (.fz<|Fz.own (g:=false) (ver:=0+1) (l:=(([d0]:LI)++(J v25 s31.2))) Z Z Z nofun qD) .nil) .nil) .nil)<|aj (.eqv (congrArg (hS Nl 0 (u33+1) 1) (by simp:(s31.1.length+1)=(s31.1++[(([d0]:LI)++(J v25 s31.2))]).length))<|.hS (g:=false) (b:=0) (ver:=u33+1) (s:=1) (n:=(s31.1++[(([d0]:LI)++(J v25 s31.2))]).length) Z)<|aj (.fz<|qC Z)<|aj (.fz<|qC Z)<|aj (.fz<|qC Z)<|aj (.fz<|qC Z)<|aj (.fz<|qC Z)<|aj (.fz<|qC Z)<|aj (.fz<|qC Z)<|aj (.fz<|qC Z) bg)<|go h λ_ h=>?_;obtain rfl:=M4 h;exact ⟨((s31.1++[(([d0]:LI)++(J v25 s31.2))]),(s31.2+V)),(Nl,u33+1),Z,nofun,Nh⟩
   refine jM<|lX h λh=>?_
   cases h
   exact ⟨(b34,u33),n35,Nh⟩
  refine jM<|lX h λh=>?_
  cases h
  exact ⟨(b11,u10),n12,Nh⟩
theorem zF (writes:LI) {q} (h:rR writes=Nn q):aD Nr 120 [eL cI writes] (eL (cL cI) q):=by
 obtain ⟨nf,h⟩:=tz h;exact yn nf writes h
theorem uH (choices:LL) {q} (h:iT choices=Nn q):aD Nr 121 [eL (cL cI) choices] (eL (cL cI) q):=by
 refine pM func121 Z (by kernel_rfl) Z<|go h λ_ h=>?_;refine oN (M0.mkF0 (f:=cI) Hq Z Z Z)<|go h λ_ h=>?_;refine T.jU h (λs1=>[(3,eL (cL cI) s1)]) (λs1=>[]) (λs1 h=>?_) λs1 h=>?_
 ·exact gz h
 refine go h λ_ h=>?_;refine tU h (λs4=>[(14,I s4.1),(13,I (choices.length:Int)),(12,eL (cL cI) choices),(3,eL (cL cI) s4.2)]) (λs4=>[]) λs4 ws4 h=>?_;let d0:=choices.getD s4.1.toNat Nj;refine go h λ_ h=>?_;refine jH ?_;refine jN Z h (λq6 h=>?_) λq6 h=>?_
 ·refine go h λ_ h=>?_;refine T.jU h (λs7=>[(3,eL (cL cI) s7),(14,I s4.1),(13,I (choices.length:Int)),(12,eL (cL cI) choices)]) (λs7=>[]) (λs7 h=>?_) λs7 h=>?_
  ·refine go h λ_ h=>?_;exact lE h Nh
  refine jE<|jI ?_;refine gq h λ_ h=>?_;refine jH<|T.reserve ?_;refine go h λ_ h=>?_;refine T.jF (G:=(Bool×Nat)) h (λs9 gh=>(gh.1=Nk->s9=[])) (λs9 gh=>[(6,hS gh.1 0 gh.2 1 s9.length),(14,I s4.1),(13,I (choices.length:Int)),(12,eL (cL cI) choices)]) (λs9 gh=>[bE gh.1 gh.2 1 24 (s9.map<|cL cI)]) (λs9 gh h n48=>?_) λs9 h=>?_
  ·obtain ⟨b47,u46⟩:=gh;refine go h λ_ h=>?_;obtain rfl:=M4 h;exact ⟨(),trivial,qZ Z .nil<|aj (.fz<|Fz.own (g:=b47) (ver:=u46) (l:=s9) Z Z Z n48 qD)<|aj (.fz<|qC Z)<|aj (.fz<|qC Z)<|aj (.fz<|qC Z) bg⟩
  refine go h λ_ h=>?_;refine tL h (Nk,0) (λs15 gh=>(gh.1=Nk->s15.1=[])) (λs15 gh=>[(20,I s15.2),(19,I (s4.2.length:Int)),(18,eL (cL cI) s4.2),(6,hS gh.1 0 gh.2 1 s15.1.length),(5,eL cI d0),(14,I s4.1),(13,I (choices.length:Int)),(12,eL (cL cI) choices)]) (λs15 gh=>[bE gh.1 gh.2 1 24 (s15.1.map<|cL cI)]) qD λs15 gh ws15 h n19=>?_;obtain ⟨b18,u17⟩:=gh;refine go h λ_ h=>?_;refine jH ?_;refine jN Z h (λq20 h=>?_) λq20 h=>?_
  ·refine go h λ_ h=>?_;refine T.jF (G:=(Bool×Nat)) h (λs21 gh=>(gh.1=Nk->s21=[])) (λs21 gh=>[(20,I s15.2),(19,I (s4.2.length:Int)),(18,eL (cL cI) s4.2),(6,hS gh.1 0 gh.2 1 s21.length),(5,eL cI d0),(14,I s4.1),(13,I (choices.length:Int)),(12,eL (cL cI) choices)]) (λs21 gh=>[bE gh.1 gh.2 1 24 (s21.map<|cL cI)]) (λs21 gh h n44=>?_) λs21 h=>?_
   ·obtain ⟨b43,u42⟩:=gh;refine go h λ_ h=>?_;obtain rfl:=M4 h;exact ⟨(s21,(s15.2+V)),(b43,u42),Z,n44,Nh⟩
   refine go h λ_ h=>?_;refine tL h (b18,u17) (λs28 gh=>(gh.1=Nk->s28.1=[])) (λs28 gh=>[(26,I s28.2),(25,I (d0.length:Int)),(24,eL cI d0),(8,eL cI<|J s4.2 s15.2),(20,I s15.2),(19,I (s4.2.length:Int)),(18,eL (cL cI) s4.2),(6,hS gh.1 0 gh.2 1 s28.1.length),(5,eL cI d0),(14,I s4.1),(13,I (choices.length:Int)),(12,eL (cL cI) choices)]) (λs28 gh=>[bE gh.1 gh.2 1 24 (s28.1.map<|cL cI)]) n19 λs28 gh ws28 h n32=>?_;obtain ⟨b31,u30⟩:=gh;refine go h λ_ h=>?_;refine jH ?_;refine jN Z h (λq33 h=>?_) λq33 h=>?_
   ·refine go h λ_ h=>?_;refine gs h λ_ h=>?_;refine jB h λv35 cv35 h=>?_;refine oG Z Z Z ((dx (J s4.2 s15.2) cv35).own Z (pG qD) nB 1 Z) λg36 v37 n38=>?_;refine gk h λ_ _ h=>?_;refine oA (EvA.mkR [[hS Nl 1 (v37+1) 1 ((v35++[(J d0 s28.2)]).length)]] Hq Z Z Z Z)<|jL h λg40 h=>oA (EvA.appR (g:=b31) (rows:=s28.1.map<|cL cI) (rows':=s28.1.map (cL cI)++[[hS Nl 1 (v37+1) 1 ((v35++[(J d0 s28.2)]).length)]]) (n':=s28.1.length+1) Hq (by kernel_rfl) Z Z (by simp) (λq=>by first | (rw [n32 q];rfl) | (cases q)) (dN.raw (rows:=[[hS Nl 1 (v37+1) 1 ((v35++[(J d0 s28.2)]).length)]]) Z Z Z) g40 Z Z) ?_;refine gq h λ_ h=>?_;refine T.cut (e0:=ak [(6,hS Nl 0 (u30+1) 1<|(s28.1++[(v35++[(J d0 s28.2)])]).length),(26,I s28.2),(25,I (d0.length:Int)),(24,eL cI d0),(8,eL cI<|J s4.2 s15.2),(20,I s15.2),(19,I (s4.2.length:Int)),(18,eL (cL cI) s4.2),(5,eL cI d0),(14,I s4.1),(13,I (choices.length:Int)),(12,eL (cL cI) choices)]) (H0:=[bE Nl (u30+1) 1 24 ((s28.1++[(v35++[(J d0 s28.2)])]).map<|cL cI)]) (qZ Z (.cons (.snoc qD<|.cons (.cons (.fz<|Fz.own (g:=false) (ver:=v37+1) (l:=(v35++[(J d0 s28.2)])) Z Z Z nofun qD) .nil) .nil) .nil)<|aj (.eqv (congrArg (hS Nl 0 (u30+1) 1) (by simp:(s28.1.length+1)=(s28.1++[(v35++[(J d0 s28.2)])]).length))<|.hS (g:=false) (b:=0) (ver:=u30+1) (s:=1) (n:=(s28.1++[(v35++[(J d0 s28.2)])]).length) Z)<|aj (.fz<|qC Z)<|aj (.fz<|qC Z)<|aj (.fz<|qC Z)<|aj (.fz<|qC Z)<|aj (.fz<|qC Z)<|aj (.fz<|qC Z)<|aj (.fz<|qC Z)<|aj (.fz<|qC Z)<|aj (.fz<|qC Z)<|aj (.fz<|qC Z)<|aj (.fz<|qC Z) bg)<|go h λ_ h=>?_;obtain rfl:=M4 h;exact ⟨((s28.1++[(v35++[(J d0 s28.2)])]),(s28.2+V)),(Nl,u30+1),Z,nofun,Nh⟩
   refine jM<|lX h λh=>?_
   cases h
   exact ⟨(b31,u30),n32,Nh⟩
  refine jM<|lX h λh=>?_
  cases h
  exact ⟨(b18,u17),n19,Nh⟩
 refine jM<|lX h λh=>?_
 cases h
 exact ⟨(),trivial,Nh⟩
theorem wH (s:LL) {q} (h:lZ s=Nn q):bP Nr 192 [eL (cL cI) s] [] (CP 1 24 (λx=>x) q.length (q.map<|cL cI) 0 []):=by
 refine bP.mkO func192 Z (by kernel_rfl) Z (by kernel_rfl) (e0:=ak [(0,eL (cL cI) s)]) (MZ Z wkN) nB (pG qD)<|go h λ_ h=>?_;refine gs h λ_ h=>?_;refine LK Nl Tryz.underlying25 Z Z (λz1=>?_) ?_
 ·replace h:=(wU h).1 (by rw [z1];rfl);refine go h λ_ h=>?_;refine T.cond Z (λ_=>?_) λq=>absurd (q.symm.trans Z) (by decide);refine go h λ_ h=>?_;obtain rfl:=M4 h
  repeat (first|refine lD ?_|refine lF ?_)
  exact jQ (vs:=[.nil]) (.cons (.tmp Z) .nil) ⟨0,Nk,0,λ_=>Z,Z,nofun⟩
 replace h:=(wU h).2;refine go h λ_ h=>?_;refine T.cond Z (λq=>absurd (q.symm.trans Z)<|by decide) λ_=>?_;refine go h λ_ h=>?_;refine oA (EvA.mkO (c:=(cL cI)) ([]:LL) [] Hq Z Z Z qD Z Z)<|go h λ_ h=>?_;obtain rfl:=M4 h
 repeat (first|refine lD ?_|refine lF ?_)
 exact jQ (vs:=[hS Nl 0 (0+1) 1 ((([]:LL)++s).length)]) (.cons (.tmp Z) .nil) ⟨0,Nl,0+1,nofun,Z,ownB Z⟩
theorem xH (choices:List<|LL) {q} (h:jb choices=Nn q):aD Nr 122 [eL (cL<|cL cI) choices] (eL (cL<|cL cI) q):=by
 refine pM func122 Z (by kernel_rfl) Z<|go h λ_ h=>?_;refine oN (M0.mkF0 (f:=(cL cI)) GZ Z Z Z)<|go h λ_ h=>?_;refine T.jU h (λs1=>[(3,eL (cL<|cL cI) s1)]) (λs1=>[]) (λs1 h=>?_) λs1 h=>?_
 ·exact gz h
 refine go h λ_ h=>?_;refine tU h (λs4=>[(14,I s4.1),(13,I (choices.length:Int)),(12,eL (cL<|cL cI) choices),(3,eL (cL<|cL cI) s4.2)]) (λs4=>[]) λs4 ws4 h=>?_;let d0:=choices.getD s4.1.toNat Nj;refine go h λ_ h=>?_;refine jH ?_;refine jN Z h (λq6 h=>?_) λq6 h=>?_
 ·refine go h λ_ h=>?_;refine T.jU h (λs7=>[(3,eL (cL<|cL cI) s7),(14,I s4.1),(13,I (choices.length:Int)),(12,eL (cL<|cL cI) choices)]) (λs7=>[]) (λs7 h=>?_) λs7 h=>?_
  ·refine go h λ_ h=>?_;exact lE h Nh
  refine jE<|jI ?_;refine gq h λ_ h=>?_;refine jH<|T.reserve ?_;refine go h λ_ h=>?_;refine T.jF (G:=(Bool×Nat)) h (λs9 gh=>(gh.1=Nk->s9=[])) (λs9 gh=>[(6,hS gh.1 0 gh.2 1 s9.length),(14,I s4.1),(13,I (choices.length:Int)),(12,eL (cL<|cL cI) choices)]) (λs9 gh=>[bE gh.1 gh.2 1 25 (s9.map<|cL<|cL cI)]) (λs9 gh h n48=>?_) λs9 h=>?_
  ·obtain ⟨b47,u46⟩:=gh;refine go h λ_ h=>?_;obtain rfl:=M4 h;exact ⟨(),trivial,qZ Z .nil<|aj (.fz<|Fz.own (g:=b47) (ver:=u46) (l:=s9) Z Z Z n48 qD)<|aj (.fz<|qC Z)<|aj (.fz<|qC Z)<|aj (.fz<|qC Z) bg⟩
  refine go h λ_ h=>?_;refine tL h (Nk,0) (λs15 gh=>(gh.1=Nk->s15.1=[])) (λs15 gh=>[(20,I s15.2),(19,I (s4.2.length:Int)),(18,eL (cL<|cL cI) s4.2),(6,hS gh.1 0 gh.2 1 s15.1.length),(5,eL (cL cI) d0),(14,I s4.1),(13,I (choices.length:Int)),(12,eL (cL<|cL cI) choices)]) (λs15 gh=>[bE gh.1 gh.2 1 25 (s15.1.map<|cL<|cL cI)]) qD λs15 gh ws15 h n19=>?_;obtain ⟨b18,u17⟩:=gh;refine go h λ_ h=>?_;refine jH ?_;refine jN Z h (λq20 h=>?_) λq20 h=>?_
  ·refine go h λ_ h=>?_;refine T.jF (G:=(Bool×Nat)) h (λs21 gh=>(gh.1=Nk->s21=[])) (λs21 gh=>[(20,I s15.2),(19,I (s4.2.length:Int)),(18,eL (cL<|cL cI) s4.2),(6,hS gh.1 0 gh.2 1 s21.length),(5,eL (cL cI) d0),(14,I s4.1),(13,I (choices.length:Int)),(12,eL (cL<|cL cI) choices)]) (λs21 gh=>[bE gh.1 gh.2 1 25 (s21.map<|cL<|cL cI)]) (λs21 gh h n44=>?_) λs21 h=>?_
   ·obtain ⟨b43,u42⟩:=gh;refine go h λ_ h=>?_;obtain rfl:=M4 h;exact ⟨(s21,(s15.2+V)),(b43,u42),Z,n44,Nh⟩
   refine go h λ_ h=>?_;refine tL h (b18,u17) (λs28 gh=>(gh.1=Nk->s28.1=[])) (λs28 gh=>[(26,I s28.2),(25,I (d0.length:Int)),(24,eL (cL cI) d0),(8,eL (cL cI)<|J s4.2 s15.2),(20,I s15.2),(19,I (s4.2.length:Int)),(18,eL (cL<|cL cI) s4.2),(6,hS gh.1 0 gh.2 1 s28.1.length),(5,eL (cL cI) d0),(14,I s4.1),(13,I (choices.length:Int)),(12,eL (cL<|cL cI) choices)]) (λs28 gh=>[bE gh.1 gh.2 1 25 (s28.1.map<|cL<|cL cI)]) n19 λs28 gh ws28 h n32=>?_;obtain ⟨b31,u30⟩:=gh;refine go h λ_ h=>?_;refine jH ?_;refine jN Z h (λq33 h=>?_) λq33 h=>?_
   ·refine go h λ_ h=>?_;refine gs h λ_ h=>?_;refine jB h λv35 cv35 h=>?_;refine oG Z Z Z ((wH (J s4.2 s15.2) cv35).own Z (pG qD) nB 1 Z) λg36 v37 n38=>?_;refine gk h λ_ _ h=>?_;refine oA (EvA.mkR [[hS Nl 1 (v37+1) 1 ((v35++[(J d0 s28.2)]).length)]] GZ Z Z Z Z)<|jL h λg40 h=>oA (EvA.appR (g:=b31) (rows:=s28.1.map<|cL<|cL cI) (rows':=s28.1.map (cL<|cL cI)++[[hS Nl 1 (v37+1) 1 ((v35++[(J d0 s28.2)]).length)]]) (n':=s28.1.length+1) GZ (by kernel_rfl) Z Z (by simp) (λq=>by first | (rw [n32 q];rfl) | (cases q)) (dN.raw (rows:=[[hS Nl 1 (v37+1) 1 ((v35++[(J d0 s28.2)]).length)]]) Z Z Z) g40 Z Z) ?_;refine gq h λ_ h=>?_;refine T.cut (e0:=ak [(6,hS Nl 0 (u30+1) 1<|(s28.1++[(v35++[(J d0 s28.2)])]).length),(26,I s28.2),(25,I (d0.length:Int)),(24,eL (cL cI) d0),(8,eL (cL cI)<|J s4.2 s15.2),(20,I s15.2),(19,I (s4.2.length:Int)),(18,eL (cL<|cL cI) s4.2),(5,eL (cL cI) d0),(14,I s4.1),(13,I (choices.length:Int)),(12,eL (cL<|cL cI) choices)]) (H0:=[bE Nl (u30+1) 1 25 ((s28.1++[(v35++[(J d0 s28.2)])]).map<|cL<|cL cI)]) (qZ Z (.cons (.snoc qD<|.cons (.cons (.fz<|Fz.own (g:=false) (ver:=v37+1) (l:=(v35++[(J d0 s28.2)])) Z Z Z nofun qD) .nil) .nil) .nil)<|aj (.eqv (congrArg (hS Nl 0 (u30+1) 1) (by simp:(s28.1.length+1)=(s28.1++[(v35++[(J d0 s28.2)])]).length))<|.hS (g:=false) (b:=0) (ver:=u30+1) (s:=1) (n:=(s28.1++[(v35++[(J d0 s28.2)])]).length) Z)<|aj (.fz<|qC Z)<|aj (.fz<|qC Z)<|aj (.fz<|qC Z)<|aj (.fz<|qC Z)<|aj (.fz<|qC Z)<|aj (.fz<|qC Z)<|aj (.fz<|qC Z)<|aj (.fz<|qC Z)<|aj (.fz<|qC Z)<|aj (.fz<|qC Z)<|aj (.fz<|qC Z) bg)<|go h λ_ h=>?_;obtain rfl:=M4 h;exact ⟨((s28.1++[(v35++[(J d0 s28.2)])]),(s28.2+V)),(Nl,u30+1),Z,nofun,Nh⟩
   refine jM<|lX h λh=>?_
   cases h
   exact ⟨(b31,u30),n32,Nh⟩
  refine jM<|lX h λh=>?_
  cases h
  exact ⟨(b18,u17),n19,Nh⟩
 refine jM<|lX h λh=>?_
 cases h
 exact ⟨(),trivial,Nh⟩
theorem wI (x:M6) {q} (h:iA x=Nn q):aD Nr 123 [.agg (M6.c x)] (.agg<|M6.c q):=by
 refine pM func123 Z (by kernel_rfl) Z<|go h λ_ h=>?_;refine eF Z Z Z<|gq h λ_ h=>?_;refine jH<|T.reserve<|T.reserve<|jP (dG [dF,dF,dF,dF,dF,dF,([1],Nk),dF,([2],Nk),([2],Nk)]) (by kernel_rfl) (by kernel_rfl) ?_;refine go h λ_ h=>?_;refine fC h (λ_=>lj _) Z Z Z Z Z λv1 _ h=>(go h λ_ h=>?_);refine jD h λg2 h=>fW 1 [] Z Z (λG hG=>EvA.mkZR 1 ([]:LI) Hq Z Z g2 Z Z<|hG.a0 Z)<|go h λ_ h=>?_;refine fW 2 [] Z Z (λG hG=>EvA.alR 2 Mx Z Z<|hG.a0 Z)<|gq h λ_ h=>?_;refine T.cut (e0:=ak [(3,.hp 2 0 2 0 0),(2,.hp 0 0 2 0 0),(1,.fp (M6.c x) 0)]) (H0:=[Nn ⟨0,2,27,[[.nil,.nil]]⟩,bE Nl 0 1 24 ((SN (x.Order.length:Int).toNat ([]:LI)).map<|cL cI),Nn ⟨0,2,27,[[eL cI v1,hS Nl 1 0 1 ((SN (x.Order.length:Int).toNat ([]:LI)).length)]]⟩]) (qZ Z (.cons (.row<|.cons (.fz<|qC Z)<|.cons (.fz<|qC Z) .nil)<|.cons (.rows<|.rep (f:=cI) _)<|.cons (.row<|.cons (.fz<|qC Z)<|.cons (.hS (g:=false) (b:=1) (ver:=0) (s:=1) (n:=(SN (x.Order.length:Int).toNat ([]:LI)).length) Z) .nil) .nil)<|aj (.hp<|nlb Z)<|aj (.hp<|nlb Z)<|aj (.fz<|qC Z) bg) ?_;refine tJ h (λs3 gh=>[(3,.hp 2 0 2 0 0),(2,.hp 0 0 2 0 0)]) (λs3 gh=>[Nn ⟨0,2,27,[[.nil,.nil]]⟩,bE Nl gh 1 24 (s3.map<|cL cI),Nn ⟨0,2,27,[[eL cI v1,hS Nl 1 gh 1 s3.length]]⟩]) (λs3 u15 h=>?_) λs3 h=>?_
 ·refine go h λ_ h=>?_;obtain rfl:=M4 h
  repeat (first|refine lD ?_|refine lF ?_)
  exact jQ (vs:=[.agg [eL cI v1,hS Nl 1 u15 1 s3.length]]) (.cons (.cell (.agg [eL cI v1,hS Nl 1 u15 1 s3.length]) Lh Z Z Z Z Z Z) .nil)<|Fz.aggL<|.cons (qC Z)<|.cons (Fz.own (g:=false) (ver:=u15) (l:=s3) Z Z Z nofun qD) .nil
 refine go h λ_ h=>?_;refine tT h 0 (λs7 gh=>[(17,I s7.2),(16,I (x.Order.length:Int)),(15,eL (cL cI) x.Order),(3,.hp 2 0 2 0 0),(2,.hp 0 0 2 0 0)]) (λs7 gh=>[Nn ⟨0,2,27,[[.nil,.nil]]⟩,bE Nl gh 1 24 (s7.1.map<|cL cI),Nn ⟨0,2,27,[[eL cI v1,hS Nl 1 gh 1 s7.1.length]]⟩]) λs7 u9 ws7 h=>?_;refine go h λ_ h=>?_;refine jH ?_;refine jN Z h (λq10 h=>?_) λq10 h=>?_
 ·refine go h λ_ h=>?_;refine gs h λ_ h=>?_;refine jP (dG [dF,([2],Nl),dF,dF,dF,dF,([1],Nk)]) (by kernel_rfl) (by kernel_rfl)<|go h λ_ h=>?_;refine fC h (λ_=>lj _) Z Z Z Z Z λv12 _ h=>(go h λf h=>?_);obtain ⟨g13,_⟩:=f;refine fV 1 [] Z Z (λG hG=>EvA.stO (g:=false) (l:=s7.1) (cs:=[eL cI v12]) v12 Kj Z Z (hG.a0 Z) nofun (bH Z g13) Z Z Z)<|go h λ_ h=>?_;obtain rfl:=M4 h;exact ⟨((s7.1.set s7.2.toNat v12),(s7.2+(1:Int))),u9,Z,trivial,kw (by first | (simp only [List.length_set] <;> rfl) | simp only [lla,List.length_singleton,llc,List.length_nil,List.length_set]) Z⟩
 refine jM<|lX h λh=>?_
 cases h
 exact ⟨u9,trivial,Nh⟩
theorem wJ (p:List<|List M5) {q} (h:l5 p=Nn q):bP Nr 59 [eL (cL M5.c) p] [] (CP 2 27 (λx=>x) q.length (q.map M6.c) 0 []):=by
 refine bP.mkO func59 Z (by kernel_rfl) Z (by kernel_rfl) (e0:=ak [(0,eL (cL M5.c) p)]) (MZ Z wkN) nB (pG M6.isF)<|go h λ_ h=>?_;refine oC h (λ_=>p9 _) Z Z Z Z λv1 _ h=>(gq h λ_ h=>?_);refine jH<|T.reserve ?_;refine go h λ_ h=>?_;refine T.jF (G:=(Bool×Nat)) h (λs2 gh=>(gh.1=Nk->s2=[])) (λs2 gh=>[(4,hS gh.1 0 gh.2 1 s2.length),(3,eL M7.c v1)]) (λs2 gh=>[bE gh.1 gh.2 1 24 (s2.map<|cL cI)]) (λs2 gh h n29=>?_) λs2 h=>?_
 ·obtain ⟨b28,u27⟩:=gh;refine T.cut (e0:=ak [(4,eL (cL cI) s2),(3,eL M7.c v1)]) (H0:=[]) (qZ Z .nil<|aj (.fz<|Fz.own (g:=b28) (ver:=u27) (l:=s2) Z Z Z n29 qD)<|aj (.fz<|qC Z) bg)<|jH<|T.reserve ?_;refine go h λ_ h=>?_;refine T.jF (G:=(Bool×Nat)) h (λs30 gh=>(gh.1=Nk->s30=[])) (λs30 gh=>[(8,hS gh.1 0 gh.2 1 s30.length),(4,eL (cL cI) s2)]) (λs30 gh=>[bE gh.1 gh.2 1 25 (s30.map<|cL<|cL cI)]) (λs30 gh h n70=>?_) λs30 h=>?_
  ·obtain ⟨b69,u68⟩:=gh;refine T.cut (e0:=ak [(8,eL (cL<|cL cI) s30),(4,eL (cL cI) s2)]) (H0:=[]) (qZ Z .nil<|aj (.fz<|Fz.own (g:=b69) (ver:=u68) (l:=s30) Z Z Z n70 qD)<|aj (.fz<|qC Z) bg)<|jH<|T.reserve ?_;refine go h λ_ h=>?_;refine T.jF (G:=(Bool×Nat)) h (λs71 gh=>(gh.1=Nk->s71=[])) (λs71 gh=>[(13,hS gh.1 0 gh.2 2 s71.length)]) (λs71 gh=>[bE gh.1 gh.2 2 27 (s71.map M6.c)]) (λs71 gh h n108=>?_) λs71 h=>?_
   ·obtain ⟨b107,u106⟩:=gh;refine go h λ_ h=>?_;obtain rfl:=M4 h
    repeat (first|refine lD ?_|refine lF ?_)
    exact jQ (vs:=[hS b107 0 u106 2 s71.length]) (.cons (.tmp Z) .nil) ⟨0,b107,u106,(wT n108 Z),Z,ownB Z⟩
   refine go h λ_ h=>?_;refine oC h (λ_=>uH _) Z Z Z Z λv72 _ h=>(go h λ_ h=>?_);refine tL h (Nk,0) (λs78 gh=>(gh.1=Nk->s78.1=[])) (λs78 gh=>[(70,I s78.2),(69,I (v72.length:Int)),(68,eL (cL cI) v72),(13,hS gh.1 0 gh.2 2 s78.1.length),(8,eL (cL<|cL cI) s30)]) (λs78 gh=>[bE gh.1 gh.2 2 27 (s78.1.map M6.c)]) qD λs78 gh ws78 h n82=>?_;obtain ⟨b81,u80⟩:=gh;refine go h λ_ h=>?_;refine jH ?_;refine jN Z h (λq83 h=>?_) λq83 h=>?_
   ·refine go h λ_ h=>?_;refine T.jF (G:=(Bool×Nat)) h (λs84 gh=>(gh.1=Nk->s84=[])) (λs84 gh=>[(70,I s78.2),(69,I (v72.length:Int)),(68,eL (cL cI) v72),(13,hS gh.1 0 gh.2 2 s84.length),(8,eL (cL<|cL cI) s30)]) (λs84 gh=>[bE gh.1 gh.2 2 27 (s84.map M6.c)]) (λs84 gh h n104=>?_) λs84 h=>?_
    ·obtain ⟨b103,u102⟩:=gh;refine go h λ_ h=>?_;obtain rfl:=M4 h;exact ⟨(s84,(s78.2+V)),(b103,u102),Z,n104,Nh⟩
    refine go h λ_ h=>?_;refine oC h (λ_=>xH _) Z Z Z Z λv86 _ h=>(go h λ_ h=>?_);refine tL h (b81,u80) (λs92 gh=>(gh.1=Nk->s92.1=[])) (λs92 gh=>[(77,I s92.2),(76,I (v86.length:Int)),(75,eL (cL<|cL cI) v86),(15,eL cI<|J v72 s78.2),(70,I s78.2),(69,I (v72.length:Int)),(68,eL (cL cI) v72),(13,hS gh.1 0 gh.2 2 s92.1.length),(8,eL (cL<|cL cI) s30)]) (λs92 gh=>[bE gh.1 gh.2 2 27 (s92.1.map M6.c)]) n82 λs92 gh ws92 h n96=>?_;obtain ⟨b95,u94⟩:=gh;refine go h λ_ h=>?_;refine jH ?_;refine jN Z h (λq97 h=>?_) λq97 h=>?_
    ·refine go h λ_ h=>?_;refine gs h λ_ h=>?_;refine oC h (λ_=>wI _) Z Z Z Z λv99 _ h=>oN (M0.mkF (c:=M6.c) ([v99]:List M6) [(M6.c v99)] MB Z Z Z qD M6.isF Z)<|go h λ_ h=>?_;obtain rfl:=M4 h;exact ⟨((s92.1++[v99]),(s92.2+V)),(Nl,u94+1),Z,nofun,Nh⟩
    refine jM<|lX h λh=>?_
    cases h
    exact ⟨(b95,u94),n96,Nh⟩
   refine jM<|lX h λh=>?_
   cases h
   exact ⟨(b81,u80),n82,Nh⟩
  refine go h λ_ h=>?_;refine tL h (Nk,0) (λs36 gh=>(gh.1=Nk->s36.1=[])) (λs36 gh=>[(41,I s36.2),(8,hS gh.1 0 gh.2 1 s36.1.length),(4,eL (cL cI) s2),(3,eL M7.c v1)]) (λs36 gh=>[bE gh.1 gh.2 1 25 (s36.1.map<|cL<|cL cI)]) qD λs36 gh ws36 h n40=>?_;obtain ⟨b39,u38⟩:=gh;refine go h λ_ h=>?_;refine jH ?_;refine jN Z h (λq41 h=>?_) λq41 h=>?_
  ·refine go h λ_ h=>?_;refine tJ h (λs42 gh=>[(8,hS Nl 0 gh 1 s42.length),(41,I s36.2),(4,eL (cL cI) s2),(3,eL M7.c v1)]) (λs42 gh=>[bE Nl gh 1 25 (s42.map<|cL<|cL cI)]) (λs42 u66 h=>?_) λs42 h=>?_
   ·refine go h λ_ h=>?_;obtain rfl:=M4 h;exact ⟨(s42,(s36.2+V)),(Nl,u66),Z,nofun,Nh⟩
   refine jE<|jI ?_;refine gq h λ_ h=>?_;refine jH<|T.reserve ?_;refine go h λ_ h=>?_;refine T.jF (G:=(Bool×Nat)) h (λs43 gh=>(gh.1=Nk->s43=[])) (λs43 gh=>[(10,hS gh.1 1 gh.2 1 s43.length),(41,I s36.2),(8,hS b39 0 u38 1 s36.1.length),(4,eL (cL cI) s2),(3,eL M7.c v1)]) (λs43 gh=>[bE b39 u38 1 25 (s36.1.map<|cL<|cL cI),bE gh.1 gh.2 1 24 (s43.map<|cL cI)]) (λs43 gh h n64=>?_) λs43 h=>?_
   ·obtain ⟨b63,u62⟩:=gh;refine go h λ_ h=>?_;refine oA (EvA.mkR [[hS b63 1 u62 1 s43.length]] GZ (by generalize b63=gq0;cases gq0 <;> rfl) Z Z Z) (jL h λg65 h=>oA (EvA.appR (g:=b39) (rows:=s36.1.map<|cL<|cL cI) (rows':=s36.1.map (cL<|cL cI)++[[hS b63 1 u62 1 s43.length]]) (n':=s36.1.length+1) GZ (by kernel_rfl) Z Z (by simp) (λq=>by first | (rw [n40 q];rfl) | (cases q)) (dN.raw (rows:=[[hS b63 1 u62 1 s43.length]]) Z Z Z) g65 Z Z) ?_);refine go h λ_ h=>?_;obtain rfl:=M4 h;exact ⟨u38+1,trivial,qZ Z (.cons (.snoc qD<|.cons (.cons (.fz<|Fz.own (g:=b63) (ver:=u62) (l:=s43) Z Z Z n64 qD) .nil) .nil) .nil)<|aj (.eqv (congrArg (hS Nl 0 (u38+1) 1) (by simp:(s36.1.length+1)=(s36.1++[s43]).length))<|.hS (g:=false) (b:=0) (ver:=u38+1) (s:=1) (n:=(s36.1++[s43]).length) Z)<|aj (.fz<|qC Z)<|aj (.fz<|qC Z)<|aj (.fz<|qC Z) bg⟩
   refine go h λ_ h=>?_;refine oC h (λ_=>wC _ _) Z Z Z Z λv44 _ h=>jD h λg45 h=>oN (M0.slL zy Z (.yes Z) .no g45 qD)<|oC h (λ_=>zF _) Z Z Z Z λv46 _ h=>?_;refine go h λ_ h=>?_;refine tL h (Nk,0) (λs52 gh=>(gh.1=Nk->s52.1=[])) (λs52 gh=>[(50,I s52.2),(49,I (v46.length:Int)),(48,eL (cL cI) v46),(10,hS gh.1 1 gh.2 1 s52.1.length),(9,I s36.2),(41,I s36.2),(8,hS b39 0 u38 1 s36.1.length),(4,eL (cL cI) s2),(3,eL M7.c v1)]) (λs52 gh=>[bE b39 u38 1 25 (s36.1.map<|cL<|cL cI),bE gh.1 gh.2 1 24 (s52.1.map<|cL cI)]) qD λs52 gh ws52 h n56=>?_;obtain ⟨b55,u54⟩:=gh;refine go h λ_ h=>?_;refine jH ?_;refine jN Z h (λq57 h=>?_) λq57 h=>?_
   ·refine go h λ_ h=>?_;refine gs h λ_ h=>?_;refine oA (EvA.mkO (c:=cI) ([s36.2]:LI) [[I s36.2]] zy Z Z Z qD Z Z)<|go h λ_ h=>?_;refine oA (EvA.mkR [[hS Nl 2 (0+1) 1 ((([s36.2]:LI)++(J v46 s52.2)).length)]] Hq Z Z Z Z)<|jL h λg60 h=>oA (EvA.appR (g:=b55) (rows:=s52.1.map<|cL cI) (rows':=s52.1.map (cL cI)++[[hS Nl 2 (0+1) 1 ((([s36.2]:LI)++(J v46 s52.2)).length)]]) (n':=s52.1.length+1) Hq (by kernel_rfl) Z Z (by simp) (λq=>by first | (rw [n56 q];rfl) | (cases q)) (dN.raw (rows:=[[hS Nl 2 (0+1) 1 ((([s36.2]:LI)++(J v46 s52.2)).length)]]) Z Z Z) g60 Z Z) ?_;refine gq h λ_ h=>?_;refine T.cut (e0:=ak [(10,hS Nl 1 (u54+1) 1<|(s52.1++[(([s36.2]:LI)++(J v46 s52.2))]).length),(50,I s52.2),(49,I (v46.length:Int)),(48,eL (cL cI) v46),(9,I s36.2),(41,I s36.2),(8,hS b39 0 u38 1 s36.1.length),(4,eL (cL cI) s2),(3,eL M7.c v1)]) (H0:=[bE b39 u38 1 25 (s36.1.map<|cL<|cL cI),bE Nl (u54+1) 1 24 ((s52.1++[(([s36.2]:LI)++(J v46 s52.2))]).map<|cL cI)]) (qZ Z (.cons (.list (g:=b39) (ver:=u38) (l:=s36.1) qD)<|.cons (.snoc qD<|.cons (.cons (.fz<|Fz.own (g:=false) (ver:=0+1) (l:=(([s36.2]:LI)++(J v46 s52.2))) Z Z Z nofun qD) .nil) .nil) .nil)<|aj (.eqv (congrArg (hS Nl 1 (u54+1) 1) (by simp:(s52.1.length+1)=(s52.1++[(([s36.2]:LI)++(J v46 s52.2))]).length))<|.hS (g:=false) (b:=1) (ver:=u54+1) (s:=1) (n:=(s52.1++[(([s36.2]:LI)++(J v46 s52.2))]).length) Z)<|aj (.fz<|qC Z)<|aj (.fz<|qC Z)<|aj (.fz<|qC Z)<|aj (.fz<|qC Z)<|aj (.fz<|qC Z)<|aj (.hS (g:=b39) (b:=0) (ver:=u38) (s:=1) (n:=s36.1.length) Z)<|aj (.fz<|qC Z)<|aj (.fz<|qC Z) bg)<|go h λ_ h=>?_;obtain rfl:=M4 h;exact ⟨((s52.1++[(([s36.2]:LI)++(J v46 s52.2))]),(s52.2+V)),(Nl,u54+1),Z,nofun,Nh⟩
   refine jM<|lX h λh=>?_
   cases h
   exact ⟨(b55,u54),n56,Nh⟩
  refine jM<|lX h λh=>?_
  cases h
  exact ⟨(b39,u38),n40,Nh⟩
 refine go h λ_ h=>?_;refine tL h (Nk,0) (λs8 gh=>(gh.1=Nk->s8.1=[])) (λs8 gh=>[(22,I s8.2),(21,I (v1.length:Int)),(20,eL M7.c v1),(4,hS gh.1 0 gh.2 1 s8.1.length),(3,eL M7.c v1)]) (λs8 gh=>[bE gh.1 gh.2 1 24 (s8.1.map<|cL cI)]) qD λs8 gh ws8 h n12=>?_;obtain ⟨b11,u10⟩:=gh;refine go h λ_ h=>?_;refine jH ?_;refine jN Z h (λq13 h=>?_) λq13 h=>?_
 ·refine go h λ_ h=>?_;refine gs h λ_ h=>?_;refine TO.cut (e0:=ak [(6,.fp (M7.c (⟨(J v1 s8.2).Thread,(J v1 s8.2).Index,(J v1 s8.2).Loc,(J v1 s8.2).Reads,(J v1 s8.2).cu⟩:M7)) 0),(5,.fp (cI s8.2) 0),(22,I s8.2),(21,I (v1.length:Int)),(20,eL M7.c v1),(4,hS b11 0 u10 1 s8.1.length),(3,eL M7.c v1)]) (H0:=[bE b11 u10 1 24 (s8.1.map<|cL cI)]) (qZ Z (.cons (.list (g:=b11) (ver:=u10) (l:=s8.1) qD) .nil)<|aj (.fz<|Fz.fpL (ver:=0) (s:=5) (ty:=60) (rows:=[[I ((J v1 s8.2).Thread),I ((J v1 s8.2).Index),I ((J v1 s8.2).Loc),Bo ((J v1 s8.2).Reads),Bo ((J v1 s8.2).cu)]]) Z Z Z<|.cons (qC Z)<|.cons (qC Z)<|.cons (qC Z)<|.cons (qC Z)<|.cons (qC Z) .nil)<|aj (.fz<|Fz.fpL (ver:=0) (s:=1) (ty:=3) (rows:=[[I s8.2]]) Z Z Z<|.cons (qC Z) .nil)<|aj (.fz<|qC Z)<|aj (.fz<|qC Z)<|aj (.fz<|qC Z)<|aj (.hS (g:=b11) (b:=0) (ver:=u10) (s:=1) (n:=s8.1.length) Z)<|aj (.fz<|qC Z) bg)<|gk h λ_ _ h=>?_;refine T.jU h (λs15=>[(7,eL cI s15),(22,I s8.2),(21,I (v1.length:Int)),(20,eL M7.c v1),(4,hS b11 0 u10 1 s8.1.length),(3,eL M7.c v1)]) (λs15=>[bE b11 u10 1 24 (s8.1.map<|cL cI)]) (λs15 h=>?_) λs15 h=>?_
  ·refine gk h λ_ _ h=>?_;obtain rfl:=M4 h;exact ⟨((s8.1++[s15]),(s8.2+V)),(Nl,u10+1),Z,nofun,Nh⟩
  refine gi h (λ_ q16 h=>?_) λ_ q16 h=>?_
  ·refine go h λ_ h=>?_;refine jB h λv17 cv17 h=>?_;refine oG Z Z Z ((qd v1 ((⟨(J v1 s8.2).Thread,(J v1 s8.2).Index,(J v1 s8.2).Loc,(J v1 s8.2).Reads,(J v1 s8.2).cu⟩:M7).Loc) cv17).own Z (pG qD) nB 1 Z) λg18 v19 n20=>?_;refine oN (M0.mkfn [.fp (cI s8.2) 0] Z Z)<|jB h λv21 cv21 h=>?_;refine oGW Z Z (fT v17 s8.2 g18 v19 (λx=>SR<|n20 x) cv21) Z (.cons (kI Z)<|.cons (.pF Z) .nil) (pG qD) (pG qD) nB λg22 v23 n24=>?_;refine oN (M0.asg (hS g22 1 v23 1 v21.length) Z)<|TO.cut (e0:=ak [(7,eL cI v21),(22,I s8.2),(21,I (v1.length:Int)),(20,eL M7.c v1),(4,hS b11 0 u10 1 s8.1.length),(3,eL M7.c v1)]) (H0:=[bE b11 u10 1 24 (s8.1.map<|cL cI)]) (qZ Z (.cons (.list (g:=b11) (ver:=u10) (l:=s8.1) qD) .nil)<|aj (.fz<|Fz.own (g:=g22) (ver:=v23) (l:=v21) Z Z Z (λx=>SR<|n24 x) qD)<|aj (.fz<|qC Z)<|aj (.fz<|qC Z)<|aj (.fz<|qC Z)<|aj (.hS (g:=b11) (b:=0) (ver:=u10) (s:=1) (n:=s8.1.length) Z)<|aj (.fz<|qC Z) bg) ?_;refine go h λ_ h=>?_
   cases h
   exact ⟨(),trivial,Nh⟩
  refine go h λ_ h=>?_
  cases h
  exact ⟨(),trivial,Nh⟩
 refine jM<|lX h λh=>?_
 cases h
 exact ⟨(b11,u10),n12,Nh⟩
theorem yp (p:List<|List M5) (x:M6) (m:List ai) {q} (h:ng p x m=Nn q):aD Nr 61 [eL (cL M5.c) p,.agg (M6.c x),eL ai.c m] (Bo q):=by
 refine pM func61 Z (by kernel_rfl) Z<|go h λ_ h=>?_;refine eF Z Z Z<|go h λ_ h=>?_;refine oC h (λ_=>xG _ _) Z Z Z Z λv1 _ h=>(go h λ_ h=>?_);refine Ng h (λ_ q2 h=>?_) λ_ q2 h=>?_
 ·exact gz h
 refine go h λ_ h=>?_;refine oC h (λ_=>vH _ _ _) Z Z Z Z λv3 _ h=>?_;exact gz h
theorem mG (x:M6) (a1:List<|List M5) (a2:List ai) {q} (h:dA x a1 a2=Nn q):aD Nr 60 [.agg (M6.c x),.fp ((cL<|cL M5.c) a1) 0,.fp ((cL ai.c) a2) 0] (Bo q):=by
 refine pM func60 Z (by kernel_rfl) Z<|go h λ_ h=>?_;refine eF Z Z Z<|go h λ_ h=>?_;refine oC h (λ_=>yp _ _ _) Z Z Z Z λv1 _ h=>?_;exact gz h
theorem cK (s:List M6) (f0:List<|List M5) (f1:List ai) {q} (h:aO s f0 f1=Nn q):aD Nr 117 [eL M6.c s,.fn (.func 60) [.fp ((cL<|cL M5.c) f0) 0,.fp ((cL ai.c) f1) 0]] (I q):=by
 refine pM func117 Z (by kernel_rfl) Z<|go h λ_ h=>?_;obtain ⟨Ks1,es1,ws1,h,ks1⟩:=Bq h;refine T.join (S:=Unit) (G:=Unit) (λs1=>Ks1 s1=Nn q) (λs1 gh=>True) (λs1 gh=>[]) (λs1 gh=>[]) (λs1 gh h hg=>?_) ?_
 ·clear ks1;subst es1;exact gz h
 refine go h λ_ h=>?_;refine tU h (λs4=>[(8,I s4),(7,I (s.length:Int)),(0,eL M6.c s),(1,.fn (.func 60) [.fp ((cL<|cL M5.c) f0) 0,.fp ((cL ai.c) f1) 0])]) (λs4=>[]) λs4 ws4 h=>?_;refine go h λ_ h=>?_;refine jH ?_;refine jN Z h (λq6 h=>?_) λq6 h=>?_
 ·refine go h λ_ h=>?_;refine gs h λ_ h=>?_;refine oC h (λ_=>mG _ _ _) Z Z Z Z λv8 _ h=>?_;refine gi h (λ_ q9 h=>?_) λ_ q9 h=>?_
  ·refine go h λ_ h=>?_;refine lX h λh=>?_;obtain rfl:=M4 h;replace h:=congrArg Nn (show _=_ from ks1);exact gz h
  refine go h λ_ h=>?_;exact lE h Nh
 refine jM<|lX h λh=>?_
 cases h
 exact ⟨(),(),ks1,trivial,Nh⟩
theorem cE (s:List M6) (zI:List<|List M5) (del1:List ai) (gw:Bool) (aI:Nat) (hgw:gw=Nk->s=[]) {q} (h:aB s zI del1=Nn q):bP Nr 58 [hS gw 0 aI 2 s.length,.fn (.func 60) [.fp ((cL<|cL M5.c) zI) 0,.fp ((cL ai.c) del1) 0]] [bE gw aI 2 27 (s.map M6.c)] (CP 2 27 (λx=>x) q.length (q.map M6.c) 0 []):=by
 refine bP.mkS func58 Z (by kernel_rfl) Z (by kernel_rfl) (e0:=ak [(0,hS gw 0 aI 2 s.length),(1,.fn (.func 60) [.fp ((cL<|cL M5.c) zI) 0,.fp ((cL ai.c) del1) 0])]) (MZ Z<|MZ Z wkN)<|go h λ_ h=>?_;refine jB h λv1 cv1 h=>oA (EvA.callT Z Z (cK s zI del1 cv1) (.cons (Fz.own (g:=gw) (ver:=aI) (l:=s) Z Z Z hgw M6.isF)<|.cons (qC Z) .nil) Z)<|go h λ_ h=>?_;refine Ng h (λ_ q2 h=>?_) λ_ q2 h=>?_
 ·refine go h λ_ h=>?_;obtain rfl:=M4 h
  repeat (first|refine lD ?_|refine lF ?_)
  exact ⟨ak [(4,hS gw 0 aI 2 s.length)],[bE gw aI 2 27 (s.map M6.c)],Nh,jQ (vs:=[hS gw 0 aI 2 s.length]) (.cons (.tmp Z) .nil) ⟨gw,aI,(wT hgw Z),Z,Z⟩⟩
 refine go h λ_ h=>?_;refine T.jF (G:=(Bool×Nat)) h (λs3 gh=>(gh.1=Nk->s3.1=[])) (λs3 gh=>[(5,I s3.2),(0,hS gh.1 0 gh.2 2 s3.1.length)]) (λs3 gh=>[bE gh.1 gh.2 2 27 (s3.1.map M6.c)]) (λs3 gh h n26=>?_) λs3 h=>?_
 ·obtain ⟨b25,u24⟩:=gh;refine go h λ_ h=>?_;refine jD h λg27 h=>?_;obtain rfl:=Ab n26 rfl g27;refine jD h λg28 h=>oN (M0.slhs Tryz.underlying52 Lh (l:=s3.2) (h:=(s3.1.length:Int)) Z (.yes Z) .no g28)<|oV (EvA.clearO (l:=s3.1) MB (zrC (λ_ _ h=>Ah h)<|zrC (λ_ _ h=>Ah h)<|zrE (zs:=[])) Z Z<|IW (l:=s3.1) g28 Z) ?_;refine go h λ_ h=>?_;refine jD h λg29 h=>oA (EvA.cutO (l:=(cpy s3.1 (0+s3.2.toNat) (SN ((s3.1.length:Int).toNat-s3.2.toNat) (Nj:M6))<|(s3.1.length:Int).toNat-s3.2.toNat)) (zl:=(0:Int)) (zh:=s3.2) (M0.slhs Tryz.underlying52 Lh (l:=(0:Int)) (h:=s3.2) Z .no (.yes Z) g29) Z (by simp [Ag]) g29)<|go h λ_ h=>?_;obtain rfl:=M4 h
  repeat (first|refine lD ?_|refine lF ?_)
  exact ⟨ak [(4,hS Nl 0 (u24+1) 2<|(((cpy s3.1 (0+s3.2.toNat) (SN ((s3.1.length:Int).toNat-s3.2.toNat) (Nj:M6))<|(s3.1.length:Int).toNat-s3.2.toNat).drop U.toNat).take<|s3.2.toNat-U.toNat).length)],[bE Nl (u24+1) 2 27 ((((cpy s3.1 (0+s3.2.toNat) (SN ((s3.1.length:Int).toNat-s3.2.toNat) (Nj:M6))<|(s3.1.length:Int).toNat-s3.2.toNat).drop U.toNat).take<|s3.2.toNat-U.toNat).map M6.c)],Nh,jQ (vs:=[hS Nl 0 (u24+1) 2 ((((cpy s3.1 (0+s3.2.toNat) (SN ((s3.1.length:Int).toNat-s3.2.toNat) (Nj:M6))<|(s3.1.length:Int).toNat-s3.2.toNat).drop U.toNat).take<|s3.2.toNat-U.toNat).length)]) (.cons (.tmp Z) .nil) ⟨Nl,u24+1,nofun,Z,Z⟩⟩
 refine go h λ_ h=>?_;refine tL h (gw,aI) (λs10 gh=>(gh.1=Nk->s10.1=[])) (λs10 gh=>[(6,I s10.2.1),(5,I s10.2.2),(0,hS gh.1 0 gh.2 2 s10.1.length),(1,.fn (.func 60) [.fp ((cL<|cL M5.c) zI) 0,.fp ((cL ai.c) del1) 0])]) (λs10 gh=>[bE gh.1 gh.2 2 27 (s10.1.map M6.c)]) hgw λs10 gh ws10 h n14=>?_;let d0:=(⟨(J s10.1 s10.2.1).From,(J s10.1 s10.2.1).Order⟩:M6);obtain ⟨b13,u12⟩:=gh;refine Ng h (λ_ q15 h=>?_) λ_ q15 h=>?_
 ·refine go h λ_ h=>?_;refine tJ h (λs16 gh=>[(5,I s16.2),(6,I s10.2.1),(0,hS Nl 0 gh 2 s16.1.length),(1,.fn (.func 60) [.fp ((cL<|cL M5.c) zI) 0,.fp ((cL ai.c) del1) 0])]) (λs16 gh=>[bE Nl gh 2 27 (s16.1.map M6.c)]) (λs16 u22 h=>?_) λs16 h=>?_
  ·refine go h λ_ h=>?_;obtain rfl:=M4 h;exact ⟨(s16.1,(s10.2.1+V),s16.2),(Nl,u22),Z,nofun,Nh⟩
  refine go h λ_ h=>?_;refine jD h λg17 h=>?_;obtain rfl:=Ab n14 rfl g17;refine go h λ_ h=>?_;refine oC h (λ_=>mG _ _ _) Z Z Z Z λv18 _ h=>?_;refine gi h (λ_ q19 h=>?_) λ_ q19 h=>?_
  ·refine go h λf h=>?_;obtain ⟨g20,_⟩:=f;refine oV (EvA.stO (g:=false) (l:=s10.1) (cs:=(M6.c<|J s10.1 s10.2.1)) d0 Lh Z Z Z nofun (bH Z g20) Z Z Z)<|go h λ_ h=>?_;obtain rfl:=M4 h;exact ⟨u12,trivial,qZ Z (.cons (.list (g:=false) (ver:=u12) (l:=(s10.1.set s10.2.2.toNat d0)) M6.isF) .nil)<|aj (.fz<|qC Z)<|aj (.fz<|qC Z)<|aj (.eqv (congrArg (hS Nl 0 u12 2) (by simp:s10.1.length=(s10.1.set s10.2.2.toNat d0).length))<|.hS (g:=false) (b:=0) (ver:=u12) (s:=2) (n:=(s10.1.set s10.2.2.toNat d0).length) Z)<|aj (.fnL<|.cons (.fz<|qC Z)<|.cons (.fz<|qC Z) .nil) bg⟩
  refine go h λ_ h=>?_;obtain rfl:=M4 h;exact ⟨u12,trivial,qZ Z (.cons (.list (g:=false) (ver:=u12) (l:=s10.1) M6.isF) .nil)<|aj (.fz<|qC Z)<|aj (.fz<|qC Z)<|aj (.hS (g:=false) (b:=0) (ver:=u12) (s:=2) (n:=s10.1.length) Z)<|aj (.fnL<|.cons (.fz<|qC Z)<|.cons (.fz<|qC Z) .nil) bg⟩
 refine jM<|lX h λh=>?_
 cases h
 exact ⟨(b13,u12),n14,Nh⟩
theorem nO (p:List<|List M5) (m:List ai) {q} (h:dZ p m=Nn q):aD Nr 23 [eL (cL M5.c) p,eL ai.c m] (eL M6.c q):=by
 refine pM func23 Z (by kernel_rfl) Z<|go h λ_ h=>?_;refine eF Z Z Z<|eF Z Z Z ?_;refine go h λ_ h=>?_;refine gs h λ_ h=>?_;refine oC h (λ_=>nK _) Z Z Z Z λv1 _ h=>(go h λ_ h=>?_);refine TO.jB h 4 (λs2=>[(12,Bo s2),(3,.fp ((cL ai.c) m) 0),(2,.fp ((cL<|cL M5.c) p) 0)]) (λs2=>[]) (λs2 q3 h js2=>?_) (λs2 q3 h js2=>?_) λs2 h=>?_
 ·exact gj h js2
 ·refine go h λ_ h=>?_;refine jB h λv4 cv4 h=>gN Z q3 (M0.call Z Z Z (qg m cv4) Z) ?_;exact gj h js2
 refine gi h (λ_ q5 h=>?_) λ_ q5 h=>?_
 ·refine go h λ_ h=>?_;obtain rfl:=M4 h
  repeat (first|refine lD ?_|refine lF ?_)
  exact jQ (vs:=[.nil]) (.cons (.tmp Z) .nil) .nil0
 refine go h λ_ h=>?_;refine jB h λv6 cv6 h=>?_;refine oG Z Z Z ((wJ p cv6).own Z (pG M6.isF) nB 0 Z) λg7 v8 n9=>?_;refine oN (M0.mkfn [.fp ((cL<|cL M5.c) p) 0,.fp ((cL ai.c) m) 0] Z Z)<|jB h λv10 cv10 h=>?_;refine oGW Z Z (cE v6 p m g7 v8 (λx=>SR<|n9 x) cv10) Z (.cons (kI Z)<|.cons (.pF Z) .nil) (pG M6.isF) (pG M6.isF) nB λg11 v12 n13=>?_;exact gf h

theorem yt {q} (h:iD=Nn q):aD Nr 193 [] (eL cS q):=by
 refine aD.mkT func193 Z (by kernel_rfl) Z (by kernel_rfl) (e0:=ak []) wkN<|jI ?_;refine go h λ_ h=>?_;refine oN (M0.mkF (c:=cS) ([(⟨#[120,61,49,59,97,61,121,124,121,61,49,59,97,61,120]⟩:BA),(⟨#[120,61,49,59,102,101,110,99,101,59,97,61,121,124,121,61,49,59,102,101,110,99,101,59,97,61,120]⟩:BA),(⟨#[120,61,49,59,121,61,49,124,97,61,121,59,98,61,120]⟩:BA),(⟨#[120,61,49,59,121,61,49,124,97,61,121,59,102,101,110,99,101,59,98,61,120]⟩:BA),(⟨#[120,61,49,59,102,101,110,99,101,59,121,61,49,124,97,61,121,59,98,61,120]⟩:BA),(⟨#[97,61,120,59,121,61,49,124,97,61,121,59,120,61,49]⟩:BA),(⟨#[97,61,120,59,121,61,97,124,97,61,121,59,120,61,97]⟩:BA),(⟨#[120,61,49,124,120,61,50,124,97,61,120,59,98,61,120]⟩:BA),(⟨#[120,61,49,124,121,61,49,124,97,61,120,59,98,61,121,124,97,61,121,59,98,61,120]⟩:BA),(⟨#[120,61,49,124,97,61,120,59,121,61,49,124,97,61,121,59,98,61,120]⟩:BA),(⟨#[120,61,49,124,121,61,49,124,97,61,120,59,98,61,121]⟩:BA),(⟨#[97,61,120,58,49,124,97,61,120,58,50,124,120,61,51]⟩:BA),(⟨#[120,61,49,59,97,61,120,59,98,61,121,124,121,61,49,59,97,61,121,59,98,61,120]⟩:BA),(⟨#[120,61,50,59,121,61,49,124,121,61,50,59,120,61,49]⟩:BA),(⟨#[97,61,120,58,49,59,98,61,121,124,97,61,121,58,49,59,98,61,120]⟩:BA),(⟨#[120,61,49,59,120,61,50,124,97,61,120,59,98,61,120]⟩:BA),(⟨#[120,61,49,59,121,61,49,59,97,61,122,124,122,61,49,59,97,61,121,59,98,61,120]⟩:BA),(⟨#[97,61,120,58,49,124,98,61,120,58,49]⟩:BA),(⟨#[102,101,110,99,101]⟩:BA),(⟨#[]⟩:BA),(⟨#[120,61,49,59,97,61,121,124,121,61,49,59,102,101,110,99,101,59,97,61,120]⟩:BA)]:List BA) [[St (⟨#[120,61,49,59,97,61,121,124,121,61,49,59,97,61,120]⟩:BA)],[St (⟨#[120,61,49,59,102,101,110,99,101,59,97,61,121,124,121,61,49,59,102,101,110,99,101,59,97,61,120]⟩:BA)],[St (⟨#[120,61,49,59,121,61,49,124,97,61,121,59,98,61,120]⟩:BA)],[St (⟨#[120,61,49,59,121,61,49,124,97,61,121,59,102,101,110,99,101,59,98,61,120]⟩:BA)],[St (⟨#[120,61,49,59,102,101,110,99,101,59,121,61,49,124,97,61,121,59,98,61,120]⟩:BA)],[St (⟨#[97,61,120,59,121,61,49,124,97,61,121,59,120,61,49]⟩:BA)],[St (⟨#[97,61,120,59,121,61,97,124,97,61,121,59,120,61,97]⟩:BA)],[St (⟨#[120,61,49,124,120,61,50,124,97,61,120,59,98,61,120]⟩:BA)],[St (⟨#[120,61,49,124,121,61,49,124,97,61,120,59,98,61,121,124,97,61,121,59,98,61,120]⟩:BA)],[St (⟨#[120,61,49,124,97,61,120,59,121,61,49,124,97,61,121,59,98,61,120]⟩:BA)],[St (⟨#[120,61,49,124,121,61,49,124,97,61,120,59,98,61,121]⟩:BA)],[St (⟨#[97,61,120,58,49,124,97,61,120,58,50,124,120,61,51]⟩:BA)],[St (⟨#[120,61,49,59,97,61,120,59,98,61,121,124,121,61,49,59,97,61,121,59,98,61,120]⟩:BA)],[St (⟨#[120,61,50,59,121,61,49,124,121,61,50,59,120,61,49]⟩:BA)],[St (⟨#[97,61,120,58,49,59,98,61,121,124,97,61,121,58,49,59,98,61,120]⟩:BA)],[St (⟨#[120,61,49,59,120,61,50,124,97,61,120,59,98,61,120]⟩:BA)],[St (⟨#[120,61,49,59,121,61,49,59,97,61,122,124,122,61,49,59,97,61,121,59,98,61,120]⟩:BA)],[St (⟨#[97,61,120,58,49,124,98,61,120,58,49]⟩:BA)],[St (⟨#[102,101,110,99,101]⟩:BA)],[St (⟨#[]⟩:BA)],[St (⟨#[120,61,49,59,97,61,121,124,121,61,49,59,102,101,110,99,101,59,97,61,120]⟩:BA)]] Kl Z Z Z qD qD Z) ?_;exact gz h
theorem uj (s:BA) (c:Int) {q} (h:l8 s c=some q):aD Tryz.prog 229 [St s,Y c] (eL cS q):=by
 refine pM Tryz.func229 Z (by kernel_rfl) Z<|go h λ_ h=>?_;refine oA (EvA.mkO (c:=cS) ([]:List BA) [] Kl Z Z Z qD Z Z)<|go h λ_ h=>?_;refine tJ h (λs1 gh=>[(5,hS false 0 gh 1 s1.length)]) (λs1 gh=>[bE false gh 1 9 (s1.map cS)]) (λs1 u19 h=>?_) λs1 h=>?_
 ·exact gf h
 refine go h λ_ h=>?_;refine tT h 0 (λs5 gh=>[(7,I s5.2.1),(6,I s5.2.2),(5,hS false 0 gh 1 s5.1.length),(0,St s),(1,Y c)]) (λs5 gh=>[bE false gh 1 9 (s5.1.map cS)]) λs5 u7 ws5 h=>?_;refine Ng h (λ_ q8 h=>?_) λ_ q8 h=>?_
 ·refine go h λ_ h=>?_;refine tJ h (λs9 gh=>[(6,I s9.2),(5,hS false 0 gh 1 s9.1.length),(7,I s5.2.1),(0,St s),(1,Y c)]) (λs9 gh=>[bE false gh 1 9 (s9.1.map cS)]) (λs9 u17 h=>?_) λs9 h=>?_
  ·refine go h λ_ h=>?_;obtain rfl:=M4 h;exact ⟨(s9.1,(s5.2.1+V),s9.2),u17,Z,trivial,Nh⟩
  refine go h λ_ h=>?_;refine TO.jB h 6 (λs10=>[(25,Bo s10),(7,I s5.2.1),(6,I s5.2.2),(5,hS false 0 u7 1 s5.1.length),(0,St s),(1,Y c)]) (λs10=>[bE false u7 1 9 (s5.1.map cS)]) (λs10 q11 h js10=>?_) (λs10 q11 h js10=>?_) λs10 h=>?_
  ·exact gj h js10
  ·exact gj h js10
  refine gi h (λ_ q13 h=>?_) λ_ q13 h=>?_
  ·refine gk h λ_ _ h=>?_
   cases h
   exact ⟨u7+1,trivial,Nh⟩
  refine go h λ_ h=>?_
  cases h
  exact ⟨u7,trivial,Nh⟩
 refine jM<|lX h λh=>?_
 cases h
 exact ⟨u7,trivial,Nh⟩
theorem cH (s:BA) (at_:Int) (from_:Int) (most:Int) {q} (h:bQ s at_ from_ most=some q):aD Tryz.prog 275 [St s,I at_,Y from_,I most] (I q):=by
 refine pM Tryz.func275 Z (by kernel_rfl) Z<|go h λ_ h=>?_;refine gs h λ_ h=>?_;refine TO.jB h 6 (λs1=>[(19,Bo s1),(0,St s),(1,I at_),(2,Y from_),(3,I most)]) (λs1=>[]) (λs1 q2 h js1=>?_) (λs1 q2 h js1=>?_) λs1 h=>?_
 ·exact gj h js1
 ·exact gj h js1
 refine go h λ_ h=>?_;refine TO.jB h 9 (λs4=>[(29,Bo s4),(0,St s),(1,I at_),(2,Y from_)]) (λs4=>[]) (λs4 q5 h js4=>?_) (λs4 q5 h js4=>?_) λs4 h=>?_
 ·exact gj h js4
 ·exact gj h js4
 refine gi h (λ_ q9 h=>?_) λ_ q9 h=>?_
 ·exact gz h
 exact gz h
theorem yu (s:BA) {q} (h:nu s=some q):aD Tryz.prog 247 [St s] (.agg<|M5.c q):=by
 refine pM Tryz.func247 Z (by kernel_rfl) Z<|go h λ_ h=>?_;refine Ng h (λ_ q1 h=>?_) λ_ q1 h=>?_
 ·exact gf h
 refine go h λ_ h=>?_;refine oC h (λ_=>cH _ _ _ _) Z Z Z Z λv2 _ h=>(go h λ_ h=>?_);refine oC h (λ_=>cH _ _ _ _) Z Z Z Z λv3 _ h=>(go h λ_ h=>?_);refine gs h λ_ h=>?_;refine TO.jB h 4 (λs4=>[(18,Bo s4),(4,I v3),(3,I v2),(2,.hp 0 0 4 0 0),(0,St s)]) (λs4=>[some ⟨0,4,79,[[I U,I U,I U,I U]]⟩]) (λs4 q5 h js4=>?_) (λs4 q5 h js4=>?_) λs4 h=>?_
 ·exact gj h js4
 ·exact gj h js4
 refine gi h (λ_ q6 h=>?_) λ_ q6 h=>?_
 ·refine go h λ_ h=>?_;refine oC h (λ_=>cH _ _ _ _) Z Z Z Z λv7 _ h=>?_;exact gf h
 refine go h λ_ h=>?_;refine gs h λ_ h=>?_;refine TO.jB h 4 (λs8=>[(29,Bo s8),(4,I v3),(3,I v2),(2,.hp 0 0 4 0 0),(0,St s)]) (λs8=>[some ⟨0,4,79,[[I U,I U,I U,I U]]⟩]) (λs8 q9 h js8=>?_) (λs8 q9 h js8=>?_) λs8 h=>?_
 ·exact gj h js8
 ·exact gj h js8
 refine gi h (λ_ q10 h=>?_) λ_ q10 h=>?_
 ·refine go h λ_ h=>?_;refine oC h (λ_=>cH _ _ _ _) Z Z Z Z λv11 _ h=>(go h λ_ h=>?_);refine oC h (λ_=>cH _ _ _ _) Z Z Z Z λv12 _ h=>?_;exact gf h
 refine go h λ_ h=>?_;refine gs h λ_ h=>?_;refine TO.jB h 4 (λs13=>[(42,Bo s13),(4,I v3),(2,.hp 0 0 4 0 0),(0,St s)]) (λs13=>[some ⟨0,4,79,[[I U,I U,I U,I U]]⟩]) (λs13 q14 h js13=>?_) (λs13 q14 h js13=>?_) λs13 h=>?_
 ·refine go h λ_ h=>?_;refine jB h λv15 cv15 h=>gN Z q14 (M0.call Z Z Z (cH s (2:Int) (97:Int) (2:Int) cv15) Z) ?_;exact gj h js13
 ·exact gj h js13
 refine gi h (λ_ q16 h=>?_) λ_ q16 h=>?_
 ·refine go h λ_ h=>?_;refine oC h (λ_=>cH _ _ _ _) Z Z Z Z λv17 _ h=>?_;exact gf h
 refine go h λ_ h=>?_;refine oC h (λ_=>cH _ _ _ _) Z Z Z Z λv18 _ h=>?_;exact gf h
theorem wK (p:List<|List M5) {q} (h:kD p=some q):aD Tryz.prog 248 [eL (cL M5.c) p] (St q):=by
 refine pM Tryz.func248 Z (by kernel_rfl) Z<|go h λ_ h=>?_;refine T.jU h (λs1=>[(3,St s1)]) (λs1=>[]) (λs1 h=>?_) λs1 h=>?_
 ·exact gz h
 refine go h λ_ h=>?_;refine tU h (λs4=>[(4,I s4.1),(3,St s4.2),(0,eL (cL M5.c) p)]) (λs4=>[]) λs4 ws4 h=>?_;refine Ng h (λ_ q6 h=>?_) λ_ q6 h=>?_
 ·refine go h λ_ h=>?_;refine T.jU h (λs7=>[(3,St s7),(4,I s4.1),(0,eL (cL M5.c) p)]) (λs7=>[]) (λs7 h=>?_) λs7 h=>?_
  ·refine go h λ_ h=>?_;exact lE h Nh
  refine go h λ_ h=>?_;refine T.jU h (λs8=>[(3,St s8),(4,I s4.1),(0,eL (cL M5.c) p)]) (λs8=>[]) (λs8 h=>?_) λs8 h=>?_
  ·refine go h λ_ h=>?_;refine tU h (λs13=>[(5,I s13.1),(3,St s13.2),(4,I s4.1),(0,eL (cL M5.c) p)]) (λs13=>[]) λs13 ws13 h=>?_;refine gs h λf h=>?_;obtain ⟨g15,_⟩:=f;refine jN Z h (λq16 h=>?_) λq16 h=>?_
   ·refine go h λ_ h=>?_;refine gs h λ_ h=>?_;refine T.jU h (λs17=>[(3,St s17),(5,I s13.1),(4,I s4.1),(0,eL (cL M5.c) p)]) (λs17=>[]) (λs17 h=>?_) λs17 h=>?_
    ·refine go h λ_ h=>?_;refine oC h (λ_=>zE _) Z Z Z Z λv21 _ h=>(go h λ_ h=>?_);exact lE h Nh
    refine gi h (λ_ q18 h=>?_) λ_ q18 h=>?_
    ·refine go h λ_ h=>?_
     cases h
     exact ⟨(),trivial,Nh⟩
    refine go h λ_ h=>?_
    cases h
    exact ⟨(),trivial,Nh⟩
   refine jM<|lX h λh=>?_
   cases h
   exact ⟨(),trivial,Nh⟩
  refine gi h (λ_ q9 h=>?_) λ_ q9 h=>?_
  ·refine go h λ_ h=>?_
   cases h
   exact ⟨(),trivial,Nh⟩
  refine go h λ_ h=>?_
  cases h
  exact ⟨(),trivial,Nh⟩
 refine jM<|lX h λh=>?_
 cases h
 exact ⟨(),trivial,Nh⟩
theorem nP (text:BA) {q} (h:bJ text=some q):aD Tryz.prog 187 [St text] (.tup [eL (cL M5.c) q.1,Bo q.2]):=by
 refine pM Tryz.func187 Z (by kernel_rfl) Z<|go h λ_ h=>?_;refine oA (EvA.mkO (c:=(cL M5.c)) ([]:List<|List M5) [] vK Z Z Z qD Z Z)<|go h λ_ h=>?_;refine oC h (λ_=>uj _ _) Z Z Z Z λv1 _ h=>(go h λ_ h=>?_);refine tJ h (λs2 gh=>[(4,hS false 0 gh 1 s2.length),(0,St text)]) (λs2 gh=>[bE false gh 1 73 (s2.map<|cL M5.c)]) (λs2 u35 h=>?_) λs2 h=>?_
 ·refine gs h λ_ h=>?_;refine jB h λv36 cv36 h=>oA (EvA.callT Z Z (jk s2 cv36) (.cons (Fz.own (g:=false) (ver:=u35) (l:=s2) Z Z Z nofun qD) .nil) Z)<|go h λ_ h=>?_;refine TO.jB h 5 (λs37=>[(66,Bo s37),(4,hS false 0 u35 1 s2.length)]) (λs37=>[bE false u35 1 73 (s2.map<|cL M5.c)]) (λs37 q38 h js37=>?_) (λs37 q38 h js37=>?_) λs37 h=>?_
  ·exact gj h js37
  ·refine go h λ_ h=>?_;refine jB h λv39 cv39 h=>gA Z q38 (EvA.callT Z Z (wK s2 cv39) (.cons (Fz.own (g:=false) (ver:=u35) (l:=s2) Z Z Z nofun qD) .nil) Z) ?_;exact gj h js37
  refine gi h (λ_ q40 h=>?_) λ_ q40 h=>?_
  ·refine go h λ_ h=>?_;refine oN (M0.mkF (c:=(cL M5.c)) ([]:List<|List M5) [] vK Z Z Z qD qD Z)<|go h λ_ h=>?_;obtain rfl:=M4 h
   repeat (first|refine lD ?_|refine lF ?_)
   exact jQ (vs:=[eL (cL M5.c) ([]:List<|List M5),Bo false]) (.cons (.tmp Z)<|.cons (.tmp Z) .nil)<|.tupL<|.cons (qC Z)<|.cons (qC Z) .nil
  refine go h λ_ h=>?_;obtain rfl:=M4 h
  repeat (first|refine lD ?_|refine lF ?_)
  exact jQ (vs:=[hS false 0 u35 1 s2.length,Bo true]) (.cons (.tmp Z)<|.cons (.tmp Z) .nil)<|.tupL<|.cons (Fz.own (g:=false) (ver:=u35) (l:=s2) Z Z Z nofun qD)<|.cons (qC Z) .nil
 refine go h λ_ h=>?_;refine tT h 0 (λs6 gh=>[(6,I s6.2),(5,eL cS v1),(4,hS false 0 gh 1 s6.1.length),(0,St text)]) (λs6 gh=>[bE false gh 1 73 (s6.1.map<|cL M5.c)]) λs6 u8 ws6 h=>?_;refine gs h λ_ h=>?_;refine TO.jB h 3 (λs9=>[(20,Bo s9),(6,I s6.2),(5,eL cS v1),(4,hS false 0 u8 1 s6.1.length),(0,St text)]) (λs9=>[bE false u8 1 73 (s6.1.map<|cL M5.c)]) (λs9 q10 h js9=>?_) (λs9 q10 h js9=>?_) λs9 h=>?_
 ·exact gj h js9
 ·exact gj h js9
 refine gi h (λ_ q11 h=>?_) λ_ q11 h=>?_
 ·refine go h λ_ h=>?_;refine tJ h (λs12 gh=>[(4,hS false 0 gh 1 s12.length),(6,I s6.2),(5,eL cS v1),(0,St text)]) (λs12 gh=>[bE false gh 1 73 (s12.map<|cL M5.c)]) (λs12 u33 h=>?_) λs12 h=>?_
  ·refine go h λ_ h=>?_;obtain rfl:=M4 h;exact ⟨(s12,(s6.2+V)),u33,Z,trivial,Nh⟩
  refine go h λ_ h=>?_;refine oA (EvA.mkO (c:=M5.c) ([]:List M5) [] Bu Z Z Z qD Z Z)<|go h λf h=>?_;obtain ⟨g13,_⟩:=f;refine oC h (λ_=>uj _ _) Z Z Z Z λv14 _ h=>(go h λ_ h=>?_);refine tJ h (λs15 gh=>[(7,hS false 1 gh 4 s15.length),(6,I s6.2),(5,eL cS v1),(4,hS false 0 u8 1 s6.1.length),(0,St text)]) (λs15 gh=>[bE false u8 1 73 (s6.1.map<|cL M5.c),bE false gh 4 79 (s15.map M5.c)]) (λs15 u31 h=>?_) λs15 h=>?_
  ·refine go h λ_ h=>?_;refine oA (EvA.mkR [[hS false 1 u31 4 s15.length]] vK Z Z Z Z)<|jL h λg32 h=>oA (EvA.appR (g:=false) (rows:=s6.1.map<|cL M5.c) (rows':=s6.1.map (cL M5.c)++[[hS false 1 u31 4 s15.length]]) (n':=s6.1.length+1) vK (by kernel_rfl) Z Z (by simp) nofun (dN.raw (rows:=[[hS false 1 u31 4 s15.length]]) Z Z Z) g32 Z Z) ?_;refine go h λ_ h=>?_;obtain rfl:=M4 h;exact ⟨u8+1,trivial,qZ Z (.cons (.snoc qD<|.cons (.cons (.fz<|Fz.own (g:=false) (ver:=u31) (l:=s15) Z Z Z nofun M5.isF) .nil) .nil) .nil)<|aj (.eqv (congrArg (hS false 0 (u8+1) 1) (by simp:(s6.1.length+1)=(s6.1++[s15]).length))<|.hS (g:=false) (b:=0) (ver:=u8+1) (s:=1) (n:=(s6.1++[s15]).length) Z)<|aj (.fz<|qC Z)<|aj (.fz<|qC Z)<|aj (.fz<|qC Z) bg⟩
  refine go h λ_ h=>?_;refine tT h 0 (λs19 gh=>[(9,I s19.2),(8,eL cS v14),(7,hS false 1 gh 4 s19.1.length),(6,I s6.2),(5,eL cS v1),(4,hS false 0 u8 1 s6.1.length),(0,St text)]) (λs19 gh=>[bE false u8 1 73 (s6.1.map<|cL M5.c),bE false gh 4 79 (s19.1.map M5.c)]) λs19 u21 ws19 h=>?_;refine gs h λ_ h=>?_;refine TO.jB h 3 (λs22=>[(36,Bo s22),(9,I s19.2),(8,eL cS v14),(7,hS false 1 u21 4 s19.1.length),(6,I s6.2),(5,eL cS v1),(4,hS false 0 u8 1 s6.1.length),(0,St text)]) (λs22=>[bE false u8 1 73 (s6.1.map<|cL M5.c),bE false u21 4 79 (s19.1.map M5.c)]) (λs22 q23 h js22=>?_) (λs22 q23 h js22=>?_) λs22 h=>?_
  ·exact gj h js22
  ·exact gj h js22
  refine go h λ_ h=>?_;refine TO.jB h 6 (λs24=>[(43,Bo s24),(9,I s19.2),(8,eL cS v14),(7,hS false 1 u21 4 s19.1.length),(6,I s6.2),(5,eL cS v1),(4,hS false 0 u8 1 s6.1.length),(0,St text)]) (λs24=>[bE false u8 1 73 (s6.1.map<|cL M5.c),bE false u21 4 79 (s19.1.map M5.c)]) (λs24 q25 h js24=>?_) (λs24 q25 h js24=>?_) λs24 h=>?_
  ·exact gj h js24
  ·exact gj h js24
  refine gi h (λ_ q26 h=>?_) λ_ q26 h=>?_
  ·refine go h λ_ h=>?_;refine gs h λ_ h=>?_;refine oC h (λ_=>yu _) Z Z Z Z λv28 _ h=>oN (M0.mkF (c:=M5.c) ([v28]:List M5) [(M5.c v28)] Bu Z Z Z qD M5.isF Z)<|go h λ_ h=>?_;obtain rfl:=M4 h;exact ⟨((s19.1++[v28]),(s19.2+V)),u21+1,Z,trivial,Nh⟩
  refine jM<|lX h λh=>?_
  cases h
  exact ⟨u21,trivial,Nh⟩
 refine jM<|lX h λh=>?_
 cases h
 exact ⟨u8,trivial,Nh⟩
theorem sM (r_:ah) (aI:Nat) {q} (h:kr r_=some q):f8 Tryz.prog 194 [.hp 0 aI 2 0 0] [some ⟨aI,2,157,[(ah.c r_)]⟩] (.agg<|M5.c q.2) [some ⟨aI,2,157,[(ah.c q.1)]⟩]:=by
 refine aM Tryz.func194 Z (by kernel_rfl) Z<|go h λ_ h=>?_;refine jB h λv1 cv1 h=>oA (EvA.call Z Z Z<|(aS (⟨r_.b,r_.p⟩:ah) (2:Int) aI cv1).one 0 Z (.cons (.hp Z)<|.cons (.pF Z) .nil) (au Z) (au Z) Z)<|go h λ_ h=>?_;refine gs h λ_ h=>?_;refine jB h λv2 cv2 h=>oA (EvA.call Z Z Z<|(aS (⟨v1.1.b,v1.1.p⟩:ah) (7:Int) aI cv2).one 0 Z (.cons (.hp Z)<|.cons (.pF Z) .nil) (au Z) (au Z) Z) ?_;refine gi h (λ_ q3 h=>?_) λ_ q3 h=>?_
 ·refine go h λ_ h=>?_;obtain rfl:=M4 h
  repeat (first|refine lD ?_|refine lF ?_)
  exact ⟨ak [(2,.fp (M5.c (⟨(4:Int),U,U,U⟩:M5)) 0)],[some ⟨aI,2,157,[(ah.c (⟨v2.1.b,v2.1.p⟩:ah))]⟩],Nh,jQ (vs:=[.agg (M5.c (⟨(4:Int),U,U,U⟩:M5))]) (.cons (.cellF (.agg<|M5.c (⟨(4:Int),U,U,U⟩:M5)) Ja Z Z) .nil) ⟨Z,Z⟩⟩
 refine gi h (λ_ q4 h=>?_) λ_ q4 h=>?_
 ·refine go h λ_ h=>?_;refine jB h λv5 cv5 h=>oA (EvA.call Z Z Z<|(aS (⟨v2.1.b,v2.1.p⟩:ah) (2:Int) aI cv5).one 0 Z (.cons (.hp Z)<|.cons (.pF Z) .nil) (au Z) (au Z) Z)<|go h λ_ h=>?_;obtain rfl:=M4 h
  repeat (first|refine lD ?_|refine lF ?_)
  exact ⟨ak [(2,.fp (M5.c (⟨(3:Int),v1.2,v5.2,U⟩:M5)) 0)],[some ⟨aI,2,157,[(ah.c (⟨v5.1.b,v5.1.p⟩:ah))]⟩],Nh,jQ (vs:=[.agg (M5.c (⟨(3:Int),v1.2,v5.2,U⟩:M5))]) (.cons (.cellF (.agg<|M5.c (⟨(3:Int),v1.2,v5.2,U⟩:M5)) Ja Z Z) .nil) ⟨Z,Z⟩⟩
 refine gi h (λ_ q6 h=>?_) λ_ q6 h=>?_
 ·refine go h λ_ h=>?_;refine jB h λv7 cv7 h=>oA (EvA.call Z Z Z<|(aS (⟨v2.1.b,v2.1.p⟩:ah) (2:Int) aI cv7).one 0 Z (.cons (.hp Z)<|.cons (.pF Z) .nil) (au Z) (au Z) Z)<|go h λ_ h=>?_;refine jB h λv8 cv8 h=>oA (EvA.call Z Z Z<|(aS (⟨v7.1.b,v7.1.p⟩:ah) (3:Int) aI cv8).one 0 Z (.cons (.hp Z)<|.cons (.pF Z) .nil) (au Z) (au Z) Z)<|go h λ_ h=>?_;obtain rfl:=M4 h
  repeat (first|refine lD ?_|refine lF ?_)
  exact ⟨ak [(2,.fp (M5.c (⟨(5:Int),v1.2,v7.2,(V+v8.2)⟩:M5)) 0)],[some ⟨aI,2,157,[(ah.c (⟨v8.1.b,v8.1.p⟩:ah))]⟩],Nh,jQ (vs:=[.agg (M5.c (⟨(5:Int),v1.2,v7.2,(V+v8.2)⟩:M5))]) (.cons (.cellF (.agg<|M5.c (⟨(5:Int),v1.2,v7.2,(V+v8.2)⟩:M5)) Ja Z Z) .nil) ⟨Z,Z⟩⟩
 refine T.jU h (λs10=>[(26,Bo s10),(3,I v1.2),(2,.hp 1 0 4 0 0),(0,.hp 0 aI 2 0 0)]) (λs10=>[some ⟨aI,2,157,[(ah.c v2.1)]⟩,some ⟨0,4,79,[[I U,I U,I U,I U]]⟩]) (λs10 h=>?_) λs10 h=>?_
 ·refine jN Z h (λq12 h=>?_) λq12 h=>?_
  ·refine go h λ_ h=>?_;refine jB h λv13 cv13 h=>oA (EvA.call Z Z Z<|(aS (⟨v2.1.b,v2.1.p⟩:ah) (3:Int) aI cv13).one 0 Z (.cons (.hp Z)<|.cons (.pF Z) .nil) (au Z) (au Z) Z)<|go h λ_ h=>?_;obtain rfl:=M4 h
   repeat (first|refine lD ?_|refine lF ?_)
   exact ⟨ak [(2,.fp (M5.c (⟨(2:Int),v1.2,U,(V+v13.2)⟩:M5)) 0)],[some ⟨aI,2,157,[(ah.c (⟨v13.1.b,v13.1.p⟩:ah))]⟩],Nh,jQ (vs:=[.agg (M5.c (⟨(2:Int),v1.2,U,(V+v13.2)⟩:M5))]) (.cons (.cellF (.agg<|M5.c (⟨(2:Int),v1.2,U,(V+v13.2)⟩:M5)) Ja Z Z) .nil) ⟨Z,Z⟩⟩
  refine go h λ_ h=>?_;refine jB h λv15 cv15 h=>oA (EvA.call Z Z Z<|(aS (⟨v2.1.b,v2.1.p⟩:ah) (2:Int) aI cv15).one 0 Z (.cons (.hp Z)<|.cons (.pF Z) .nil) (au Z) (au Z) Z)<|go h λ_ h=>?_;obtain rfl:=M4 h
  repeat (first|refine lD ?_|refine lF ?_)
  exact ⟨ak [(2,.fp (M5.c (⟨V,v1.2,v15.2,U⟩:M5)) 0)],[some ⟨aI,2,157,[(ah.c (⟨v15.1.b,v15.1.p⟩:ah))]⟩],Nh,jQ (vs:=[.agg (M5.c (⟨V,v1.2,v15.2,U⟩:M5))]) (.cons (.cellF (.agg<|M5.c (⟨V,v1.2,v15.2,U⟩:M5)) Ja Z Z) .nil) ⟨Z,Z⟩⟩
 refine gi h (λ_ q11 h=>?_) λ_ q11 h=>?_
 ·refine go h λ_ h=>?_
  cases h
  exact ⟨(),trivial,Nh⟩
 refine go h λ_ h=>?_
 cases h
 exact ⟨(),trivial,Nh⟩
theorem zG (r_:ah) (aI:Nat) {q} (h:oP r_=some q):f8 Tryz.prog 124 [.hp 0 aI 2 0 0] [some ⟨aI,2,157,[(ah.c r_)]⟩] (eL (cL M5.c) q.2) [some ⟨aI,2,157,[(ah.c q.1)]⟩]:=by
 refine aM Tryz.func124 Z (by kernel_rfl) Z<|go h λ_ h=>?_;refine oC h (λ_=>yt) Z Z Z Z λv1 _ h=>(go h λ_ h=>?_);obtain ⟨Ks2,es2,ws2,h,ks2⟩:=Bq h;refine T.join (S:=(LI)×Int) (G:=Unit) (λs2=>Ks2 s2=some q) (λs2 gh=>True) (λs2 gh=>[(0,.hp 0 aI 2 0 0)]) (λs2 gh=>[some ⟨aI,2,157,[[eL cY s2.1,I s2.2]]⟩]) (λs2 gh h hg=>?_) ?_
 ·clear ks2;subst es2;refine go h λ_ h=>?_;refine oA (EvA.mkO (c:=(cL M5.c)) ([]:List<|List M5) [] vK Z Z Z qD Z Z)<|go h λ_ h=>?_;refine tJ h (λs9 gh=>[(6,hS false 1 gh 1 s9.2.2.length),(0,.hp 0 aI 2 0 0)]) (λs9 gh=>[some ⟨aI,2,157,[[eL cY s9.1,I s9.2.1]]⟩,bE false gh 1 73 (s9.2.2.map<|cL M5.c)]) (λs9 u35 h=>?_) λs9 h=>?_
  ·refine gs h λ_ h=>?_;refine jB h λv36 cv36 h=>oA (EvA.callT Z Z (jk s9.2.2 cv36) (.cons (Fz.own (g:=false) (ver:=u35) (l:=s9.2.2) Z Z Z nofun qD) .nil) Z) ?_;refine gi h (λ_ q37 h=>?_) λ_ q37 h=>?_
   ·refine go h λ_ h=>?_;obtain rfl:=M4 h
    repeat (first|refine lD ?_|refine lF ?_)
    exact ⟨ak [(2,eL (cL M5.c) s9.2.2)],[some ⟨aI,2,157,[(ah.c (⟨s9.1,s9.2.1⟩:ah))]⟩],qZ Z (.cons (.row<|.cons (.fz<|qC Z)<|.cons (.fz<|qC Z) .nil) .nil)<|aj (.fz<|Fz.own (g:=false) (ver:=u35) (l:=s9.2.2) Z Z Z nofun qD) bg,jQ (vs:=[eL (cL M5.c) s9.2.2]) (.cons (.tmp Z) .nil) ⟨Z,Z⟩⟩
   refine go h λ_ h=>?_;refine jB h λv38 cv38 h=>oA (EvA.call Z Z Z<|(sM (⟨s9.1,s9.2.1⟩:ah) aI cv38).one 0 Z (.cons (.hp Z) .nil) (au Z) (au Z) Z)<|oN (M0.mkF (c:=M5.c) ([v38.2]:List M5) [(M5.c v38.2)] Bu Z Z Z qD M5.isF Z) ?_;refine gk h λ_ _ h=>?_;obtain rfl:=M4 h
   repeat (first|refine lD ?_|refine lF ?_)
   exact ⟨ak [(2,eL (cL M5.c) ([([v38.2]:List M5)]:List<|List M5))],[some ⟨aI,2,157,[(ah.c (⟨v38.1.b,v38.1.p⟩:ah))]⟩],qZ Z (.cons (.row<|.cons (.fz<|qC Z)<|.cons (.fz<|qC Z) .nil) .nil)<|aj (.fz<|qC Z) bg,jQ (vs:=[eL (cL M5.c) ([([v38.2]:List M5)]:List<|List M5)]) (.cons (.tmp Z) .nil) ⟨Z,Z⟩⟩
  refine go h λ_ h=>?_;refine oN (M0.mkF (c:=cI) ([(2:Int),(3:Int),V]:LI) [[I (2:Int)],[I (3:Int)],[I V]] zy Z Z Z qD qD Z)<|jB h λv10 cv10 h=>oA (EvA.call Z Z Z<|(cm (⟨s2.1,s2.2⟩:ah) ([(2:Int),(3:Int),V]:LI) aI cv10).one 0 Z (.cons (.hp Z)<|.cons (.pF Z) .nil) (au Z) (au Z) Z) ?_;refine go h λ_ h=>?_;refine tT h 0 (λs14 gh=>[(7,I s14.2.2.2),(6,hS false 1 gh 1 s14.2.2.1.length),(0,.hp 0 aI 2 0 0)]) (λs14 gh=>[some ⟨aI,2,157,[[eL cY s14.1,I s14.2.1]]⟩,bE false gh 1 73 (s14.2.2.1.map<|cL M5.c)]) λs14 u16 ws14 h=>?_;refine Ng h (λ_ q17 h=>?_) λ_ q17 h=>?_
  ·refine go h λ_ h=>?_;refine tJ h (λs18 gh=>[(6,hS false 1 gh 1 s18.2.2.length),(7,I s14.2.2.2),(0,.hp 0 aI 2 0 0)]) (λs18 gh=>[some ⟨aI,2,157,[[eL cY s18.1,I s18.2.1]]⟩,bE false gh 1 73 (s18.2.2.map<|cL M5.c)]) (λs18 u33 h=>?_) λs18 h=>?_
   ·refine go h λ_ h=>?_;obtain rfl:=M4 h;exact ⟨(s18.1,s18.2.1,s18.2.2,(s14.2.2.2-V)),u33,Z,trivial,Nh⟩
   refine go h λ_ h=>?_;refine oA (EvA.mkO (c:=M5.c) ([]:List M5) [] Bu Z Z Z qD Z Z)<|go h λ_ h=>?_;refine tJ h (λs19 gh=>[(8,hS false 2 gh 4 s19.2.2.length),(7,I s14.2.2.2),(6,hS false 1 u16 1 s14.2.2.1.length),(0,.hp 0 aI 2 0 0)]) (λs19 gh=>[some ⟨aI,2,157,[[eL cY s19.1,I s19.2.1]]⟩,bE false u16 1 73 (s14.2.2.1.map<|cL M5.c),bE false gh 4 79 (s19.2.2.map M5.c)]) (λs19 u31 h=>?_) λs19 h=>?_
   ·refine go h λ_ h=>?_;refine oA (EvA.mkR [[hS false 2 u31 4 s19.2.2.length]] vK Z Z Z Z)<|jL h λg32 h=>oA (EvA.appR (g:=false) (rows:=s14.2.2.1.map<|cL M5.c) (rows':=s14.2.2.1.map (cL M5.c)++[[hS false 2 u31 4 s19.2.2.length]]) (n':=s14.2.2.1.length+1) vK (by kernel_rfl) Z Z (by simp) nofun (dN.raw (rows:=[[hS false 2 u31 4 s19.2.2.length]]) Z Z Z) g32 Z Z) ?_;refine go h λ_ h=>?_;obtain rfl:=M4 h;exact ⟨u16+1,trivial,qZ Z (.cons (.row<|.cons (.fz<|qC Z)<|.cons (.fz<|qC Z) .nil)<|.cons (.snoc qD<|.cons (.cons (.fz<|Fz.own (g:=false) (ver:=u31) (l:=s19.2.2) Z Z Z nofun M5.isF) .nil) .nil) .nil)<|aj (.eqv (congrArg (hS false 1 (u16+1) 1) (by simp:(s14.2.2.1.length+1)=(s14.2.2.1++[s19.2.2]).length))<|.hS (g:=false) (b:=1) (ver:=u16+1) (s:=1) (n:=(s14.2.2.1++[s19.2.2]).length) Z)<|aj (.fz<|qC Z)<|aj (.hp<|nlb Z) bg⟩
   refine go h λ_ h=>?_;refine oN (M0.mkF (c:=cI) ([(2:Int),V,(3:Int),(2:Int),U]:LI) [[I (2:Int)],[I V],[I (3:Int)],[I (2:Int)],[I U]] zy Z Z Z qD qD Z)<|jB h λv20 cv20 h=>oA (EvA.call Z Z Z<|(cm (⟨s14.1,s14.2.1⟩:ah) ([(2:Int),V,(3:Int),(2:Int),U]:LI) aI cv20).one 0 Z (.cons (.hp Z)<|.cons (.pF Z) .nil) (au Z) (au Z) Z) ?_;refine go h λ_ h=>?_;refine tT h 0 (λs24 gh=>[(9,I s24.2.2.2),(8,hS false 2 gh 4 s24.2.2.1.length),(7,I s14.2.2.2),(6,hS false 1 u16 1 s14.2.2.1.length),(0,.hp 0 aI 2 0 0)]) (λs24 gh=>[some ⟨aI,2,157,[[eL cY s24.1,I s24.2.1]]⟩,bE false u16 1 73 (s14.2.2.1.map<|cL M5.c),bE false gh 4 79 (s24.2.2.1.map M5.c)]) λs24 u26 ws24 h=>?_;refine Ng h (λ_ q27 h=>?_) λ_ q27 h=>?_
   ·refine go h λ_ h=>?_;refine gs h λ_ h=>?_;refine jB h λv28 cv28 h=>oA (EvA.call Z Z Z<|(sM (⟨s24.1,s24.2.1⟩:ah) aI cv28).one 0 Z (.cons (.hp Z) .nil) (au Z) (au Z) Z)<|oN (M0.mkF (c:=M5.c) ([v28.2]:List M5) [(M5.c v28.2)] Bu Z Z Z qD M5.isF Z) ?_;refine go h λ_ h=>?_;obtain rfl:=M4 h;exact ⟨(v28.1.b,v28.1.p,(s24.2.2.1++[v28.2]),(s24.2.2.2-V)),u26+1,Z,trivial,Nh⟩
   refine jM<|lX h λh=>?_
   cases h
   exact ⟨u26,trivial,Nh⟩
  refine jM<|lX h λh=>?_
  cases h
  exact ⟨u16,trivial,Nh⟩
 refine go h λ_ h=>?_;refine jB h λv3 cv3 h=>oA (EvA.call Z Z Z<|(aS (⟨r_.b,r_.p⟩:ah) (3:Int) aI cv3).one 0 Z (.cons (.hp Z)<|.cons (.pF Z) .nil) (au Z) (au Z) Z) ?_;refine gi h (λ_ q4 h=>?_) λ_ q4 h=>?_
 ·refine go h λ_ h=>?_;refine jB h λv5 cv5 h=>oA (EvA.call Z Z Z<|(aS (⟨v3.1.b,v3.1.p⟩:ah) (v1.length:Int) aI cv5).one 0 Z (.cons (.hp Z)<|.cons (.pF Z) .nil) (au Z) (au Z) Z)<|go h λ_ h=>?_;refine oC h (λ_=>nP _) Z Z Z Z λv7 _ h=>?_;refine gi h (λ_ q8 h=>?_) λ_ q8 h=>?_
  ·refine go h λ_ h=>?_;obtain rfl:=M4 h;replace h:=congrArg some (show _=_ from ks2);obtain rfl:=M4 h
   repeat (first|refine lD ?_|refine lF ?_)
   exact ⟨ak [(2,eL (cL M5.c) v7.1)],[some ⟨aI,2,157,[(ah.c (⟨v5.1.b,v5.1.p⟩:ah))]⟩],Nh,jQ (vs:=[eL (cL M5.c) v7.1]) (.cons (.tmp Z) .nil) ⟨Z,Z⟩⟩
  refine go h λ_ h=>?_;obtain rfl:=M4 h;exact ⟨(v5.1.b,v5.1.p),(),ks2,trivial,Nh⟩
 refine go h λ_ h=>?_;obtain rfl:=M4 h;exact ⟨(v3.1.b,v3.1.p),(),ks2,trivial,Nh⟩
theorem sN (p:List<|List M5) (loc:Int) (writes:Bool) {q} (h:ku p loc writes=some q):aD Tryz.prog 189 [eL (cL M5.c) p,I loc,Bo writes] (I q):=by
 refine pM Tryz.func189 Z (by kernel_rfl) Z<|go h λ_ h=>?_;refine T.jU h (λs1=>[(7,I s1)]) (λs1=>[]) (λs1 h=>?_) λs1 h=>?_
 ·exact gz h
 refine go h λ_ h=>?_;refine tU h (λs4=>[(8,I s4.1),(7,I s4.2),(0,eL (cL M5.c) p),(1,I loc),(2,Bo writes)]) (λs4=>[]) λs4 ws4 h=>?_;refine Ng h (λ_ q6 h=>?_) λ_ q6 h=>?_
 ·refine go h λ_ h=>?_;refine T.jU h (λs7=>[(8,I s4.1),(7,I s7),(0,eL (cL M5.c) p),(1,I loc),(2,Bo writes)]) (λs7=>[]) (λs7 h=>?_) λs7 h=>?_
  ·refine go h λ_ h=>?_;exact lE h Nh
  refine go h λ_ h=>?_;refine tU h (λs10=>[(9,I s10.1),(8,I s4.1),(7,I s10.2),(0,eL (cL M5.c) p),(1,I loc),(2,Bo writes)]) (λs10=>[]) λs10 ws10 h=>?_;refine gs h λf h=>?_;obtain ⟨g12,_⟩:=f;refine jN Z h (λq13 h=>?_) λq13 h=>?_
  ·refine go h λ_ h=>?_;refine T.jU h (λs14=>[(7,I s14),(9,I s10.1),(8,I s4.1),(0,eL (cL M5.c) p),(1,I loc),(2,Bo writes)]) (λs14=>[]) (λs14 h=>?_) λs14 h=>?_
   ·refine go h λ_ h=>?_;exact lE h Nh
   refine go h λ_ h=>?_;refine TO.jB h 14 (λs16=>[(51,Bo s16),(9,I s10.1),(8,I s4.1),(7,I s10.2),(0,eL (cL M5.c) p),(1,I loc),(2,Bo writes)]) (λs16=>[some ⟨0,4,79,[(M5.c<|J (J p s4.1) s10.1)]⟩]) (λs16 q17 h js16=>?_) (λs16 q17 h js16=>?_) λs16 h=>?_
   ·refine go h λ_ h=>?_;refine TO.jB h 3 (λs18=>[(42,Bo s18),(39,Bo writes),(38,Bo writes),(37,Bo<|((J (J p s4.1) s10.1).Loc)==loc),(10,.hp 0 0 4 0 0),(9,I s10.1),(8,I s4.1),(7,I s10.2),(0,eL (cL M5.c) p),(1,I loc),(2,Bo writes)]) (λs18=>[some ⟨0,4,79,[(M5.c<|J (J p s4.1) s10.1)]⟩]) (λs18 q19 h js18=>?_) (λs18 q19 h js18=>?_) λs18 h=>?_
    ·refine gA Z q19 (lh (.agg<|M5.c<|J (J p s4.1) s10.1) Ja Z Z Z)<|jB h λv20 cv20 h=>gN Z q19 (M0.call Z Z Z (xu (⟨(J (J p s4.1) s10.1).Op,(J (J p s4.1) s10.1).Loc,(J (J p s4.1) s10.1).Reg,(J (J p s4.1) s10.1).Val⟩:M5) cv20) Z)<|gN Z q17 (M0.pickT Z q19 (Bo v20) Z) ?_
     cases h
     exact js18 _ _ Nh
    ·refine go h λ_ h=>?_;refine gN Z q17 (M0.pickF Z q19 (Bo false) Z) ?_
     cases h
     exact js18 _ _ Nh
    refine go h λ_ h=>?_;refine TO.jB h 7 (λs21=>[(50,Bo s21),(43,Bo s18),(42,Bo s18),(39,Bo writes),(38,Bo writes),(37,Bo<|((J (J p s4.1) s10.1).Loc)==loc),(9,I s10.1),(8,I s4.1),(7,I s10.2),(0,eL (cL M5.c) p),(1,I loc),(2,Bo writes)]) (λs21=>[some ⟨0,4,79,[(M5.c<|J (J p s4.1) s10.1)]⟩]) (λs21 q22 h js21=>?_) (λs21 q22 h js21=>?_) λs21 h=>?_
    ·refine go h λ_ h=>?_;refine gN Z q17 (M0.pickT Z q22 (Bo true) Z) ?_
     cases h
     exact js21 _ _ Nh
    ·refine go h λ_ h=>?_;refine TO.jB h 3 (λs23=>[(49,Bo s23),(46,Bo<|!writes),(45,Bo<|!writes),(44,Bo writes),(43,Bo s18),(42,Bo s18),(39,Bo writes),(38,Bo writes),(37,Bo<|((J (J p s4.1) s10.1).Loc)==loc),(9,I s10.1),(8,I s4.1),(7,I s10.2),(0,eL (cL M5.c) p),(1,I loc),(2,Bo writes)]) (λs23=>[some ⟨0,4,79,[(M5.c<|J (J p s4.1) s10.1)]⟩]) (λs23 q24 h js23=>?_) (λs23 q24 h js23=>?_) λs23 h=>?_
     ·refine gA Z q24 (lh (.agg<|M5.c<|J (J p s4.1) s10.1) Ja Z Z Z)<|jB h λv25 cv25 h=>gN Z q24 (M0.call Z Z Z (yc (⟨(J (J p s4.1) s10.1).Op,(J (J p s4.1) s10.1).Loc,(J (J p s4.1) s10.1).Reg,(J (J p s4.1) s10.1).Val⟩:M5) cv25) Z)<|gN Z q22 (M0.pickT Z q24 (Bo v25) Z) ?_
      cases h
      exact js23 _ _ Nh
     ·refine go h λ_ h=>?_;refine gN Z q22 (M0.pickF Z q24 (Bo false) Z) ?_
      cases h
      exact js23 _ _ Nh
     refine gN Z q17 (M0.pickF Z q22 (Bo s23) Z) ?_
     cases h
     exact js21 _ _ Nh
    exact gj h js16
   ·exact gj h js16
   refine gi h (λ_ q26 h=>?_) λ_ q26 h=>?_
   ·refine go h λ_ h=>?_
    cases h
    exact ⟨(),trivial,Nh⟩
   refine go h λ_ h=>?_
   cases h
   exact ⟨(),trivial,Nh⟩
  refine jM<|lX h λh=>?_
  cases h
  exact ⟨(),trivial,Nh⟩
 refine jM<|lX h λh=>?_
 cases h
 exact ⟨(),trivial,Nh⟩
theorem yw (p:List<|List M5) (most:Int) {q} (h:ny p most=some q):aD Tryz.prog 116 [eL (cL M5.c) p,I most] (I q):=by
 refine pM Tryz.func116 Z (by kernel_rfl) Z<|go h λ_ h=>?_;refine T.jU h (λs1=>[(5,I s1),(1,I most)]) (λs1=>[]) (λs1 h=>?_) λs1 h=>?_
 ·refine Ng h (λ_ q31 h=>?_) λ_ q31 h=>?_
  ·exact gz h
  exact gz h
 refine go h λ_ h=>?_;refine tU h (λs4=>[(6,I s4.1),(5,I s4.2),(0,eL (cL M5.c) p),(1,I most)]) (λs4=>[]) λs4 ws4 h=>?_;refine Ng h (λ_ q6 h=>?_) λ_ q6 h=>?_
 ·refine go h λ_ h=>?_;refine T.jU h (λs7=>[(6,I s4.1),(5,I s7),(0,eL (cL M5.c) p),(1,I most)]) (λs7=>[]) (λs7 h=>?_) λs7 h=>?_
  ·refine go h λ_ h=>?_;exact lE h Nh
  refine go h λ_ h=>?_;refine oC h (λ_=>sN _ _ _) Z Z Z Z λv8 _ h=>(go h λ_ h=>?_);refine T.jU h (λs9=>[(7,I v8),(6,I s4.1),(5,I s9),(0,eL (cL M5.c) p),(1,I most)]) (λs9=>[]) (λs9 h=>?_) λs9 h=>?_
  ·refine go h λ_ h=>?_;refine tU h (λs23=>[(9,I s23.1),(7,I v8),(6,I s4.1),(5,I s23.2),(0,eL (cL M5.c) p),(1,I most)]) (λs23=>[]) λs23 ws23 h=>?_;refine gs h λ_ h=>?_;refine TO.jB h 4 (λs25=>[(40,Bo s25),(9,I s23.1),(7,I v8),(6,I s4.1),(5,I s23.2),(0,eL (cL M5.c) p),(1,I most)]) (λs25=>[]) (λs25 q26 h js25=>?_) (λs25 q26 h js25=>?_) λs25 h=>?_
   ·exact gj h js25
   ·exact gj h js25
   refine gi h (λ_ q27 h=>?_) λ_ q27 h=>?_
   ·refine go h λ_ h=>?_;refine gs h λ_ h=>?_;exact lE h Nh
   refine jM<|lX h λh=>?_
   cases h
   exact ⟨(),trivial,Nh⟩
  refine go h λ_ h=>?_;refine tU h (λs12=>[(8,I s12.1),(7,I v8),(6,I s4.1),(5,I s12.2),(0,eL (cL M5.c) p),(1,I most)]) (λs12=>[]) λs12 ws12 h=>?_;refine gs h λ_ h=>?_;refine oC h (λ_=>sN _ _ _) Z Z Z Z λv14 _ h=>(go h λ_ h=>?_);refine TO.jB h 4 (λs15=>[(26,Bo s15),(8,I s12.1),(7,I v8),(6,I s4.1),(5,I s12.2),(0,eL (cL M5.c) p),(1,I most)]) (λs15=>[]) (λs15 q16 h js15=>?_) (λs15 q16 h js15=>?_) λs15 h=>?_
  ·exact gj h js15
  ·exact gj h js15
  refine gi h (λ_ q17 h=>?_) λ_ q17 h=>?_
  ·refine go h λ_ h=>?_;refine gs h λ_ h=>?_;exact lE h Nh
  refine jM<|lX h λh=>?_
  cases h
  exact ⟨(),trivial,Nh⟩
 refine jM<|lX h λh=>?_
 cases h
 exact ⟨(),trivial,Nh⟩
theorem yx (r_:ah) (aI:Nat) {q} (h:nz r_=some q):f8 Tryz.prog 112 [.hp 0 aI 2 0 0] [some ⟨aI,2,157,[(ah.c r_)]⟩] (eL (cL M5.c) q.2) [some ⟨aI,2,157,[(ah.c q.1)]⟩]:=by
 refine aM Tryz.func112 Z (by kernel_rfl) Z<|go h λ_ h=>?_;refine jB h λv1 cv1 h=>oA (EvA.call Z Z Z<|(zG (⟨r_.b,r_.p⟩:ah) aI cv1).one 0 Z (.cons (.hp Z) .nil) (au Z) (au Z) Z)<|go h λ_ h=>?_;refine gs h λ_ h=>?_;refine oC h (λ_=>yw _ _) Z Z Z Z λv2 _ h=>?_;refine gi h (λ_ q3 h=>?_) λ_ q3 h=>?_
 ·refine go h λ_ h=>?_;obtain rfl:=M4 h
  repeat (first|refine lD ?_|refine lF ?_)
  exact ⟨ak [(2,eL (cL M5.c) v1.2)],[some ⟨aI,2,157,[(ah.c (⟨v1.1.b,v1.1.p⟩:ah))]⟩],Nh,jQ (vs:=[eL (cL M5.c) v1.2]) (.cons (.tmp Z) .nil) ⟨Z,Z⟩⟩
 refine go h λ_ h=>?_;refine oC h (λ_=>nP _) Z Z Z Z λv4 _ h=>(go h λ_ h=>?_);obtain rfl:=M4 h
 repeat (first|refine lD ?_|refine lF ?_)
 exact ⟨ak [(2,eL (cL M5.c) v4.1)],[some ⟨aI,2,157,[(ah.c (⟨v1.1.b,v1.1.p⟩:ah))]⟩],Nh,jQ (vs:=[eL (cL M5.c) v4.1]) (.cons (.tmp Z) .nil) ⟨Z,Z⟩⟩
theorem zH (code:LI) {q} (h:su code=some q):aD Tryz.prog 49 [eL cY code] (.tup [eL (cL M5.c) q.1,I q.2.1,I q.2.2]):=by
 refine pM Tryz.func49 Z (by kernel_rfl) Z<|go h λ_ h=>?_;refine jB h λv1 cv1 h=>oA (EvA.call Z Z Z<|(xY code cv1).fresh Z (au Z) 0 Z)<|go h λ_ h=>?_;refine jB h λv2 cv2 h=>oA (EvA.call Z Z Z<|(yx (⟨v1.b,v1.p⟩:ah) 0 cv2).one 0 Z (.cons (.hp Z) .nil) (au Z) (au Z) Z)<|jB h λv3 cv3 h=>oA (EvA.call Z Z Z<|(xn (⟨v2.1.b,v2.1.p⟩:ah) v2.2 0 cv3).one 0 Z (.cons (.hp Z)<|.cons (.pF Z) .nil) (au Z) (au Z) Z) ?_;refine go h λ_ h=>?_;refine oN (M0.mkF (c:=cI) ([(0:Int),V,U,(2:Int),(-1:Int)]:LI) [[I U],[I V],[I U],[I (2:Int)],[I (-1:Int)]] zy Z Z Z qD qD Z)<|jB h λv4 cv4 h=>oA (EvA.call Z Z Z<|(cm (⟨v3.1.b,v3.1.p⟩:ah) ([(0:Int),V,U,(2:Int),(-1:Int)]:LI) 0 cv4).one 0 Z (.cons (.hp Z)<|.cons (.pF Z) .nil) (au Z) (au Z) Z) ?_;refine go h λ_ h=>?_;refine oN (M0.mkF (c:=cI) ([V,U,(2:Int),(3:Int)]:LI) [[I V],[I U],[I (2:Int)],[I (3:Int)]] zy Z Z Z qD qD Z)<|jB h λv5 cv5 h=>oA (EvA.call Z Z Z<|(cm (⟨v4.1.b,v4.1.p⟩:ah) ([V,U,(2:Int),(3:Int)]:LI) 0 cv5).one 0 Z (.cons (.hp Z)<|.cons (.pF Z) .nil) (au Z) (au Z) Z) ?_;exact gf h
theorem rI (code:LI) {q} (h:eD code=some q):aD Tryz.prog 19 [eL cY code] (.tup [eL (cL M5.c) q.1,I q.2.1,I q.2.2]):=by
 refine pM Tryz.func19 Z (by kernel_rfl) Z<|go h λ_ h=>?_;refine oC h (λ_=>zH _) Z Z Z Z λv1 _ h=>?_;exact gf h
theorem rJ (p:List<|List M5) (t:Int) {q} (h:ji p t=some q):aD Tryz.prog 50 [eL (cL M5.c) p,I t] (Bo q):=by
 refine pM Tryz.func50 Z (by kernel_rfl) Z<|go h λ_ h=>?_;refine oC h (λ_=>nK _) Z Z Z Z λv1 _ h=>(go h λ_ h=>?_);refine TO.jB h 6 (λs2=>[(13,Bo s2)]) (λs2=>[]) (λs2 q3 h js2=>?_) (λs2 q3 h js2=>?_) λs2 h=>?_
 ·refine go h λ_ h=>?_;refine jB h λv5 cv5 h=>gN Z q3 (M0.call Z Z Z (qf t U ((p.length:Int)-V) cv5) Z) ?_;exact gj h js2
 ·exact gj h js2
 exact gz h
theorem jv (s:List M5) {q} (h:bq s=some q):aD Tryz.prog 114 [eL M5.c s] (eL M5.c q):=by
 refine pM Tryz.func114 Z (by kernel_rfl) Z<|go h λ_ h=>?_;refine gs h λ_ h=>?_;refine LK false Tryz.underlying73 Z Z (λz1=>?_) ?_
 ·replace h:=(wU h).1 (by rw [z1];rfl);refine go h λ_ h=>?_;refine T.cond Z (λ_=>?_) λq=>absurd (q.symm.trans Z) (by decide);refine go h λ_ h=>?_;obtain rfl:=M4 h
  repeat (first|refine lD ?_|refine lF ?_)
  exact jQ (vs:=[.nil]) (.cons (.tmp Z) .nil) .nil0
 replace h:=(wU h).2;refine go h λ_ h=>?_;refine T.cond Z (λq=>absurd (q.symm.trans Z)<|by decide) λ_=>?_;refine go h λ_ h=>?_;refine oA (EvA.mkO (c:=M5.c) ([]:List M5) [] Bu Z Z Z qD Z Z) ?_;exact gf h
theorem sZ (p:List<|List M5) {q} (h:iw p=some q):bP Tryz.prog 51 [eL (cL M5.c) p] [] (CP 1 73 (λx=>x) q.length (q.map<|cL M5.c) 0 []):=by
 refine bP.mkO Tryz.func51 Z (by kernel_rfl) Z (by kernel_rfl) (e0:=ak [(0,eL (cL M5.c) p)]) (MZ Z wkN) nB (pG qD)<|go h λ_ h=>?_;refine jD h λg1 h=>oA (EvA.mkZ vK Z Z g1 Z Z)<|gq h λ_ h=>?_;refine T.cut (e0:=ak [(3,hS false 0 0 1<|(List.replicate (p.length:Int).toNat ([]:List M5)).length),(0,eL (cL M5.c) p)]) (H0:=[bE false 0 1 73 ((List.replicate (p.length:Int).toNat ([]:List M5)).map<|cL M5.c)]) (qZ Z (.cons (.rows<|.rep (f:=M5.c) _) .nil)<|aj (.eqv (congrArg (hS false 0 0 1) (by simp:(p.length:Int).toNat=(List.replicate (p.length:Int).toNat ([]:List M5)).length))<|.hS (g:=false) (b:=0) (ver:=0) (s:=1) (n:=(List.replicate (p.length:Int).toNat ([]:List M5)).length) Z)<|aj (.fz<|qC Z) bg) ?_;refine tJ h (λs2 gh=>[(3,hS false 0 gh 1 s2.length)]) (λs2 gh=>[bE false gh 1 73 (s2.map<|cL M5.c)]) (λs2 u14 h=>?_) λs2 h=>?_
 ·refine go h λ_ h=>?_;obtain rfl:=M4 h
  repeat (first|refine lD ?_|refine lF ?_)
  exact jQ (vs:=[hS false 0 u14 1 s2.length]) (.cons (.tmp Z) .nil) ⟨0,false,u14,nofun,Z,ownB Z⟩
 refine go h λ_ h=>?_;refine tT h 0 (λs6 gh=>[(11,I s6.2),(10,I (p.length:Int)),(9,eL (cL M5.c) p),(3,hS false 0 gh 1 s6.1.length)]) (λs6 gh=>[bE false gh 1 73 (s6.1.map<|cL M5.c)]) λs6 u8 ws6 h=>?_;refine go h λ_ h=>?_;refine jH ?_;refine jN Z h (λq9 h=>?_) λq9 h=>?_
 ·refine go h λ_ h=>?_;refine gs h λ_ h=>?_;refine oC h (λ_=>jv _) Z Z Z Z λv11 _ h=>(go h λf h=>?_);obtain ⟨g12,_⟩:=f;refine oV (EvA.stO (g:=false) (l:=s6.1) (cs:=[eL M5.c v11]) v11 Fe Z Z Z nofun (bH Z g12) Z Z Z)<|go h λ_ h=>?_;obtain rfl:=M4 h;exact ⟨((s6.1.set s6.2.toNat v11),(s6.2+(1:Int))),u8,Z,trivial,zO Z<|MZ Z<|MZ Z<|MZ Z<|MZ (congrArg (hS false 0 u8 1) (by simp:s6.1.length=(s6.1.set s6.2.toNat v11).length)) wkN⟩
 refine jM<|lX h λh=>?_
 cases h
 exact ⟨u8,trivial,Nh⟩
theorem uI (p:List<|List M5) (i:Int) (k_:Int) {q} (h:iU p i k_=some q):aD Tryz.prog 20 [eL (cL M5.c) p,I i,I k_] (.tup [eL (cL M5.c) q.1,Bo q.2]):=by
 refine pM Tryz.func20 Z (by kernel_rfl) Z<|go h λ_ h=>?_;refine gs h λ_ h=>?_;refine oC h (λ_=>rJ _ _) Z Z Z Z λv1 _ h=>(go h λ_ h=>?_);refine TO.jB h 5 (λs2=>[(18,Bo s2),(0,eL (cL M5.c) p),(1,I i),(2,I k_)]) (λs2=>[]) (λs2 q3 h js2=>?_) (λs2 q3 h js2=>?_) λs2 h=>?_
 ·exact gj h js2
 ·refine go h λ_ h=>?_;refine jB h λv4 cv4 h=>gN Z q3 (M0.call Z Z Z (rJ p k_ cv4) Z) ?_;exact gj h js2
 refine gi h (λ_ q5 h=>?_) λ_ q5 h=>?_
 ·exact gf h
 refine go h λ_ h=>?_;refine jB h λv6 cv6 h=>?_;refine oG Z Z Z ((sZ p cv6).own Z (pG qD) nB 0 Z) λg7 v8 n9=>?_;refine go h λ_ h=>?_;refine jH<|T.drawH (dG [dF,dF,dF,dF,dF,dF,dF,([0],false),dF,dF,dF,([0],false),dF,([0],true),dF,([0],true)]) (by kernel_rfl) (by kernel_rfl) ?_;refine go h λ_ h=>?_;refine jD h λg10 h=>?_;obtain rfl:=Ab (λx=>List.eq_nil_of_length_eq_zero<|n9 x) rfl g10;refine go h λf h=>?_;obtain ⟨g11,_⟩:=f;refine fV 0 [] Z Z (λG hG=>EvA.stO (g:=false) (l:=v6) (cs:=[eL M5.c (J v6 k_)]) (J v6 k_) Fe Z Z (hG.a0 Z) nofun (bH Z g11) Z Z Z)<|go h λ_ h=>?_;refine fV 0 [] Z Z (λG hG=>EvA.stO (g:=false) (l:=(v6.set i.toNat<|J v6 k_)) (cs:=[eL M5.c (J v6 i)]) (J v6 i) Fe Z Z (hG.a0 Z) nofun (bH (by simp) g10) Z Z Z) ?_;exact gf h
theorem wL (n:Int) (most:Int) {q} (h:p8 n most=some q):aD Tryz.prog 53 [I n,I most] (Bo q):=by
 refine pM Tryz.func53 Z (by kernel_rfl) Z<|go h λ_ h=>?_;refine TO.jB h 4 (λs1=>[(11,Bo s1)]) (λs1=>[]) (λs1 q2 h js1=>?_) (λs1 q2 h js1=>?_) λs1 h=>?_
 ·exact gj h js1
 ·exact gj h js1
 exact gz h
theorem yz (n:Int) (i:Int) (k_:Int) {q} (h:qQ n i k_=some q):aD Tryz.prog 54 [I n,I i,I k_] (I q):=by
 refine pM Tryz.func54 Z (by kernel_rfl) Z<|go h λ_ h=>?_;refine Ng h (λ_ q1 h=>?_) λ_ q1 h=>?_
 ·exact gz h
 refine go h λ_ h=>?_;refine Ng h (λ_ q2 h=>?_) λ_ q2 h=>?_
 ·exact gz h
 exact gz h
theorem uJ (p:List<|List M5) (i:Int) (k_:Int) {q} (h:iV p i k_=some q):aD Tryz.prog 21 [eL (cL M5.c) p,I i,I k_] (.tup [eL (cL M5.c) q.1,Bo q.2]):=by
 refine pM Tryz.func21 Z (by kernel_rfl) Z<|go h λ_ h=>?_;refine gs h λ_ h=>?_;refine oC h (λ_=>jk _) Z Z Z Z λv1 _ h=>(go h λ_ h=>?_);refine TO.jB h 7 (λs2=>[(20,Bo s2),(0,eL (cL M5.c) p),(1,I i),(2,I k_)]) (λs2=>[]) (λs2 q3 h js2=>?_) (λs2 q3 h js2=>?_) λs2 h=>?_
 ·exact gj h js2
 ·refine go h λ_ h=>?_;refine jB h λv5 cv5 h=>gN Z q3 (M0.call Z Z Z (wL i ((p.length:Int)-V) cv5) Z) ?_;exact gj h js2
 refine go h λ_ h=>?_;refine TO.jB h 7 (λs6=>[(28,Bo s6),(0,eL (cL M5.c) p),(1,I i),(2,I k_)]) (λs6=>[]) (λs6 q7 h js6=>?_) (λs6 q7 h js6=>?_) λs6 h=>?_
 ·exact gj h js6
 ·refine go h λ_ h=>?_;refine jB h λv9 cv9 h=>gN Z q7 (M0.call Z Z Z (wL k_ ((p.length:Int)-V) cv9) Z) ?_;exact gj h js6
 refine gi h (λ_ q10 h=>?_) λ_ q10 h=>?_
 ·refine go h λ_ h=>?_;refine oN (M0.mkF (c:=(cL M5.c)) ([]:List<|List M5) [] vK Z Z Z qD qD Z)<|go h λ_ h=>?_;obtain rfl:=M4 h
  repeat (first|refine lD ?_|refine lF ?_)
  exact jQ (vs:=[eL (cL M5.c) ([]:List<|List M5),Bo false]) (.cons (.tmp Z)<|.cons (.tmp Z) .nil)<|.tupL<|.cons (qC Z)<|.cons (qC Z) .nil
 refine go h λ_ h=>?_;refine oA (EvA.mkO (c:=(cL M5.c)) ([]:List<|List M5) [] vK Z Z Z qD Z Z)<|go h λ_ h=>?_;refine tJ h (λs11 gh=>[(8,hS false 0 gh 1 s11.length)]) (λs11 gh=>[bE false gh 1 73 (s11.map<|cL M5.c)]) (λs11 u24 h=>?_) λs11 h=>?_
 ·refine go h λ_ h=>?_;obtain rfl:=M4 h
  repeat (first|refine lD ?_|refine lF ?_)
  exact jQ (vs:=[hS false 0 u24 1 s11.length,Bo true]) (.cons (.tmp Z)<|.cons (.tmp Z) .nil)<|.tupL<|.cons (Fz.own (g:=false) (ver:=u24) (l:=s11) Z Z Z nofun qD)<|.cons (qC Z) .nil
 refine go h λ_ h=>?_;refine tT h 0 (λs15 gh=>[(9,I s15.2),(8,hS false 0 gh 1 s15.1.length),(0,eL (cL M5.c) p),(1,I i),(2,I k_)]) (λs15 gh=>[bE false gh 1 73 (s15.1.map<|cL M5.c)]) λs15 u17 ws15 h=>?_;refine Ng h (λ_ q18 h=>?_) λ_ q18 h=>?_
 ·refine go h λ_ h=>?_;refine gs h λ_ h=>?_;refine oA (EvA.mkO (c:=M5.c) ([]:List M5) [] Bu Z Z Z qD Z Z)<|go h λ_ h=>?_;refine oC h (λ_=>yz _ _ _) Z Z Z Z λv19 _ h=>(go h λ_ h=>?_);refine oA (EvA.mkR [[hS false 1 (0+1) 4 ((([]:List M5)++(J p v19)).length)]] vK Z Z Z Z)<|jL h λg22 h=>oA (EvA.appR (g:=false) (rows:=s15.1.map<|cL M5.c) (rows':=s15.1.map (cL M5.c)++[[hS false 1 (0+1) 4 ((([]:List M5)++(J p v19)).length)]]) (n':=s15.1.length+1) vK (by kernel_rfl) Z Z (by simp) nofun (dN.raw (rows:=[[hS false 1 (0+1) 4 ((([]:List M5)++(J p v19)).length)]]) Z Z Z) g22 Z Z) ?_;refine gq h λ_ h=>?_;refine T.cut (e0:=ak [(8,hS false 0 (u17+1) 1<|(s15.1++[(([]:List M5)++(J p v19))]).length),(9,I s15.2),(0,eL (cL M5.c) p),(1,I i),(2,I k_)]) (H0:=[bE false (u17+1) 1 73 ((s15.1++[(([]:List M5)++(J p v19))]).map<|cL M5.c)]) (qZ Z (.cons (.snoc qD<|.cons (.cons (.fz<|Fz.own (g:=false) (ver:=0+1) (l:=(([]:List M5)++(J p v19))) Z Z Z nofun M5.isF) .nil) .nil) .nil)<|aj (.eqv (congrArg (hS false 0 (u17+1) 1) (by simp:(s15.1.length+1)=(s15.1++[(([]:List M5)++(J p v19))]).length))<|.hS (g:=false) (b:=0) (ver:=u17+1) (s:=1) (n:=(s15.1++[(([]:List M5)++(J p v19))]).length) Z)<|aj (.fz<|qC Z)<|aj (.fz<|qC Z)<|aj (.fz<|qC Z)<|aj (.fz<|qC Z) bg)<|go h λ_ h=>?_;obtain rfl:=M4 h;exact ⟨((s15.1++[(([]:List M5)++(J p v19))]),(s15.2+V)),u17+1,Z,trivial,Nh⟩
 refine jM<|lX h λh=>?_
 cases h
 exact ⟨u17,trivial,Nh⟩
theorem jw (s1_:List M5) (s2_:List M5) {q} (h:bu s1_ s2_=some q):aD Tryz.prog 57 [eL M5.c s1_,eL M5.c s2_] (Bo q):=by
 refine pM Tryz.func57 Z (by kernel_rfl) Z<|go h λ_ h=>?_;refine Ng h (λ_ q1 h=>?_) λ_ q1 h=>?_
 ·exact gz h
 refine go h λ_ h=>?_;obtain ⟨Ks2,es2,ws2,h,ks2⟩:=Bq h;refine T.join (S:=Unit) (G:=Unit) (λs2=>Ks2 s2=some q) (λs2 gh=>True) (λs2 gh=>[]) (λs2 gh=>[]) (λs2 gh h hg=>?_) ?_
 ·clear ks2;subst es2;exact gz h
 refine go h λ_ h=>?_;refine tU h (λs5=>[(13,I s5),(12,I (s1_.length:Int)),(0,eL M5.c s1_),(1,eL M5.c s2_)]) (λs5=>[]) λs5 ws5 h=>?_;refine go h λ_ h=>?_;refine jH ?_;refine jN Z h (λq7 h=>?_) λq7 h=>?_
 ·refine go h λ_ h=>?_;refine gs h λ_ h=>?_;refine jH<|T.drawP (by kernel_rfl) (by kernel_rfl) ?_;refine go h λ_ h=>?_;refine fN Z (M0.ane (((J s1_ s5).Op)==((J s2_ s5).Op)&&(((J s1_ s5).Loc)==((J s2_ s5).Loc)&&(((J s1_ s5).Reg)==((J s2_ s5).Reg)&&(((J s1_ s5).Val)==((J s2_ s5).Val)&&true)))) (cs:=[I ((J s1_ s5).Op),I ((J s1_ s5).Loc),I ((J s1_ s5).Reg),I ((J s1_ s5).Val)]) (ds:=[I ((J s2_ s5).Op),I ((J s2_ s5).Loc),I ((J s2_ s5).Reg),I ((J s2_ s5).Val)]) MQ Z Z<|by kernel_rfl) ?_;refine gi h (λ_ q10 h=>?_) λ_ q10 h=>?_
  ·refine go h λ_ h=>?_;refine lX h λh=>?_;obtain rfl:=M4 h;replace h:=congrArg some (show _=_ from ks2);exact gz h
  refine go h λ_ h=>?_;exact lE h Nh
 refine jM<|lX h λh=>?_
 cases h
 exact ⟨(),(),ks2,trivial,Nh⟩
theorem tj (x:List M5) (y:List M5) {q} (h:jX x y=some q):aD Tryz.prog 56 [eL M5.c x,eL M5.c y] (Bo q):=by
 refine pM Tryz.func56 Z (by kernel_rfl) Z<|go h λ_ h=>?_;refine oC h (λ_=>jw _ _) Z Z Z Z λv1 _ h=>?_;exact gz h
theorem bw (s1_:List<|List M5) (s2_:List<|List M5) {q} (h:az s1_ s2_=some q):aD Tryz.prog 55 [eL (cL M5.c) s1_,eL (cL M5.c) s2_,.fn (.func 56) []] (Bo q):=by
 refine pM Tryz.func55 Z (by kernel_rfl) Z<|go h λ_ h=>?_;refine Ng h (λ_ q1 h=>?_) λ_ q1 h=>?_
 ·exact gz h
 refine go h λ_ h=>?_;obtain ⟨Ks2,es2,ws2,h,ks2⟩:=Bq h;refine T.join (S:=Unit) (G:=Unit) (λs2=>Ks2 s2=some q) (λs2 gh=>True) (λs2 gh=>[]) (λs2 gh=>[]) (λs2 gh h hg=>?_) ?_
 ·clear ks2;subst es2;exact gz h
 refine go h λ_ h=>?_;refine tU h (λs5=>[(17,I s5),(16,I (s1_.length:Int)),(15,eL (cL M5.c) s1_),(1,eL (cL M5.c) s2_),(2,.fn (.func 56) [])]) (λs5=>[]) λs5 ws5 h=>?_;refine go h λ_ h=>?_;refine jH ?_;refine jN Z h (λq7 h=>?_) λq7 h=>?_
 ·refine go h λ_ h=>?_;refine gs h λ_ h=>?_;refine oC h (λ_=>tj _ _) Z Z Z Z λv10 _ h=>?_;refine gi h (λ_ q11 h=>?_) λ_ q11 h=>?_
  ·refine go h λ_ h=>?_;refine lX h λh=>?_;obtain rfl:=M4 h;replace h:=congrArg some (show _=_ from ks2);exact gz h
  refine go h λ_ h=>?_;exact lE h Nh
 refine jM<|lX h λh=>?_
 cases h
 exact ⟨(),(),ks2,trivial,Nh⟩
theorem oH (a:List<|List M5) (b:List<|List M5) {q} (h:fF a b=some q):aD Tryz.prog 22 [eL (cL M5.c) a,eL (cL M5.c) b] (Bo q):=by
 refine pM Tryz.func22 Z (by kernel_rfl) Z<|go h λ_ h=>?_;refine oC h (λ_=>bw _ _) Z Z Z Z λv1 _ h=>?_;exact gz h
theorem uk (code:LI) {q} (h:d9 code=some q):aD Tryz.prog 5 [eL cY code] (Bo q):=by
 refine pM Tryz.func5 Z (by kernel_rfl) Z<|go h λ_ h=>?_;refine Ng h (λ_ q1 h=>?_) λ_ q1 h=>?_
 ·exact gz h
 refine go h λ_ h=>?_;refine oC h (λ_=>rI _) Z Z Z Z λv2 _ h=>(go h λ_ h=>?_);refine oC h (λ_=>uI _ _ _) Z Z Z Z λv3 _ h=>(go h λ_ h=>?_);refine oC h (λ_=>uJ _ _ _) Z Z Z Z λv4 _ h=>(go h λ_ h=>?_);refine gs h λ_ h=>?_;refine oN (M0.bne bt4 Z Z)<|go h λ_ h=>?_;refine TO.jB h 5 (λs5=>[(45,Bo s5),(9,Bo v4.2),(8,eL (cL M5.c) v4.1),(7,Bo v3.2),(6,eL (cL M5.c) v3.1),(3,eL (cL M5.c) v2.1)]) (λs5=>[]) (λs5 q6 h js5=>?_) (λs5 q6 h js5=>?_) λs5 h=>?_
 ·exact gj h js5
 ·refine go h λ_ h=>?_;refine jB h λv7 cv7 h=>gN Z q6 (M0.call Z Z Z (oH v3.1 v4.1 cv7) Z) ?_;exact gj h js5
 refine go h λ_ h=>?_;refine TO.jB h 3 (λs8=>[(49,Bo s8),(9,Bo v4.2),(8,eL (cL M5.c) v4.1),(7,Bo v3.2),(6,eL (cL M5.c) v3.1),(3,eL (cL M5.c) v2.1)]) (λs8=>[]) (λs8 q9 h js8=>?_) (λs8 q9 h js8=>?_) λs8 h=>?_
 ·exact gj h js8
 ·exact gj h js8
 refine gi h (λ_ q10 h=>?_) λ_ q10 h=>?_
 ·refine go h λ_ h=>?_;refine oN (M0.beq bt4 Z Z)<|go h λ_ h=>?_;refine TO.jB h 4 (λs11=>[(57,Bo s11)]) (λs11=>[]) (λs11 q12 h js11=>?_) (λs11 q12 h js11=>?_) λs11 h=>?_
  ·refine go h λ_ h=>?_;refine jB h λv13 cv13 h=>gN Z q12 (M0.call Z Z Z (oH v3.1 v4.1 cv13) Z) ?_;exact gj h js11
  ·exact gj h js11
  exact gz h
 refine go h λ_ h=>?_;refine oN (M0.mkF (c:=cS) ([(⟨#[115,101,113]⟩:BA),(⟨#[116,115,111]⟩:BA),(⟨#[112,115,111]⟩:BA),(⟨#[114,97]⟩:BA),(⟨#[108,111,99]⟩:BA)]:List BA) [[St (⟨#[115,101,113]⟩:BA)],[St (⟨#[116,115,111]⟩:BA)],[St (⟨#[112,115,111]⟩:BA)],[St (⟨#[114,97]⟩:BA)],[St (⟨#[108,111,99]⟩:BA)]] Kl Z Z Z qD qD Z)<|go h λ_ h=>?_;obtain ⟨Ks14,es14,ws14,h,ks14⟩:=Bq h;refine T.join (S:=Unit) (G:=Unit) (λs14=>Ks14 s14=some q) (λs14 gh=>True) (λs14 gh=>[]) (λs14 gh=>[]) (λs14 gh h hg=>?_) ?_
 ·clear ks14;subst es14;exact gz h
 refine go h λ_ h=>?_;refine tU h (λs17=>[(11,I s17),(10,eL cS ([(⟨#[115,101,113]⟩:BA),(⟨#[116,115,111]⟩:BA),(⟨#[112,115,111]⟩:BA),(⟨#[114,97]⟩:BA),(⟨#[108,111,99]⟩:BA)]:List BA)),(6,eL (cL M5.c) v3.1),(3,eL (cL M5.c) v2.1)]) (λs17=>[]) λs17 ws17 h=>?_;refine Ng h (λ_ q19 h=>?_) λ_ q19 h=>?_
 ·refine go h λ_ h=>?_;refine gs h λ_ h=>?_;refine oC h (λ_=>yg _) Z Z Z Z λv21 _ h=>(go h λ_ h=>?_);refine TO.jB h 10 (λs22=>[(85,Bo s22),(11,I s17),(10,eL cS ([(⟨#[115,101,113]⟩:BA),(⟨#[116,115,111]⟩:BA),(⟨#[112,115,111]⟩:BA),(⟨#[114,97]⟩:BA),(⟨#[108,111,99]⟩:BA)]:List BA)),(6,eL (cL M5.c) v3.1),(3,eL (cL M5.c) v2.1)]) (λs22=>[]) (λs22 q23 h js22=>?_) (λs22 q23 h js22=>?_) λs22 h=>?_
  ·exact gj h js22
  ·refine go h λ_ h=>?_;refine jB h λv24 cv24 h=>gN Z q23 (M0.call Z Z Z (nO v2.1 v21.1 cv24) Z)<|go h λ_ h=>?_;refine jB h λv25 cv25 h=>gN Z q23 (M0.call Z Z Z (nO v3.1 v21.1 cv25) Z) ?_;exact gj h js22
  refine gi h (λ_ q26 h=>?_) λ_ q26 h=>?_
  ·refine go h λ_ h=>?_;refine lX h λh=>?_;obtain rfl:=M4 h;replace h:=congrArg some (show _=_ from ks14);exact gz h
  refine go h λ_ h=>?_;exact lE h Nh
 refine jM<|lX h λh=>?_
 cases h
 exact ⟨(),(),ks14,trivial,Nh⟩
open Go.ChangeShapes Go.WideShapes Go.ChangeAt Go.RowKit Go.WideElems
def Hh (P:Program) (ns:List String):Bool:=ns.all λn=>((P.globalNamed n).bind (P.globals[·]?)).all λgl=>P.readableRec gl.type&&decide (gl.type<P.types.size)
theorem uT {H:Type} {enc:TypeId×Value->H} {P:Program} (hl:laidOutB P=Nk) {W W':World} (hb:Below W.heap.size W W') {sp:Nat->Bool} :
  ∀ {ns:List String} {gs:List (DataW H)} {ps:List MemPlace},Hh P ns=Nk->DataW.TrodVars enc P W (λ_=>Nk) ns gs ps->(∀ x∈ps,sp x.block=Nk)->DataW.TrodVars enc P W' sp ns gs ps
 | [],[],_,_,h,_=>h
 | [],_::_,_,_,h,_=>h.elim
 | _::_,[],_,_,h,_=>h.elim
 | n::ns,d::ds,ps,hv,h,hsp=>by
  have hlt:=h.lt;obtain ⟨g,t,cs,fuel,p,q,h1,h2,h3,h4,hs,e⟩:=h;simp only [Hh,List.all_cons,bae] at hv;have ht:P.readableRec t=Nk/\t<P.types.size:=by
   have := hv.1;rw [h1] at this
   cases hg:P.globals[g]? with
   | none=>simp_all
   | some gl=>
    simp_all
  have hp:∀ x∈p,x.block<W.heap.size:=λx hx=>hlt x (by simp_all);have h3':W'.var? P n=Nn cs:=by
   unfold World.var? at h3 ⊢;rw [h1] at h3 ⊢;simp only [Option.bind_some] at h3 ⊢;have hg:g<W.heap.size:=by
    cases hh:W.heap[g]? with
    | none=>simp_all
    | some o=>grind
   rw [hb.block g hg];exact h3
  exact ⟨g,t,cs,fuel,p,q,h1,h2,h3',DataW.trod_stays (kids_book hl ht.1) (book_sized ht.1) (λh=>by cases h) ⟨ht.2,book_self t⟩ h4 (λx hx=>hb.same (hp x hx)) (λx hx=>hsp x (by simp_all)),
   uT hl hb (by simpa [Hh] using hv.2) hs (λx hx=>hsp x (by simp_all)),e⟩
theorem Cs {P:Program} {W:World} {n:String} {d:DataW Unit} {g t e:Nat} {ss:List BA} {l:List (String×DataW Unit)} (hm:laidMetH P l W) (hf:(l.filter λx=>x.1==n)=[(n,d)]) (hn:d.handleName?.isNone=Nk)
  (hg:P.globalNamed n=Nn g) (ht:(P.globals[g]?).map (·.type)=Nn t) (hu:P.underlying t=Nn (.array ss.length e)) (hs:P.underlying e=Nn .string) (hc:P.cellsOf e=1) (hd:d = .agg (ss.map λs => .lit<|.string s.data.toList)) :
  ∀ j,j<ss.length->W.cell? ⟨g,j,Np⟩=(ss[j]?).map .string:=by
 have h1:=hm.filter λx=>x.1==n;rw [hf,MakeChecks.laidMetH_plain _ _ _ (by simp [hn])] at h1;obtain ⟨ps,⟨g',t',cs,fuel,p,q,hg',ht',hv,hr,_,_⟩,_,_⟩:=h1;obtain rfl:=osl<|hg.symm.trans hg';obtain rfl:=osl<|ht.symm.trans ht';obtain ⟨xs,m,_,ex,hlen,hl,hel⟩:=DataW.trod_array hu hr;intro j hj;have hE:=hel j hj;rw [hc,Nat.mul_one,geq (by omega)] at hE;obtain ⟨s,e1,e2,_⟩:=DataW.trod_string hs hE;have e3:xs.map (·.1)=ss.map λs => .lit (.string s.data.toList):=by
  have := (Prod.mk.inj ex).1;rw [hd] at this;exact (DataW.agg.inj this).symm
 have e4:(xs.map (·.1))[j]? = (ss.map λs=>(DataW.lit (.string s.data.toList):DataW Unit))[j]? := by rw [e3]
 rw [List.getElem?_map,List.getElem?_map,geq (by omega:j<xs.length),geq hj,e2] at e4;simp only [Option.map_some,sie,DataW.lit.injEq,Lit.string.injEq] at e4;have e5:s=ss[j]:=by
  cases s with | mk a=>cases hb:ss[j] with | mk b=>rw [hb] at e4;exact congrArg _<|Array.toList_inj.1 e4
 rw [World.var?_cell hg hv j,geq hj,<- e5];have h0:((cs.toList.drop j).take 1)[0]? = Nn (.string s):=by rw [e1];rfl
 grind
theorem Hk {W:World} {g:Nat} {ss:List BA} (h:∀ j,j<ss.length->W.cell? ⟨g,j,Np⟩=(ss[j]?).map .string) (h0:0<ss.length) :
  FRel W (λg=>g<W.heap.size) (.fp (ss.map λs => .v<|.string s) 0) (.pointer<|Nn ⟨g,0,Np⟩):=by
 have hlt:g<W.heap.size:=World.block_lt_of_cell? W ⟨g,0,Np⟩ (u:=.string ss[0]) (by simp_all);have hrow:∀ (j:Nat) (c:AV),(ss.map λs=>AV.v<|.string s)[j]? = Nn c->∃ hj:j<ss.length,c = .v (.string ss[j]):=λj c hc=>by
  grind
 refine .fp (o:=0) (λj => .string<|ss[j]?.getD ByteArray.empty) hlt hlt (λj c hc=>?_) (λj c hc=>rfl) λj c hc=>?_
 ·grind
 obtain ⟨hj,rfl⟩:=hrow j c hc;rw [geq hj];exact .v rfl
end
end Go.Proofs.YtabfkkjdfhbngaaGreatDoor
