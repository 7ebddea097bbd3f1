/- Texts joined. No conditions. -/
import Derived.Test.YtdmahcaohkplcaaGreatDoorC13
namespace Go.Proofs.YtdmahcaohkplcaaGreatDoor
noncomputable section
open _root_.Inhabited renaming default -> Uo
open _root_.Bool renaming true -> Uq
open _root_.Bool renaming false -> Ur
open _root_.Option renaming some -> Us
open _root_.Go.Proofs.Tryz
open _root_.Go.Proofs.Tryz renaming prog -> Uv
open _root_.List renaming replicate -> aay
set_option maxHeartbeats 4000000
open Go.RowKit
set_option maxRecDepth 100000
attribute [local irreducible] T TO TF TG TX TS EvA
theorem Ce:∀ (nf:Nat) (list:LI) {q} (h:ju nf list=Us q),ax Uv 143 [eL cI list] (eL (cL cI) q):=by
 intro nf
 induction nf with
 | zero=>intros;rename_i h;cases h
 | succ nf ih=>
  intro list q h;replace h:gb (ju nf) list=Us q:=h;refine pM func143 Z (by kernel_rfl) Z<|go h λ_ h=>?_;refine Ul h (λ_ q1 h=>?_) λ_ q1 h=>?_
  ·refine go h λ_ h=>?_;refine oN (TS.mkF (c:=cI) ([]:LI) [] lK Z Z Z qD qD Z)<|gk h λ_ _ h=>?_;exact gz h
  refine go h λ_ h=>?_;refine oA (EvA.mkO (c:=(cL cI)) ([]:LL) [] vo Z Z Z qD Z Z)<|go h λ_ h=>?_;refine tJ h (λs2 gh=>[(3,hS Ur 0 gh 1 s2.length)]) (λs2 gh=>[bE Ur gh 1 31 (s2.map<|cL cI)]) (λs2 u31 h=>?_) λs2 h=>?_
  ·refine go h λ_ h=>?_;obtain rfl:=TV h
   repeat (first|refine kC ?_|refine kD ?_)
   exact jQ (vs:=[hS Ur 0 u31 1 s2.length]) (.cons (.tmp Z) .nil)<|Fz.own (g:=false) (ver:=u31) (l:=s2) Z Z Z nofun qD
  refine go h λ_ h=>?_;refine tT h 0 (λs6 gh=>[(4,I s6.2),(3,hS Ur 0 gh 1 s6.1.length),(0,eL cI list)]) (λs6 gh=>[bE Ur gh 1 31 (s6.1.map<|cL cI)]) λs6 u8 ws6 h=>?_;let d0:=list.getD s6.2.toNat Uo;refine Ul h (λ_ q9 h=>?_) λ_ q9 h=>?_
  ·refine go h λ_ h=>?_;refine tJ h (λs10 gh=>[(4,I s6.2),(3,hS Ur 0 gh 1 s10.length),(0,eL cI list)]) (λs10 gh=>[bE Ur gh 1 31 (s10.map<|cL cI)]) (λs10 u29 h=>?_) λs10 h=>?_
   ·refine go h λ_ h=>?_;obtain rfl:=TV h;exact ⟨(s10,(s6.2+V)),u29,Z,trivial,Um⟩
   refine jE<|jH<|T.reserve<|T.drawH (dG [([1],Uq),dF,dF,dF,([1],Uq),dF,dF,dF,dF,([1],Uq),dF]) (by kernel_rfl) (by kernel_rfl)<|fW 1 [] Z Z (λG hG=>EvA.mkOR (c:=cI) 1 ([]:LI) [] lK Z Z Z qD qD Z<|hG.a0 Z) ?_;refine go h λ_ h=>?_;refine jD h λg11 h=>fN Z (TS.slL lK Z .no (.yes Z) g11 qD)<|jL h λg12 h=>fW 1 [] Z Z (λG hG=>EvA.appF (l:=([]:LI)) ((list.drop U.toNat).take<|s6.2.toNat-U.toNat) lK (by kernel_rfl) Z Z (hG.a0 Z) (cu.fz (l:=((list.drop U.toNat).take<|s6.2.toNat-U.toNat)) Z qD) g12) ?_;refine go h λ_ h=>?_;refine jD h λg14 h=>fN Z (TS.slL lK Z (.yes Z) .no g14 qD)<|jL h λg15 h=>fW 1 [] Z Z (λG hG=>EvA.appF (l:=(([]:LI)++((list.drop U.toNat).take<|s6.2.toNat-U.toNat))) ((list.drop (s6.2+V).toNat).take<|(list.length:Int).toNat-(s6.2+V).toNat) lK (by kernel_rfl) Z Z (hG.a0 Z) (cu.fz (l:=((list.drop (s6.2+V).toNat).take<|(list.length:Int).toNat-(s6.2+V).toNat)) Z qD) g15)<|fN Z (TS.asg (hS Ur 1 ((0+1)+1) 1<|((([]:LI)++((list.drop U.toNat).take<|s6.2.toNat-U.toNat))++((list.drop (s6.2+V).toNat).take<|(list.length:Int).toNat-(s6.2+V).toNat)).length) Z)<|jR<|jI<|oN mv<|TO.cut (e0:=ak [(30,eL cI<|(([]:LI)++((list.drop U.toNat).take<|s6.2.toNat-U.toNat))++((list.drop (s6.2+V).toNat).take<|(list.length:Int).toNat-(s6.2+V).toNat)),(4,I s6.2),(3,hS Ur 0 u8 1 s6.1.length),(0,eL cI list)]) (H0:=[bE Ur u8 1 31 (s6.1.map<|cL cI)]) (rI Z (.cons (.list (g:=false) (ver:=u8) (l:=s6.1) qD) .nil)<|ai (.fz<|Fz.own (g:=false) (ver:=(0+1)+1) (l:=((([]:LI)++((list.drop U.toNat).take<|s6.2.toNat-U.toNat))++((list.drop (s6.2+V).toNat).take<|(list.length:Int).toNat-(s6.2+V).toNat))) Z Z Z nofun qD)<|ai (.fz<|qC Z)<|ai (.hS (g:=false) (b:=0) (ver:=u8) (s:=1) (n:=s6.1.length) Z)<|ai (.fz<|qC Z) aY)<|oC h (λ_=>ih _) Z Z Z Z λv16 _ h=>?_;refine go h λ_ h=>?_;refine tT h u8 (λs20 gh=>[(7,I s20.2),(6,eL (cL cI) v16),(4,I s6.2),(3,hS Ur 0 gh 1 s20.1.length),(0,eL cI list)]) (λs20 gh=>[bE Ur gh 1 31 (s20.1.map<|cL cI)]) λs20 u22 ws20 h=>?_;refine Ul h (λ_ q23 h=>?_) λ_ q23 h=>?_
   ·refine go h λ_ h=>?_;refine gs h λ_ h=>?_;refine T.drawX [0,1,2,3,4,6,7,8,9,5,10,11,12,13] (λi=>([(Ur,[]),(Ur,[]),(Ur,[]),(Ur,[]),(Ur,[]),(Uq,[]),(Ur,[]),(Ur,[]),(Ur,[]),(Ur,[]),(Uq,[1]),(Uq,[]),(Uq,[0]),(Ur,[])]:List Xc).getD i (Ur,[])) (by kernel_rfl) (by kernel_rfl) (by kernel_rfl)<|go h λ_ h=>?_;refine xA Z Z (EvA.mkO (c:=cI) ([d0]:LI) [[I d0]] lK Z Z Z qD Z Z) yL<|jL h λg26 h=>xA Z Z (EvA.appF (l:=([d0]:LI)) (J v16 s20.2) lK (by kernel_rfl) Z Z Z (cu.fz (l:=(J v16 s20.2)) Z qD) g26) wy<|xA Z Z (EvA.mkR [[hS Ur 1 (0+1) 1 ((([d0]:LI)++(J v16 s20.2)).length)]] vo Z Z Z Z) yL<|jL h λg27 h=>xA Z Z (EvA.appR (g:=false) (rows:=s20.1.map<|cL cI) (rows':=s20.1.map (cL cI)++[[hS Ur 1 (0+1) 1 ((([d0]:LI)++(J v16 s20.2)).length)]]) (n':=s20.1.length+1) vo (by kernel_rfl) Z Z (by simp) nofun (cu.raw (rows:=[[hS Ur 1 (0+1) 1 ((([d0]:LI)++(J v16 s20.2)).length)]]) Z Z Z) g27 Z Z) wy ?_;refine gq h λ_ h=>?_;refine T.cut (e0:=ak [(3,hS Ur 0 (u22+1) 1<|(s20.1++[(([d0]:LI)++(J v16 s20.2))]).length),(7,I s20.2),(6,eL (cL cI) v16),(4,I s6.2),(0,eL cI list)]) (H0:=[bE Ur (u22+1) 1 31 ((s20.1++[(([d0]:LI)++(J v16 s20.2))]).map<|cL cI)]) (rI Z (.cons (.snoc qD<|.cons (.cons (.fz<|Fz.own (g:=false) (ver:=0+1) (l:=(([d0]:LI)++(J v16 s20.2))) Z Z Z nofun qD) .nil) .nil) .nil)<|ai (.eqv (congrArg (hS Ur 0 (u22+1) 1) (by simp:(s20.1.length+1)=(s20.1++[(([d0]:LI)++(J v16 s20.2))]).length))<|.hS (g:=false) (b:=0) (ver:=u22+1) (s:=1) (n:=(s20.1++[(([d0]:LI)++(J v16 s20.2))]).length) Z)<|ai (.fz<|qC Z)<|ai (.fz<|qC Z)<|ai (.fz<|qC Z)<|ai (.fz<|qC Z) aY)<|go h λ_ h=>?_;obtain rfl:=TV h;exact ⟨((s20.1++[(([d0]:LI)++(J v16 s20.2))]),(s20.2+V)),u22+1,Z,trivial,Um⟩
   refine jM<|lX h λh=>?_
   cases h
   exact ⟨u22,trivial,Um⟩
  refine jM<|lX h λh=>?_
  cases h
  exact ⟨u8,trivial,Um⟩
theorem CY (list:LI) {q} (h:uQ list=Us q):ax Uv 143 [eL cI list] (eL (cL cI) q):=by
 obtain ⟨nf,h⟩:=qP h;exact Ce nf list h
theorem Bd:∀ (nf:Nat) (events:List TZ) (loc:Int) {q} (h:iG nf events loc=Us q),ax Uv 101 [eL TZ.c events,I loc] (eL (cL<|cL cI) q):=by
 intro nf
 induction nf with
 | zero=>intros;rename_i h;cases h
 | succ nf ih=>
  intro events loc q h;replace h:fe (iG nf) events loc=Us q:=h;refine pM func101 Z (by kernel_rfl) Z<|go h λ_ h=>?_;refine Ul h (λ_ q1 h=>?_) λ_ q1 h=>?_
  ·refine go h λ_ h=>?_;refine oN (TS.mkF (c:=(cL cI)) ([]:LL) [] vo Z Z Z qD qD Z)<|gk h λ_ _ h=>?_;exact gz h
  refine go h λ_ h=>?_;refine oC h (λ_=>ih _ _) Z Z Z Z λv3 _ h=>(go h λ_ h=>?_);refine oC h (λ_=>uM _ _) Z Z Z Z λv4 _ h=>(go h λ_ h=>?_);refine jD h λg5 h=>oN (TS.slL lK Z (.yes Z) .no g5 qD)<|oC h (λ_=>CY _) Z Z Z Z λv6 _ h=>?_;refine go h λ_ h=>?_;refine oA (EvA.mkO (c:=(cL<|cL cI)) ([]:List<|LL) [] PH Z Z Z qD Z Z)<|go h λ_ h=>?_;refine tJ h (λs7 gh=>[(8,hS Ur 0 gh 1 s7.length)]) (λs7 gh=>[bE Ur gh 1 25 (s7.map<|cL<|cL cI)]) (λs7 u32 h=>?_) λs7 h=>?_
  ·refine T.cut (e0:=ak [(8,eL (cL<|cL cI) s7)]) (H0:=[]) (rI Z .nil<|ai (.fz<|Fz.own (g:=false) (ver:=u32) (l:=s7) Z Z Z nofun qD) aY) ?_;exact gz h
  refine go h λ_ h=>?_;refine tT h 0 (λs11 gh=>[(9,I s11.2),(8,hS Ur 0 gh 1 s11.1.length),(7,eL (cL cI) v6),(6,eL cI v4),(5,eL (cL<|cL cI) v3)]) (λs11 gh=>[bE Ur gh 1 25 (s11.1.map<|cL<|cL cI)]) λs11 u13 ws11 h=>?_;refine Ul h (λ_ q14 h=>?_) λ_ q14 h=>?_
  ·refine go h λ_ h=>?_;refine tJ h (λs15 gh=>[(9,I s11.2),(8,hS Ur 0 gh 1 s15.length),(7,eL (cL cI) v6),(6,eL cI v4),(5,eL (cL<|cL cI) v3)]) (λs15 gh=>[bE Ur gh 1 25 (s15.map<|cL<|cL cI)]) (λs15 u30 h=>?_) λs15 h=>?_
   ·refine go h λ_ h=>?_;obtain rfl:=TV h;exact ⟨(s15,(s11.2+V)),u30,Z,trivial,Um⟩
   refine jE<|jH<|T.reserve<|jP (dG [dF,dF,dF,([1],Uq),dF,dF,dF,dF,([1],Uq),dF]) (by kernel_rfl) (by kernel_rfl) ?_;refine go h λ_ h=>?_;refine fW 1 [] Z Z (λG hG=>EvA.mkOR (c:=cI) 1 ([(J v4 U)]:LI) [[I (J v4 U)]] lK Z Z Z qD qD Z<|hG.a0 Z)<|go h λ_ h=>?_;refine jL h λg18 h=>fW 1 [] Z Z (λG hG=>EvA.appF (l:=([(J v4 U)]:LI)) (J v6 s11.2) lK (by kernel_rfl) Z Z (hG.a0 Z) (cu.fz (l:=(J v6 s11.2)) Z qD) g18)<|fN Z (TS.asg (hS Ur 1 (0+1) 1<|(([(J v4 U)]:LI)++(J v6 s11.2)).length) Z)<|jR<|jI<|oN as'<|TO.cut (e0:=ak [(11,I U),(10,eL cI<|([(J v4 U)]:LI)++(J v6 s11.2)),(9,I s11.2),(8,hS Ur 0 u13 1 s11.1.length),(7,eL (cL cI) v6),(6,eL cI v4),(5,eL (cL<|cL cI) v3)]) (H0:=[bE Ur u13 1 25 (s11.1.map<|cL<|cL cI)]) (rI Z (.cons (.list (g:=false) (ver:=u13) (l:=s11.1) qD) .nil)<|ai (.fz<|qC Z)<|ai (.fz<|Fz.own (g:=false) (ver:=0+1) (l:=(([(J v4 U)]:LI)++(J v6 s11.2))) Z Z Z nofun qD)<|ai (.fz<|qC Z)<|ai (.hS (g:=false) (b:=0) (ver:=u13) (s:=1) (n:=s11.1.length) Z)<|ai (.fz<|qC Z)<|ai (.fz<|qC Z)<|ai (.fz<|qC Z) aY) ?_;refine go h λ_ h=>?_;refine tT h u13 (λs22 gh=>[(11,I s22.2),(10,eL cI<|([(J v4 U)]:LI)++(J v6 s11.2)),(9,I s11.2),(8,hS Ur 0 gh 1 s22.1.length),(7,eL (cL cI) v6),(6,eL cI v4),(5,eL (cL<|cL cI) v3)]) (λs22 gh=>[bE Ur gh 1 25 (s22.1.map<|cL<|cL cI)]) λs22 u24 ws22 h=>?_;refine Ul h (λ_ q25 h=>?_) λ_ q25 h=>?_
   ·refine go h λ_ h=>?_;refine gs h λ_ h=>?_;refine oA (EvA.mkO (c:=(cL cI)) ([(([(J v4 U)]:LI)++(J v6 s11.2))]:LL) [[eL cI (([(J v4 U)]:LI)++(J v6 s11.2))]] vo Z Z Z qD Z Z)<|go h λ_ h=>?_;refine oA (EvA.mkR [[hS Ur 1 (0+1) 1 ((([(([(J v4 (0:Int))]:LI)++(J v6 s11.2))]:LL)++(J v3 s22.2)).length)]] PH Z Z Z Z)<|jL h λg28 h=>oA (EvA.appR (g:=false) (rows:=s22.1.map<|cL<|cL cI) (rows':=s22.1.map (cL<|cL cI)++[[hS Ur 1 (0+1) 1 ((([(([(J v4 (0:Int))]:LI)++(J v6 s11.2))]:LL)++(J v3 s22.2)).length)]]) (n':=s22.1.length+1) PH (by kernel_rfl) Z Z (by simp) nofun (cu.raw (rows:=[[hS Ur 1 (0+1) 1 ((([(([(J v4 (0:Int))]:LI)++(J v6 s11.2))]:LL)++(J v3 s22.2)).length)]]) Z Z Z) g28 Z Z) ?_;refine gq h λ_ h=>?_;refine T.cut (e0:=ak [(8,hS Ur 0 (u24+1) 1<|(s22.1++[(([(([(J v4 (0:Int))]:LI)++(J v6 s11.2))]:LL)++(J v3 s22.2))]).length),(11,I s22.2),(10,eL cI<|([(J v4 (0:Int))]:LI)++(J v6 s11.2)),(9,I s11.2),(7,eL (cL cI) v6),(6,eL cI v4),(5,eL (cL<|cL cI) v3)]) (H0:=[bE Ur (u24+1) 1 25 ((s22.1++[(([(([(J v4 (0:Int))]:LI)++(J v6 s11.2))]:LL)++(J v3 s22.2))]).map<|cL<|cL cI)]) (rI Z (.cons (.snoc qD<|.cons (.cons (.fz<|Fz.own (g:=false) (ver:=0+1) (l:=(([(([(J v4 (0:Int))]:LI)++(J v6 s11.2))]:LL)++(J v3 s22.2))) Z Z Z nofun qD) .nil) .nil) .nil)<|ai (.eqv (congrArg (hS Ur 0 (u24+1) 1) (by simp:(s22.1.length+1)=(s22.1++[(([(([(J v4 (0:Int))]:LI)++(J v6 s11.2))]:LL)++(J v3 s22.2))]).length))<|.hS (g:=false) (b:=0) (ver:=u24+1) (s:=1) (n:=(s22.1++[(([(([(J v4 (0:Int))]:LI)++(J v6 s11.2))]:LL)++(J v3 s22.2))]).length) Z)<|ai (.fz<|qC Z)<|ai (.fz<|qC Z)<|ai (.fz<|qC Z)<|ai (.fz<|qC Z)<|ai (.fz<|qC Z)<|ai (.fz<|qC Z) aY)<|go h λ_ h=>?_;obtain rfl:=TV h;exact ⟨((s22.1++[(([(([(J v4 U)]:LI)++(J v6 s11.2))]:LL)++(J v3 s22.2))]),(s22.2+V)),u24+1,Z,trivial,Um⟩
   refine jM<|lX h λh=>?_
   cases h
   exact ⟨u24,trivial,Um⟩
  refine jM<|lX h λh=>?_
  cases h
  exact ⟨u13,trivial,Um⟩
theorem Cf (events:List TZ) (loc:Int) {q} (h:sW events loc=Us q):ax Uv 101 [eL TZ.c events,I loc] (eL (cL<|cL cI) q):=by
 obtain ⟨nf,h⟩:=qP h;exact Bd nf events loc h
theorem EA (x:TY) {q} (h:nN x=Us q):ax Uv 102 [.agg (TY.c x)] (.agg<|TY.c q):=by
 refine pM func102 Z (by kernel_rfl) Z<|jI<|oN (TS.bxF [eL cI x.From,eL (cL cI) x.Order] Z Z Z)<|oA (EvA.al PF Z Z)<|jA<|jH<|T.reserve<|jC<|oA (EvA.mkO (c:=cI) ([]:LI) [] lK Z Z Z qD Z Z)<|oN (fa NP Z)<|oN (lf (eL cI x.From) CH Z)<|jL h λg1 h=>oA (EvA.appF (l:=([]:LI)) x.From lK (by kernel_rfl) Z Z Z (cu.fz (l:=x.From) Z qD) g1)<|oN (TS.build [hS Ur 2 (0+1) 1 ((([]:LI)++x.From).length),hS Uq 1 0 1 (([]:LL).length)] Tryz.underlying46 PF NP Z Z)<|oA (EvA.al PF Z Z)<|oV (sr [hS Ur 2 (0+1) 1 ((([]:LI)++x.From).length),hS Uq 1 0 1 (([]:LL).length)] KY Z Z Z Z) ?_;refine jA ?_;refine T.jF (G:=(Bool×Nat)) h (λs2 gh=>(gh.1=Uq->s2=[])) (λs2 gh=>[(3,.hp 3 0 2 0 0),(2,.hp 0 0 2 0 0)]) (λs2 gh=>[Us ⟨0,2,46,[[.nil,.nil]]⟩,bE gh.1 gh.2 1 31 (s2.map<|cL cI),bE Ur (0+1) 1 3 ((([]:LI)++x.From).map cI),Us ⟨0,2,46,[[hS Ur 2 (0+1) 1 ((([]:LI)++x.From).length),hS gh.1 1 gh.2 1 s2.length]]⟩]) (λs2 gh h n20=>?_) λs2 h=>?_
 ·obtain ⟨b19,u18⟩:=gh;refine jI<|oA (lh (.agg [hS Ur 2 (0+1) 1 ((([]:LI)++x.From).length),hS b19 1 u18 1 s2.length]) KY Z Z Z)<|oV (EvA.st (cs:=[hS Ur 2 (0+1) 1 ((([]:LI)++x.From).length),hS b19 1 u18 1 s2.length]) ⟨0,2,46,[[hS Ur 2 (0+1) 1 ((([]:LI)++x.From).length),hS b19 1 u18 1 s2.length]]⟩ KY Z (by generalize b19=gq0;cases gq0 <;> rfl) Z Z Z Z Z Z Z)<|jA<|jK ?_;obtain rfl:=TV h
  repeat (first|refine kC ?_|refine kD ?_)
  exact jQ (vs:=[.agg [hS Ur 2 (0+1) 1 ((([]:LI)++x.From).length),hS b19 1 u18 1 s2.length]]) (.cons (.cell (.agg [hS Ur 2 (0+1) 1 ((([]:LI)++x.From).length),hS b19 1 u18 1 s2.length]) KY Z Z Z Z Z Z) .nil)<|Fz.aggL<|.cons (Fz.own (g:=false) (ver:=0+1) (l:=(([]:LI)++x.From)) Z Z Z nofun qD)<|.cons (Fz.own (g:=b19) (ver:=u18) (l:=s2) Z Z Z n20 qD) .nil
 refine jI<|oN as'<|jA<|jE ?_;refine jO (S:=(LL)×Int) (G:=(Bool×Nat)) (qU x) (λs8 gh=>(gh.1=Uq->s8.1=[])) (λs8 gh=>[(4,I s8.2),(3,.hp 3 0 2 0 0),(2,.hp 0 0 2 0 0),(1,.fp (TY.c x) 0)]) (λs8 gh=>[Us ⟨0,2,46,[[.nil,.nil]]⟩,bE gh.1 gh.2 1 31 (s8.1.map<|cL cI),bE Ur (0+1) 1 3 ((([]:LI)++x.From).map cI),Us ⟨0,2,46,[[hS Ur 2 (0+1) 1 ((([]:LI)++x.From).length),hS gh.1 1 gh.2 1 s8.1.length]]⟩]) (s0:=(([]:LL),U)) (Uq,0) h qD (kw Z Z) λs8 gh ws8 h n12=>?_;let d0:=x.Order.getD s8.2.toNat Uo;obtain ⟨b11,u10⟩:=gh;refine jH<|jI<|oN mv<|oN (fa NP Z)<|oN (lf (eL (cL cI) x.Order) QR Z)<|oN (TS.lenL vo Z)<|oN (TS.ilt Z Z)<|jA ?_;refine jN Z h (λq13 h=>?_) λq13 h=>?_
 ·refine jG<|jH<|jE<|T.drawX [0,3,4,5,6,7,1,2,8,9,10,11,12] (λi=>([(Ur,[]),(Ur,[3]),(Uq,[]),(Ur,[]),(Ur,[]),(Ur,[]),(Ur,[]),(Ur,[]),(Uq,[4]),(Uq,[]),(Uq,[1]),(Ur,[]),(Uq,[3])]:List Xc).getD i (Ur,[])) (by kernel_rfl) (by kernel_rfl) (by kernel_rfl)<|xN Z Z (fa NP Z)<|xN Z Z (fa NP Z)<|xN Z Z (lf (eL (cL cI) x.Order) QR Z)<|xN Z Z mv<|jD h λg14 h=>xN Z Z (TS.ixL vo Z Z g14 qD)<|xN Z Z (lf (eL cI d0) CH Z)<|xR [3] Z Z Z (λG hG=>EvA.loadhp (hS b11 1 u10 1 s8.1.length) QR Z (hG.a0 Z) Z Z Z Z)<|xA Z Z (EvA.mkO (c:=cI) ([]:LI) [] lK Z Z Z qD Z Z) yL<|jL h λg15 h=>xA Z Z (EvA.appF (l:=([]:LI)) d0 lK (by kernel_rfl) Z Z Z (cu.fz (l:=d0) Z qD) g15) wy<|xA Z Z (EvA.mkR [[hS Ur 4 (0+1) 1 ((([]:LI)++d0).length)]] vo Z Z Z Z) yL ?_;refine jL h λg16 h=>xA Z Z (EvA.appR (g:=b11) (rows:=s8.1.map<|cL cI) (rows':=s8.1.map (cL cI)++[[hS Ur 4 (0+1) 1 ((([]:LI)++d0).length)]]) (n':=s8.1.length+1) vo (by kernel_rfl) Z Z (by simp) (λq=>by first | (rw [n12 q];rfl) | (cases q)) (cu.raw (rows:=[[hS Ur 4 (0+1) 1 ((([]:LI)++d0).length)]]) Z Z Z) g16 Z Z) wy<|xN Z Z (fa NP Z)<|xV Z Z (sr [hS Ur 2 (0+1) 1 ((([]:LI)++x.From).length),hS Ur 1 (u10+1) 1 (s8.1.length+1)] QR Z Z Z Z) wy<|TX.nil<|T.cut (e0:=ak [(4,I s8.2),(3,.hp 3 0 2 0 0),(2,.hp 0 0 2 0 0),(1,.fp (TY.c x) 0)]) (H0:=[Us ⟨0,2,46,[[.nil,.nil]]⟩,bE Ur (u10+1) 1 31 ((s8.1++[(([]:LI)++d0)]).map<|cL cI),bE Ur (0+1) 1 3 ((([]:LI)++x.From).map cI),Us ⟨0,2,46,[[hS Ur 2 (0+1) 1 ((([]:LI)++x.From).length),hS Ur 1 (u10+1) 1 (s8.1.length+1)]]⟩]) (rI Z (.cons (.row<|.cons (.fz<|qC Z)<|.cons (.fz<|qC Z) .nil)<|.cons (.snoc qD<|.cons (.cons (.fz<|Fz.own (g:=false) (ver:=0+1) (l:=(([]:LI)++d0)) Z Z Z nofun qD) .nil) .nil)<|.cons (.list (g:=false) (ver:=0+1) (l:=(([]:LI)++x.From)) qD)<|.cons (.row<|.cons (.hS (g:=false) (b:=2) (ver:=0+1) (s:=1) (n:=(([]:LI)++x.From).length) Z)<|.cons (.hS (g:=false) (b:=1) (ver:=u10+1) (s:=1) (n:=(s8.1.length+1)) Z) .nil) .nil)<|ai (.fz<|qC Z)<|ai (.hp<|nlb Z)<|ai (.hp<|nlb Z)<|ai (.fz<|qC Z) aY)<|jC<|oN mv<|jW h λg17 h=>oN (TS.add Z Z g17)<|oN as'<|jA ?_;obtain rfl:=TV h;exact ⟨((s8.1++[(([]:LI)++d0)]),(s8.2+(1:Int))),(Ur,u10+1),Z,nofun,kw (by first | (simp only [List.length_set] <;> rfl) | simp only [lla,List.length_singleton,llc,List.length_nil,List.length_set]) Z⟩
 refine jM<|lX h λh=>?_
 cases h
 exact ⟨(b11,u10),n12,kw Z Z⟩
theorem E0 (p:List<|List TW) {q} (h:uy p=Us q):ax Uv 61 [eL (cL TW.c) p] (eL TY.c q):=by
 refine pM func61 Z (by kernel_rfl) Z<|go h λ_ h=>?_;refine oC h (λ_=>p8 _) Z Z Z Z λv1 _ h=>(go h λ_ h=>?_);refine oC h (λ_=>CX _ _) Z Z Z Z λv2 _ h=>(go h λ_ h=>?_);refine oC h (λ_=>Cf _ _) Z Z Z Z λv3 _ h=>(go h λ_ h=>?_);refine oA (EvA.mkO (c:=TY.c) ([]:List TY) [] QT Z Z Z qD Z Z)<|go h λ_ h=>?_;refine tJ h (λs4 gh=>[(6,hS Ur 0 gh 2 s4.length)]) (λs4 gh=>[bE Ur gh 2 46 (s4.map TY.c)]) (λs4 u27 h=>?_) λs4 h=>?_
 ·exact gf h
 refine go h λ_ h=>?_;refine tT h 0 (λs8 gh=>[(7,I s8.2),(6,hS Ur 0 gh 2 s8.1.length),(5,eL (cL<|cL cI) v3),(4,eL (cL cI) v2)]) (λs8 gh=>[bE Ur gh 2 46 (s8.1.map TY.c)]) λs8 u10 ws8 h=>?_;refine Ul h (λ_ q11 h=>?_) λ_ q11 h=>?_
 ·refine go h λ_ h=>?_;refine tJ h (λs12 gh=>[(7,I s8.2),(6,hS Ur 0 gh 2 s12.length),(5,eL (cL<|cL cI) v3),(4,eL (cL cI) v2)]) (λs12 gh=>[bE Ur gh 2 46 (s12.map TY.c)]) (λs12 u25 h=>?_) λs12 h=>?_
  ·refine go h λ_ h=>?_;obtain rfl:=TV h;exact ⟨(s12,(s8.2+V)),u25,Z,trivial,Um⟩
  refine go h λ_ h=>?_;refine tT h u10 (λs16 gh=>[(8,I s16.2),(7,I s8.2),(6,hS Ur 0 gh 2 s16.1.length),(5,eL (cL<|cL cI) v3),(4,eL (cL cI) v2)]) (λs16 gh=>[bE Ur gh 2 46 (s16.1.map TY.c)]) λs16 u18 ws16 h=>?_;refine Ul h (λ_ q19 h=>?_) λ_ q19 h=>?_
  ·refine go h λ_ h=>?_;refine gs h λ_ h=>?_;refine jP (dG [dF,dF,dF,dF,dF,dF,dF,dF,dF,dF,dF,dF,([0],Uq),dF]) (by kernel_rfl) (by kernel_rfl)<|go h λ_ h=>?_;refine fC h (λ_=>EA _) Z Z Z Z Z λv22 _ h=>fN Z (TS.mkF (c:=TY.c) ([v22]:List TY) [(TY.c v22)] QT Z Z Z qD TY.isF Z)<|jL h λg23 h=>fW 0 [] Z Z (λG hG=>EvA.app1 (g:=false) (l:=s16.1) v22 QT (by kernel_rfl) Z Z (hG.a0 Z) nofun (cu.fz (l:=([v22]:List TY)) Z qD) g23) ?_;refine go h λ_ h=>?_;obtain rfl:=TV h;exact ⟨((s16.1++[v22]),(s16.2+V)),u18+1,Z,trivial,Um⟩
  refine jM<|lX h λh=>?_
  cases h
  exact ⟨u18,trivial,Um⟩
 refine jM<|lX h λh=>?_
 cases h
 exact ⟨u10,trivial,Um⟩
theorem Cg (p:List<|List TW) {q} (h:nP p=Us q):ax Uv 22 [eL (cL TW.c) p] (eL TY.c q):=by
 refine pM func22 Z (by kernel_rfl) Z<|go h λ_ h=>?_;refine gs h λ_ h=>?_;refine oC h (λ_=>kZ _) Z Z Z Z λv1 _ h=>?_;refine gi h (λ_ q2 h=>?_) λ_ q2 h=>?_
 ·refine go h λ_ h=>?_;refine oN (TS.mkF (c:=TY.c) ([]:List TY) [] QT Z Z Z qD TY.isF Z) ?_;exact gz h
 refine go h λ_ h=>?_;refine oC h (λ_=>E0 _) Z Z Z Z λv3 _ h=>?_;exact gz h
theorem xm (list:LI) (n:Int) {q} (h:lQ list n=Us q):ax Uv 178 [eL cI list,I n] (I q):=by
 refine pM func178 Z (by kernel_rfl) Z<|go h λ_ h=>?_;obtain ⟨Ks1,es1,ws1,h,ks1⟩:=sumL h;refine T.join (S:=Unit) (G:=Unit) (λs1=>Ks1 s1=Us q) (λs1 gh=>True) (λs1 gh=>[]) (λs1 gh=>[]) (λs1 gh h hg=>?_) ?_
 ·clear ks1;subst es1;exact gz h
 refine go h λ_ h=>?_;refine tU h (λs4=>[(5,I s4),(0,eL cI list),(1,I n)]) (λs4=>[]) λs4 ws4 h=>?_;refine Ul h (λ_ q6 h=>?_) λ_ q6 h=>?_
 ·refine go h λ_ h=>?_;refine Ul h (λ_ q8 h=>?_) λ_ q8 h=>?_
  ·refine go h λ_ h=>?_;refine lX h λh=>?_;obtain rfl:=TV h;replace h:=congrArg Us (show _=_ from ks1);exact gz h
  refine go h λ_ h=>?_;exact lE h Um
 refine jM<|lX h λh=>?_
 cases h
 exact ⟨(),(),ks1,trivial,Um⟩
theorem vV (x:TY) (loc:Int) (i:Int) (k_:Int) {q} (h:kH x loc i k_=Us q):ax Uv 144 [.agg (TY.c x),I loc,I i,I k_] (Bo q):=by
 refine pM func144 Z (by kernel_rfl) Z<|go h λ_ h=>?_;refine eF Z Z Z<|go h λ_ h=>?_;refine jH<|T.drawP (by kernel_rfl) (by kernel_rfl) ?_;refine go h λf h=>?_;obtain ⟨g1,_⟩:=f;refine fC h (λ_=>xm _ _) Z Z Z Z Z λv2 _ h=>(go h λ_ h=>?_);refine fC h (λ_=>xm _ _) Z Z Z Z Z λv3 _ h=>?_;exact gz h
theorem CZ (list:List TW) (from_:Int) (to:Int) {q} (h:zn list from_ to=Us q):ax Uv 145 [eL TW.c list,I from_,I to] (Bo q):=by
 refine pM func145 Z (by kernel_rfl) Z<|go h λ_ h=>?_;obtain ⟨Ks1,es1,ws1,h,ks1⟩:=sumL h;refine T.join (S:=Unit) (G:=Unit) (λs1=>Ks1 s1=Us q) (λs1 gh=>True) (λs1 gh=>[]) (λs1 gh=>[]) (λs1 gh h hg=>?_) ?_
 ·clear ks1;subst es1;exact gz h
 refine go h λ_ h=>?_;refine tU h (λs5=>[(7,I s5),(0,eL TW.c list),(2,I to)]) (λs5=>[]) λs5 ws5 h=>?_;refine Ul h (λ_ q7 h=>?_) λ_ q7 h=>?_
 ·refine go h λ_ h=>?_;refine Ul h (λ_ q9 h=>?_) λ_ q9 h=>?_
  ·refine go h λ_ h=>?_;refine lX h λh=>?_;obtain rfl:=TV h;replace h:=congrArg Us (show _=_ from ks1);exact gz h
  refine go h λ_ h=>?_;exact lE h Um
 refine jM<|lX h λh=>?_
 cases h
 exact ⟨(),(),ks1,trivial,Um⟩
theorem EB (p:List<|List TW) (x:TY) (events:List TZ) (name:BA) (i:Int) (k_:Int) {q} (h:rP p x events name i k_=Us q):ax Uv 106 [eL (cL TW.c) p,.agg (TY.c x),eL TZ.c events,St name,I i,I k_] (Bo q):=by
 let d1:=events.getD k_.toNat Uo;let d0:=events.getD i.toNat Uo;refine pM func106 Z (by kernel_rfl) Z<|go h λ_ h=>?_;refine eF Z Z Z<|go h λ_ h=>?_;refine TO.jB h 4 (λs3=>[(33,Bo s3),(14,.hp 1 0 5 0 0),(13,.hp 0 0 5 0 0),(7,.fp (TY.c x) 0),(0,eL (cL TW.c) p),(3,St name),(4,I i),(5,I k_)]) (λs3=>[Us ⟨0,5,75,[(TZ.c d0)]⟩,Us ⟨0,5,75,[(TZ.c d1)]⟩]) (λs3 q4 h js3=>?_) (λs3 q4 h js3=>?_) λs3 h=>?_
 ·refine go h λ_ h=>?_;refine gA Z q4 (lh (I<|d0.Thread) Uk Z Z Z) ?_;exact gj h js3
 ·exact gj h js3
 refine go h λ_ h=>?_;obtain ⟨Ks5,es5,ws5,h,ks5⟩:=sumL h;refine T.join (S:=Unit) (G:=Unit) (λs5=>Ks5 s5=Us q) (λs5 gh=>True) (λs5 gh=>[(3,St name),(4,I i),(5,I k_)]) (λs5 gh=>[Us ⟨0,5,75,[(TZ.c d0)]⟩,Us ⟨0,5,75,[(TZ.c d1)]⟩]) (λs5 gh h hg=>?_) ?_
 ·clear ks5;subst es5;refine go h λ_ h=>?_;refine TO.jB h 4 (λs51=>[(188,Bo s51)]) (λs51=>[Us ⟨0,5,75,[(TZ.c d0)]⟩,Us ⟨0,5,75,[(TZ.c d1)]⟩]) (λs51 q52 h js51=>?_) (λs51 q52 h js51=>?_) λs51 h=>?_
  ·exact gj h js51
  ·exact gj h js51
  exact gz h
 refine gi h (λ_ q6 h=>?_) λ_ q6 h=>?_
 ·refine go h λ_ h=>?_;refine TO.jB h 6 (λs7=>[(44,Bo s7)]) (λs7=>[Us ⟨0,5,75,[(TZ.c d0)]⟩,Us ⟨0,5,75,[(TZ.c d1)]⟩]) (λs7 q8 h js7=>?_) (λs7 q8 h js7=>?_) λs7 h=>?_
  ·refine go h λ_ h=>?_;refine gA Z q8 (lh (I<|d0.Index) Uk Z Z Z)<|go h λ_ h=>?_;refine gA Z q8 (lh (I<|d1.Index) Uk Z Z Z) ?_;exact gj h js7
  ·exact gj h js7
  refine go h λ_ h=>?_;obtain rfl:=TV h;replace h:=congrArg Us (show _=_ from ks5);exact gz h
 refine gi h (λ_ q9 h=>?_) λ_ q9 h=>?_
 ·refine go h λ_ h=>?_;obtain rfl:=TV h;replace h:=congrArg Us (show _=_ from ks5);exact gz h
 refine gi h (λ_ q10 h=>?_) λ_ q10 h=>?_
 ·refine go h λ_ h=>?_;obtain rfl:=TV h;replace h:=congrArg Us (show _=_ from ks5);exact gz h
 refine gi h (λ_ q11 h=>?_) λ_ q11 h=>?_
 ·refine go h λ_ h=>?_;refine TO.jB h 8 (λs12=>[(68,Bo s12)]) (λs12=>[Us ⟨0,5,75,[(TZ.c d0)]⟩,Us ⟨0,5,75,[(TZ.c d1)]⟩]) (λs12 q13 h js12=>?_) (λs12 q13 h js12=>?_) λs12 h=>?_
  ·exact gj h js12
  ·exact gj h js12
  refine go h λ_ h=>?_;obtain rfl:=TV h;replace h:=congrArg Us (show _=_ from ks5);exact gz h
 refine gi h (λ_ q15 h=>?_) λ_ q15 h=>?_
 ·refine go h λ_ h=>?_;refine TO.jB h 3 (λs16=>[(76,Bo s16),(14,.hp 1 0 5 0 0),(13,.hp 0 0 5 0 0),(7,.fp (TY.c x) 0),(4,I i),(5,I k_)]) (λs16=>[Us ⟨0,5,75,[(TZ.c d0)]⟩,Us ⟨0,5,75,[(TZ.c d1)]⟩]) (λs16 q17 h js16=>?_) (λs16 q17 h js16=>?_) λs16 h=>?_
  ·refine go h λ_ h=>?_;refine gA Z q17 (lh (Bo<|d1.bq) ty4 Z Z Z) ?_;exact gj h js16
  ·exact gj h js16
  refine go h λ_ h=>?_;refine TO.jB h 6 (λs18=>[(83,Bo s18),(13,.hp 0 0 5 0 0),(7,.fp (TY.c x) 0),(4,I i),(5,I k_)]) (λs18=>[Us ⟨0,5,75,[(TZ.c d0)]⟩,Us ⟨0,5,75,[(TZ.c d1)]⟩]) (λs18 q19 h js18=>?_) (λs18 q19 h js18=>?_) λs18 h=>?_
  ·refine go h λ_ h=>?_;refine gA Z q19 (lh (I<|d0.Loc) Uk Z Z Z)<|go h λ_ h=>?_;refine gA Z q19 (lh (I<|d1.Loc) Uk Z Z Z) ?_;exact gj h js18
  ·exact gj h js18
  refine go h λ_ h=>?_;refine TO.jB h 7 (λs20=>[(91,Bo s20)]) (λs20=>[Us ⟨0,5,75,[(TZ.c d0)]⟩,Us ⟨0,5,75,[(TZ.c d1)]⟩]) (λs20 q21 h js20=>?_) (λs20 q21 h js20=>?_) λs20 h=>?_
  ·refine go h λ_ h=>?_;refine gA Z q21 (lh (I<|d0.Loc) Uk Z Z Z)<|go h λ_ h=>?_;refine jB h λv22 cv22 h=>gN Z q21 (TS.call Z Z Z (vV x (d0.Loc) i k_ cv22) Z) ?_;exact gj h js20
  ·exact gj h js20
  refine go h λ_ h=>?_;obtain rfl:=TV h;replace h:=congrArg Us (show _=_ from ks5);exact gz h
 refine gi h (λ_ q23 h=>?_) λ_ q23 h=>?_
 ·refine T.jU h (λs24=>[(12,Bo s24)]) (λs24=>[Us ⟨0,5,75,[(TZ.c d0)]⟩,Us ⟨0,5,75,[(TZ.c d1)]⟩]) (λs24 h=>?_) λs24 h=>?_
  ·refine go h λ_ h=>?_;obtain rfl:=TV h;replace h:=congrArg Us (show _=_ from ks5);exact gz h
  refine T.cl [14,13,7,4,5] Z<|T.drawG (dG [dF,([0],Ur),dF,dF,([1],Ur),dF,dF,dF,([0],Ur),dF,([1],Ur),dF,dF,dF,dF,dF,dF,dF,dF,dF,dF,([0],Ur),dF,dF,dF,dF,dF,dF,dF,dF,dF]) (by kernel_rfl) (by kernel_rfl) ?_;refine go h λ_ h=>?_;rcases CN h with ⟨q25,h⟩ | ⟨q25,h⟩
  ·refine go h λ_ h=>?_;refine tgR Z q25 [1] Z (λG hG=>EvA.loadhp (Bo<|d1.bq) ty4 Z (hG.a0 Z) Z Z Z Z)<|gp h λ_ h=>?_;refine go h λ_ h=>?_;rcases CN h with ⟨q26,h⟩ | ⟨q26,h⟩
   ·refine go h λ_ h=>?_;refine tgR Z q26 [0] Z (λG hG=>EvA.loadhp (I<|d0.Loc) Uk Z (hG.a0 Z) Z Z Z Z)<|go h λ_ h=>?_;refine tgR Z q26 [1] Z (λG hG=>EvA.loadhp (I<|d1.Loc) Uk Z (hG.a0 Z) Z Z Z Z)<|gp h λ_ h=>?_;refine go h λ_ h=>?_;rcases CN h with ⟨q27,h⟩ | ⟨q27,h⟩
    ·refine gp h λ_ h=>?_;refine go h λ_ h=>?_;rcases CN h with ⟨q28,h⟩ | ⟨q28,h⟩
     ·refine go h λ_ h=>?_;refine tgR Z q28 [0] Z (λG hG=>EvA.loadhp (I<|d0.Loc) Uk Z (hG.a0 Z) Z Z Z Z)<|go h λ_ h=>?_;refine jB h λv30 cv30 h=>tgN Z q28 Z (TS.call Z Z Z (vV x (d0.Loc) (J x.From i) k_ cv30) Z)<|gp h λ_ h=>?_;refine go h λ_ h=>?_
      cases h
      exact ⟨(),trivial,Um⟩
     refine gp h λ_ h=>?_;refine go h λ_ h=>?_
     cases h
     exact ⟨(),trivial,Um⟩
    refine gp h λ_ h=>?_;refine gp h λ_ h=>?_;refine go h λ_ h=>?_
    cases h
    exact ⟨(),trivial,Um⟩
   refine gp h λ_ h=>?_;refine gp h λ_ h=>?_;refine gp h λ_ h=>?_;refine go h λ_ h=>?_
   cases h
   exact ⟨(),trivial,Um⟩
  refine gp h λ_ h=>?_;refine gp h λ_ h=>?_;refine gp h λ_ h=>?_;refine gp h λ_ h=>?_;refine go h λ_ h=>?_
  cases h
  exact ⟨(),trivial,Um⟩
 refine gi h (λ_ q31 h=>?_) λ_ q31 h=>?_
 ·refine T.jU h (λs32=>[(12,Bo s32)]) (λs32=>[Us ⟨0,5,75,[(TZ.c d0)]⟩,Us ⟨0,5,75,[(TZ.c d1)]⟩]) (λs32 h=>?_) λs32 h=>?_
  ·refine go h λ_ h=>?_;obtain rfl:=TV h;replace h:=congrArg Us (show _=_ from ks5);exact gz h
  refine T.cl [15,14,13,0] Z<|T.drawG (dG [dF,dF,dF,([0],Ur),dF,([1],Ur),dF,dF,dF,dF,dF,([0],Ur),dF,dF,dF,([0],Ur),dF,([1],Ur),dF,dF,dF]) (by kernel_rfl) (by kernel_rfl) ?_;refine go h λ_ h=>?_;rcases CN h with ⟨q33,h⟩ | ⟨q33,h⟩
  ·refine go h λ_ h=>?_;refine tgR Z q33 [0] Z (λG hG=>EvA.loadhp (I<|d0.Index) Uk Z (hG.a0 Z) Z Z Z Z)<|go h λ_ h=>?_;refine tgR Z q33 [1] Z (λG hG=>EvA.loadhp (I<|d1.Index) Uk Z (hG.a0 Z) Z Z Z Z)<|gp h λ_ h=>?_;refine go h λ_ h=>?_;rcases CN h with ⟨q34,h⟩ | ⟨q34,h⟩
   ·refine go h λ_ h=>?_;refine tgR Z q34 [0] Z (λG hG=>EvA.loadhp (I<|d0.Thread) Uk Z (hG.a0 Z) Z Z Z Z)<|go h λ_ h=>?_;refine tgR Z q34 [0] Z (λG hG=>EvA.loadhp (I<|d0.Index) Uk Z (hG.a0 Z) Z Z Z Z)<|go h λ_ h=>?_;refine tgR Z q34 [1] Z (λG hG=>EvA.loadhp (I<|d1.Index) Uk Z (hG.a0 Z) Z Z Z Z)<|jB h λv36 cv36 h=>tgN Z q34 Z (TS.call Z Z Z (CZ (J p<|d0.Thread) (d0.Index) (d1.Index) cv36) Z) ?_;refine gp h λ_ h=>?_;refine go h λ_ h=>?_
    cases h
    exact ⟨(),trivial,Um⟩
   refine gp h λ_ h=>?_;refine go h λ_ h=>?_
   cases h
   exact ⟨(),trivial,Um⟩
  refine gp h λ_ h=>?_;refine gp h λ_ h=>?_;refine go h λ_ h=>?_
  cases h
  exact ⟨(),trivial,Um⟩
 refine gi h (λ_ q37 h=>?_) λ_ q37 h=>?_
 ·refine go h λ_ h=>?_;refine TO.jB h 4 (λs38=>[(154,Bo s38),(14,.hp 1 0 5 0 0)]) (λs38=>[Us ⟨0,5,75,[(TZ.c d0)]⟩,Us ⟨0,5,75,[(TZ.c d1)]⟩]) (λs38 q39 h js38=>?_) (λs38 q39 h js38=>?_) λs38 h=>?_
  ·refine go h λ_ h=>?_;refine gA Z q39 (lh (Bo<|d0.Reads) ty4 Z Z Z) ?_;exact gj h js38
  ·exact gj h js38
  refine go h λ_ h=>?_;refine TO.jB h 3 (λs40=>[(158,Bo s40),(14,.hp 1 0 5 0 0)]) (λs40=>[Us ⟨0,5,75,[(TZ.c d0)]⟩,Us ⟨0,5,75,[(TZ.c d1)]⟩]) (λs40 q41 h js40=>?_) (λs40 q41 h js40=>?_) λs40 h=>?_
  ·refine go h λ_ h=>?_;refine gA Z q41 (lh (Bo<|d1.Reads) ty4 Z Z Z) ?_;exact gj h js40
  ·exact gj h js40
  refine go h λ_ h=>?_;refine TO.jB h 4 (λs42=>[(163,Bo s42)]) (λs42=>[Us ⟨0,5,75,[(TZ.c d0)]⟩,Us ⟨0,5,75,[(TZ.c d1)]⟩]) (λs42 q43 h js42=>?_) (λs42 q43 h js42=>?_) λs42 h=>?_
  ·refine go h λ_ h=>?_;refine gA Z q43 (lh (Bo<|d1.bq) ty4 Z Z Z) ?_;exact gj h js42
  ·exact gj h js42
  refine go h λ_ h=>?_;obtain rfl:=TV h;replace h:=congrArg Us (show _=_ from ks5);exact gz h
 refine gi h (λ_ q44 h=>?_) λ_ q44 h=>?_
 ·refine go h λ_ h=>?_;refine TO.jB h 4 (λs45=>[(172,Bo s45),(14,.hp 1 0 5 0 0)]) (λs45=>[Us ⟨0,5,75,[(TZ.c d0)]⟩,Us ⟨0,5,75,[(TZ.c d1)]⟩]) (λs45 q46 h js45=>?_) (λs45 q46 h js45=>?_) λs45 h=>?_
  ·refine go h λ_ h=>?_;refine gA Z q46 (lh (Bo<|d0.Reads) ty4 Z Z Z) ?_;exact gj h js45
  ·exact gj h js45
  refine go h λ_ h=>?_;refine TO.jB h 3 (λs47=>[(176,Bo s47),(14,.hp 1 0 5 0 0)]) (λs47=>[Us ⟨0,5,75,[(TZ.c d0)]⟩,Us ⟨0,5,75,[(TZ.c d1)]⟩]) (λs47 q48 h js47=>?_) (λs47 q48 h js47=>?_) λs47 h=>?_
  ·refine go h λ_ h=>?_;refine gA Z q48 (lh (Bo<|d1.bq) ty4 Z Z Z) ?_;exact gj h js47
  ·exact gj h js47
  refine go h λ_ h=>?_;refine TO.jB h 4 (λs49=>[(181,Bo s49)]) (λs49=>[Us ⟨0,5,75,[(TZ.c d0)]⟩,Us ⟨0,5,75,[(TZ.c d1)]⟩]) (λs49 q50 h js49=>?_) (λs49 q50 h js49=>?_) λs49 h=>?_
  ·refine go h λ_ h=>?_;refine gA Z q50 (lh (Bo<|d1.Reads) ty4 Z Z Z) ?_;exact gj h js49
  ·exact gj h js49
  refine go h λ_ h=>?_;obtain rfl:=TV h;replace h:=congrArg Us (show _=_ from ks5);exact gz h
 refine go h λ_ h=>?_
 cases h
 exact ⟨(),(),ks5,trivial,Um⟩
theorem qp (p:List<|List TW) (x:TY) (name:BA) {q} (h:kI p x name=Us q):ax Uv 66 [eL (cL TW.c) p,.agg (TY.c x),St name] (eL cI q):=by
 refine pM func66 Z (by kernel_rfl) Z<|go h λ_ h=>?_;refine eF Z Z Z<|go h λ_ h=>?_;refine oC h (λ_=>p8 _) Z Z Z Z λv1 _ h=>(go h λ_ h=>?_);refine oA (EvA.mkO (c:=cI) ([]:LI) [] lK Z Z Z qD Z Z)<|go h λ_ h=>?_;refine tJ h (λs2 gh=>[(8,hS Ur 0 gh 1 s2.length)]) (λs2 gh=>[bE Ur gh 1 3 (s2.map cI)]) (λs2 u25 h=>?_) λs2 h=>?_
 ·exact gf h
 refine go h λ_ h=>?_;refine tT h 0 (λs6 gh=>[(9,I s6.2),(8,hS Ur 0 gh 1 s6.1.length),(7,eL TZ.c v1),(4,.fp (TY.c x) 0),(0,eL (cL TW.c) p),(2,St name)]) (λs6 gh=>[bE Ur gh 1 3 (s6.1.map cI)]) λs6 u8 ws6 h=>?_;refine Ul h (λ_ q9 h=>?_) λ_ q9 h=>?_
 ·refine go h λ_ h=>?_;refine tJ h (λs10 gh=>[(8,hS Ur 0 gh 1 s10.length),(9,I s6.2),(7,eL TZ.c v1),(4,.fp (TY.c x) 0),(0,eL (cL TW.c) p),(2,St name)]) (λs10 gh=>[bE Ur gh 1 3 (s10.map cI)]) (λs10 u23 h=>?_) λs10 h=>?_
  ·refine go h λ_ h=>?_;obtain rfl:=TV h;exact ⟨(s10,(s6.2+V)),u23,Z,trivial,Um⟩
  refine go h λ_ h=>?_;refine T.jU h (λs11=>[(10,I s11),(9,I s6.2),(8,hS Ur 0 u8 1 s6.1.length),(7,eL TZ.c v1),(4,.fp (TY.c x) 0),(0,eL (cL TW.c) p),(2,St name)]) (λs11=>[bE Ur u8 1 3 (s6.1.map cI)]) (λs11 h=>?_) λs11 h=>?_
  ·refine gk h λ_ _ h=>?_
   cases h
   exact ⟨u8+1,trivial,Um⟩
  refine go h λ_ h=>?_;refine tU h (λs14=>[(11,I s14.1),(10,I s14.2),(9,I s6.2),(8,hS Ur 0 u8 1 s6.1.length),(7,eL TZ.c v1),(4,.fp (TY.c x) 0),(0,eL (cL TW.c) p),(2,St name)]) (λs14=>[bE Ur u8 1 3 (s6.1.map cI)]) λs14 ws14 h=>?_;refine Ul h (λ_ q16 h=>?_) λ_ q16 h=>?_
  ·refine go h λ_ h=>?_;refine T.jU h (λs17=>[(10,I s17),(11,I s14.1),(9,I s6.2),(8,hS Ur 0 u8 1 s6.1.length),(7,eL TZ.c v1),(4,.fp (TY.c x) 0),(0,eL (cL TW.c) p),(2,St name)]) (λs17=>[bE Ur u8 1 3 (s6.1.map cI)]) (λs17 h=>?_) λs17 h=>?_
   ·refine go h λ_ h=>?_;exact lE h Um
   refine go h λ_ h=>?_;refine oC h (λ_=>EB _ _ _ _ _ _) Z Z Z Z λv18 _ h=>?_;refine gi h (λ_ q19 h=>?_) λ_ q19 h=>?_
   ·refine go h λ_ h=>?_
    cases h
    exact ⟨(),trivial,Um⟩
   refine go h λ_ h=>?_
   cases h
   exact ⟨(),trivial,Um⟩
  refine jM<|lX h λh=>?_
  cases h
  exact ⟨(),trivial,Um⟩
 refine jM<|lX h λh=>?_
 cases h
 exact ⟨u8,trivial,Um⟩
theorem rG (a:LI) (b:LI) {q} (h:jJ a b=Us q):ax Uv 67 [eL cI a,eL cI b] (eL cI q):=by
 refine pM func67 Z (by kernel_rfl) Z<|go h λ_ h=>?_;refine oA (EvA.mkO (c:=cI) ([]:LI) [] lK Z Z Z qD Z Z)<|go h λ_ h=>?_;refine tJ h (λs1 gh=>[(5,hS Ur 0 gh 1 s1.length)]) (λs1 gh=>[bE Ur gh 1 3 (s1.map cI)]) (λs1 u13 h=>?_) λs1 h=>?_
 ·exact gf h
 refine go h λ_ h=>?_;refine tT h 0 (λs5 gh=>[(6,I s5.2),(5,hS Ur 0 gh 1 s5.1.length),(0,eL cI a),(1,eL cI b)]) (λs5 gh=>[bE Ur gh 1 3 (s5.1.map cI)]) λs5 u7 ws5 h=>?_;refine Ul h (λ_ q8 h=>?_) λ_ q8 h=>?_
 ·refine go h λ_ h=>?_;refine gs h λ_ h=>?_;refine jP (dG [dF,dF,dF,dF,dF,dF,dF,dF,dF,dF,dF,([0],Uq),dF]) (by kernel_rfl) (by kernel_rfl)<|gk h λ_ _ h=>?_;refine jL h λg11 h=>fW 0 [] Z Z (λG hG=>EvA.app1 (g:=false) (l:=s5.1) (bOr .i64 (J a s5.2)<|J b s5.2) lK (by kernel_rfl) Z Z (hG.a0 Z) nofun (cu.fz (l:=([(bOr .i64 (J a s5.2)<|J b s5.2)]:LI)) Z qD) g11)<|go h λ_ h=>?_;obtain rfl:=TV h;exact ⟨((s5.1++[(bOr .i64 (J a s5.2)<|J b s5.2)]),(s5.2+V)),u7+1,Z,trivial,Um⟩
 refine jM<|lX h λh=>?_
 cases h
 exact ⟨u7,trivial,Um⟩
theorem Be (p:List<|List TW) (x:TY) {q} (h:l9 p x=Us q):ax Uv 24 [eL (cL TW.c) p,.agg (TY.c x)] (eL cI q):=by
 refine pM func24 Z (by kernel_rfl) Z<|go h λ_ h=>?_;refine eF Z Z Z<|go h λ_ h=>?_;refine oC h (λ_=>qp _ _ _) Z Z Z Z λv1 _ h=>(go h λ_ h=>?_);refine oC h (λ_=>qp _ _ _) Z Z Z Z λv2 _ h=>oC h (λ_=>rG _ _) Z Z Z Z λv3 _ h=>(go h λ_ h=>?_);refine oC h (λ_=>qp _ _ _) Z Z Z Z λv4 _ h=>oC h (λ_=>rG _ _) Z Z Z Z λv5 _ h=>(go h λ_ h=>?_);refine oC h (λ_=>qp _ _ _) Z Z Z Z λv6 _ h=>oC h (λ_=>rG _ _) Z Z Z Z λv7 _ h=>?_;exact gz h
theorem EC (n:Int) {q} (h:wE n=Us q):ax Uv 63 [I n] (I q):=by
 refine pM func63 Z (by kernel_rfl) Z ?_;exact gz h
theorem Ci (events:List TZ) (t:Int) (index:Int) {q} (h:nQ events t index=Us q):ax Uv 64 [eL TZ.c events,I t,I index] (I q):=by
 refine pM func64 Z (by kernel_rfl) Z<|go h λ_ h=>?_;obtain ⟨Ks1,es1,ws1,h,ks1⟩:=sumL h;refine T.join (S:=Unit) (G:=Unit) (λs1=>Ks1 s1=Us q) (λs1 gh=>True) (λs1 gh=>[]) (λs1 gh=>[]) (λs1 gh h hg=>?_) ?_
 ·clear ks1;subst es1;exact gz h
 refine go h λ_ h=>?_;refine tU h (λs4=>[(7,I s4),(0,eL TZ.c events),(1,I t),(2,I index)]) (λs4=>[]) λs4 ws4 h=>?_;refine Ul h (λ_ q6 h=>?_) λ_ q6 h=>?_
 ·refine go h λ_ h=>?_;refine gs h λf h=>?_;obtain ⟨g7,_⟩:=f;refine TO.jB h 8 (λs8=>[(29,Bo s8),(7,I s4),(0,eL TZ.c events),(1,I t),(2,I index)]) (λs8=>[]) (λs8 q9 h js8=>?_) (λs8 q9 h js8=>?_) λs8 h=>?_
  ·exact gj h js8
  ·exact gj h js8
  refine gi h (λ_ q10 h=>?_) λ_ q10 h=>?_
  ·refine go h λ_ h=>?_;refine lX h λh=>?_;obtain rfl:=TV h;replace h:=congrArg Us (show _=_ from ks1);exact gz h
  refine go h λ_ h=>?_;exact lE h Um
 refine jM<|lX h λh=>?_
 cases h
 exact ⟨(),(),ks1,trivial,Um⟩
theorem E5 (r_:LI) (i:Int) (k_:Int) {q} (h:xX r_ i k_=Us q):ax Uv 105 [eL cI r_,I i,I k_] (Bo q):=by
 refine pM func105 Z (by kernel_rfl) Z ?_;exact gz h
theorem Cj (before:LI) (done:Int) (k_:Int) {q} (h:nR before done k_=Us q):ax Uv 65 [eL cI before,I done,I k_] (Bo q):=by
 refine pM func65 Z (by kernel_rfl) Z<|go h λ_ h=>?_;obtain ⟨Ks1,es1,ws1,h,ks1⟩:=sumL h;refine T.join (S:=Unit) (G:=Unit) (λs1=>Ks1 s1=Us q) (λs1 gh=>True) (λs1 gh=>[]) (λs1 gh=>[]) (λs1 gh h hg=>?_) ?_
 ·clear ks1;subst es1;exact gz h
 refine go h λ_ h=>?_;refine tU h (λs4=>[(7,I s4),(0,eL cI before),(1,I done),(2,I k_)]) (λs4=>[]) λs4 ws4 h=>?_;refine Ul h (λ_ q6 h=>?_) λ_ q6 h=>?_
 ·refine go h λ_ h=>?_;refine gs h λ_ h=>?_;refine oC h (λ_=>E5 _ _ _) Z Z Z Z λv7 _ h=>(go h λ_ h=>?_);refine TO.jB h 6 (λs8=>[(24,Bo s8),(7,I s4),(0,eL cI before),(1,I done),(2,I k_)]) (λs8=>[]) (λs8 q9 h js8=>?_) (λs8 q9 h js8=>?_) λs8 h=>?_
  ·exact gj h js8
  ·exact gj h js8
  refine gi h (λ_ q11 h=>?_) λ_ q11 h=>?_
  ·refine go h λ_ h=>?_;refine lX h λh=>?_;obtain rfl:=TV h;replace h:=congrArg Us (show _=_ from ks1);exact gz h
  refine go h λ_ h=>?_;exact lE h Um
 refine jM<|lX h λh=>?_
 cases h
 exact ⟨(),(),ks1,trivial,Um⟩
theorem C0 (p:List<|List TW) (before:LI) {q} (h:gT p before=Us q):ax Uv 23 [eL (cL TW.c) p,eL cI before] (.tup [eL cI q.1,Bo q.2]):=by
 refine pM func23 Z (by kernel_rfl) Z<|go h λ_ h=>?_;refine oC h (λ_=>p8 _) Z Z Z Z λv1 _ h=>(go h λ_ h=>?_);refine jD h λg2 h=>oA (EvA.mkN (c:=cI) (Uo:Int) lK Z Z g2 Z Z Z)<|go h λ_ h=>?_;refine oC h (λ_=>EC _) Z Z Z Z λv3 _ h=>(go h λ_ h=>?_);refine oA (EvA.mkO (c:=cI) ([]:LI) [] lK Z Z Z qD Z Z)<|go h λ_ h=>?_;refine T.jF (G:=Nat×Nat) h (λs4 gh=>True) (λs4 gh=>[(9,hS Ur 1 gh.2 1 s4.2.length),(7,hS Ur 0 gh.1 1 s4.1.length),(0,eL (cL TW.c) p)]) (λs4 gh=>[bE Ur gh.1 1 3 (s4.1.map cI),bE Ur gh.2 1 3 (s4.2.map cI)]) (λs4 gh h hg=>?_) λs4 h=>?_
 ·obtain ⟨u42,u43⟩:=gh;obtain ⟨Ks44,es44,ws44,h,ks44⟩:=sumL h;refine T.join (S:=Unit) (G:=Unit) (λs44=>Ks44 s44=Us q) (λs44 gh=>True) (λs44 gh=>[(9,hS Ur 1 u43 1 s4.2.length)]) (λs44 gh=>[bE Ur u42 1 3 (s4.1.map cI),bE Ur u43 1 3 (s4.2.map cI)]) (λs44 gh h hg=>?_) ?_
  ·clear ks44;subst es44;exact gf h
  refine go h λ_ h=>?_;refine tU h (λs47=>[(13,I s47),(9,hS Ur 1 u43 1 s4.2.length),(7,hS Ur 0 u42 1 s4.1.length),(0,eL (cL TW.c) p)]) (λs47=>[bE Ur u42 1 3 (s4.1.map cI),bE Ur u43 1 3 (s4.2.map cI)]) λs47 ws47 h=>?_;refine Ul h (λ_ q49 h=>?_) λ_ q49 h=>?_
  ·refine go h λ_ h=>?_;refine gs h λ_ h=>?_;refine jH<|jP (dG [dF,dF,dF,([0],Ur),dF,dF,dF,dF,dF,dF]) (by kernel_rfl) (by kernel_rfl) ?_;refine gi h (λ_ q52 h=>?_) λ_ q52 h=>?_
   ·refine go h λ_ h=>?_;refine oN (TS.mkF (c:=cI) ([]:LI) [] lK Z Z Z qD qD Z)<|go h λ_ h=>?_;refine lX h λh=>?_;obtain rfl:=TV h;replace h:=congrArg Us (show _=_ from ks44);exact gf h
   refine go h λ_ h=>?_;exact lE h Um
  refine jM<|lX h λh=>?_
  cases h
  exact ⟨(),(),ks44,trivial,Um⟩
 refine go h λ_ h=>?_;refine tT h (0,0) (λs9 gh=>[(10,Bo s9.2.2.1),(9,hS Ur 1 gh.2 1 s9.2.1.length),(8,I s9.2.2.2),(7,hS Ur 0 gh.1 1 s9.1.length),(6,eL TZ.c v1),(0,eL (cL TW.c) p),(1,eL cI before)]) (λs9 gh=>[bE Ur gh.1 1 3 (s9.1.map cI),bE Ur gh.2 1 3 (s9.2.1.map cI)]) λs9 gh ws9 h=>?_;obtain ⟨u11,u12⟩:=gh;refine Ul h (λ_ q13 h=>?_) λ_ q13 h=>?_
 ·refine go h λ_ h=>?_;refine tT h (u11,u12) (λs18 gh=>[(11,I s18.2.2.1),(10,Bo s18.2.2.2.1),(9,hS Ur 1 gh.2 1 s18.2.1.length),(8,I s18.2.2.2.2),(7,hS Ur 0 gh.1 1 s18.1.length),(6,eL TZ.c v1),(0,eL (cL TW.c) p),(1,eL cI before)]) (λs18 gh=>[bE Ur gh.1 1 3 (s18.1.map cI),bE Ur gh.2 1 3 (s18.2.1.map cI)]) λs18 gh ws18 h=>?_;obtain ⟨u20,u21⟩:=gh;refine gs h λ_ h=>?_;refine TO.jB h 3 (λs22=>[(29,Bo s22),(11,I s18.2.2.1),(10,Bo s18.2.2.2.1),(9,hS Ur 1 u21 1 s18.2.1.length),(8,I s18.2.2.2.2),(7,hS Ur 0 u20 1 s18.1.length),(6,eL TZ.c v1),(0,eL (cL TW.c) p),(1,eL cI before)]) (λs22=>[bE Ur u20 1 3 (s18.1.map cI),bE Ur u21 1 3 (s18.2.1.map cI)]) (λs22 q23 h js22=>?_) (λs22 q23 h js22=>?_) λs22 h=>?_
  ·exact gj h js22
  ·exact gj h js22
  refine gi h (λ_ q24 h=>?_) λ_ q24 h=>?_
  ·refine go h λ_ h=>?_;refine T.jF (G:=Nat×Nat) h (λs25 gh=>True) (λs25 gh=>[(11,I s18.2.2.1),(10,Bo s25.2.2.1),(9,hS Ur 1 gh.2 1 s25.2.1.length),(8,I s25.2.2.2),(7,hS Ur 0 gh.1 1 s25.1.length),(6,eL TZ.c v1),(0,eL (cL TW.c) p),(1,eL cI before)]) (λs25 gh=>[bE Ur gh.1 1 3 (s25.1.map cI),bE Ur gh.2 1 3 (s25.2.1.map cI)]) (λs25 gh h hg=>?_) λs25 h=>?_
   ·obtain ⟨u39,u40⟩:=gh;refine go h λ_ h=>?_;obtain rfl:=TV h;exact ⟨(s25.1,s25.2.1,(s18.2.2.1+V),s25.2.2.1,s25.2.2.2),(u39,u40),Z,trivial,Um⟩
   refine go h λ_ h=>?_;refine jH<|jH<|jP (dG [dF,dF,dF,([0],Ur),dF,dF,dF,dF,dF,dF]) (by kernel_rfl) (by kernel_rfl) ?_;refine go h λf h=>?_;obtain ⟨_,g26,_⟩:=f;refine jN Z h (λq28 h=>?_) λq28 h=>?_
   ·refine jM ?_
    cases h
    exact ⟨(u20,u21),trivial,Um⟩
   refine go h λ_ h=>?_;refine oC h (λ_=>Ci _ _ _) Z Z Z Z λv29 _ h=>(go h λ_ h=>?_);refine gs h λ_ h=>?_;refine TO.jB h 6 (λs30=>[(57,Bo s30),(12,I v29),(11,I s18.2.2.1),(10,Bo s18.2.2.2.1),(9,hS Ur 1 u21 1 s18.2.1.length),(8,I s18.2.2.2.2),(7,hS Ur 0 u20 1 s18.1.length),(6,eL TZ.c v1),(0,eL (cL TW.c) p),(1,eL cI before)]) (λs30=>[bE Ur u20 1 3 (s18.1.map cI),bE Ur u21 1 3 (s18.2.1.map cI)]) (λs30 q31 h js30=>?_) (λs30 q31 h js30=>?_) λs30 h=>?_
   ·refine go h λ_ h=>?_;refine jB h λv32 cv32 h=>gN Z q31 (TS.call Z Z Z (Cj before s18.2.2.2.2 v29 cv32) Z) ?_;exact gj h js30
   ·exact gj h js30
   refine gi h (λ_ q33 h=>?_) λ_ q33 h=>?_
   ·refine jM ?_
    cases h
    exact ⟨(u20,u21),trivial,Um⟩
   refine go h λ_ h=>?_;refine T.jU h (λs34=>[(8,I s34),(11,I s18.2.2.1),(9,hS Ur 1 u21 1 s18.2.1.length),(7,hS Ur 0 u20 1 s18.1.length),(6,eL TZ.c v1),(0,eL (cL TW.c) p),(1,eL cI before)]) (λs34=>[bE Ur u20 1 3 (s18.1.map cI),bE Ur u21 1 3 (s18.2.1.map cI)]) (λs34 h=>?_) λs34 h=>?_
   ·refine go h λ_ h=>?_;refine oV (EvA.stO (g:=false) (l:=s18.1) (cs:=[I ((J s18.1 s18.2.2.1)+V)]) ((J s18.1 s18.2.2.1)+V) Uk Z Z Z nofun (aG Z g26) Z Z Z)<|gk h λ_ _ h=>?_;obtain rfl:=TV h;exact ⟨(u20,u21+1),trivial,BB Z<|TR Z<|TR Z<|TR Z<|TR Z<|TR (congrArg (hS Ur 0 u20 1) (by simp:s18.1.length=(s18.1.set s18.2.2.1.toNat<|(J s18.1 s18.2.2.1)+(1:Int)).length))<|TR Z<|TR Z<|TR Z TQ⟩
   refine gi h (λ_ q35 h=>?_) λ_ q35 h=>?_
   ·refine go h λ_ h=>?_
    cases h
    exact ⟨(),trivial,Um⟩
   refine go h λ_ h=>?_
   cases h
   exact ⟨(),trivial,Um⟩
  refine jM<|lX h λh=>?_;obtain rfl:=TV h;exact ⟨(s18.1,s18.2.1,s18.2.2.2.1,s18.2.2.2.2),(u20,u21),Z,trivial,Um⟩
 refine jM<|lX h λh=>?_
 cases h
 exact ⟨(u11,u12),trivial,Um⟩
theorem yt (a:LI) (b:LI) {q} (h:nS a b=Us q):ax Uv 107 [eL cI a,eL cI b] (I q):=by
 refine pM func107 Z (by kernel_rfl) Z<|go h λ_ h=>?_;obtain ⟨Ks1,es1,ws1,h,ks1⟩:=sumL h;refine T.join (S:=Unit) (G:=Unit) (λs1=>Ks1 s1=Us q) (λs1 gh=>True) (λs1 gh=>[]) (λs1 gh=>[]) (λs1 gh h hg=>?_) ?_
 ·clear ks1;subst es1;exact gz h
 refine go h λ_ h=>?_;refine tU h (λs4=>[(5,I s4),(0,eL cI a),(1,eL cI b)]) (λs4=>[]) λs4 ws4 h=>?_;refine gs h λ_ h=>?_;refine TO.jB h 5 (λs6=>[(15,Bo s6),(5,I s4),(0,eL cI a),(1,eL cI b)]) (λs6=>[]) (λs6 q7 h js6=>?_) (λs6 q7 h js6=>?_) λs6 h=>?_
 ·exact gj h js6
 ·exact gj h js6
 refine gi h (λ_ q8 h=>?_) λ_ q8 h=>?_
 ·refine go h λ_ h=>?_;refine gs h λ_ h=>?_;refine jH<|jH<|T.drawP (by kernel_rfl) (by kernel_rfl) ?_;refine go h λf h=>?_;obtain ⟨g10,g9,_⟩:=f;refine jN Z h (λq11 h=>?_) λq11 h=>?_
  ·refine go h λ_ h=>?_;refine lX h λh=>?_;obtain rfl:=TV h;replace h:=congrArg Us (show _=_ from ks1);exact gz h
  refine go h λ_ h=>?_;refine jH<|T.drawP (by kernel_rfl) (by kernel_rfl) ?_;refine gi h (λ_ q12 h=>?_) λ_ q12 h=>?_
  ·refine go h λ_ h=>?_;refine lX h λh=>?_;obtain rfl:=TV h;replace h:=congrArg Us (show _=_ from ks1);exact gz h
  refine go h λ_ h=>?_;exact lE h Um
 refine jM<|lX h λh=>?_
 cases h
 exact ⟨(),(),ks1,trivial,Um⟩
theorem E8 (list:LL) (o_:LI) {q} (h:uE list o_=Us q):ax Uv 68 [eL (cL cI) list,eL cI o_] (eL (cL cI) q):=by
 refine pM func68 Z (by kernel_rfl) Z<|go h λ_ h=>?_;refine T.jU h (λs1=>[(5,I s1),(0,eL (cL cI) list),(1,eL cI o_)]) (λs1=>[]) (λs1 h=>?_) λs1 h=>?_
 ·refine gs h λ_ h=>?_;refine TO.jB h 8 (λs12=>[(34,Bo s12),(5,I s1),(0,eL (cL cI) list),(1,eL cI o_)]) (λs12=>[]) (λs12 q13 h js12=>?_) (λs12 q13 h js12=>?_) λs12 h=>?_
  ·refine go h λ_ h=>?_;refine jB h λv15 cv15 h=>gN Z q13 (TS.call Z Z Z (yt (J list s1) o_ cv15) Z) ?_;exact gj h js12
  ·exact gj h js12
  refine gi h (λ_ q16 h=>?_) λ_ q16 h=>?_
  ·exact gz h
  refine go h λ_ h=>?_;refine oA (EvA.mkO (c:=(cL cI)) ([]:LL) [] vo Z Z Z qD Z Z)<|go h λ_ h=>?_;refine jD h λg17 h=>oN (TS.slL vo Z .no (.yes Z) g17 qD)<|gk h λ_ _ h=>?_;refine jD h λg20 h=>oN (TS.slL vo Z (.yes Z) .no g20 qD) ?_;exact gf h
 refine go h λ_ h=>?_;refine tU h (λs4=>[(5,I s4),(0,eL (cL cI) list),(1,eL cI o_)]) (λs4=>[]) λs4 ws4 h=>?_;refine gs h λ_ h=>?_;refine TO.jB h 8 (λs6=>[(19,Bo s6),(5,I s4),(0,eL (cL cI) list),(1,eL cI o_)]) (λs6=>[]) (λs6 q7 h js6=>?_) (λs6 q7 h js6=>?_) λs6 h=>?_
 ·refine go h λ_ h=>?_;refine jB h λv9 cv9 h=>gN Z q7 (TS.call Z Z Z (yt (J list s4) o_ cv9) Z) ?_;exact gj h js6
 ·exact gj h js6
 refine gi h (λ_ q10 h=>?_) λ_ q10 h=>?_
 ·refine go h λ_ h=>?_;exact lE h Um
 refine jM<|lX h λh=>?_
 cases h
 exact ⟨(),trivial,Um⟩
theorem ED (list:LL) (s:LI) {q} (h:wF list s=Us q):ax Uv 25 [eL (cL cI) list,eL cI s] (eL (cL cI) q):=by
 refine pM func25 Z (by kernel_rfl) Z<|go h λ_ h=>?_;refine oC h (λ_=>E8 _ _) Z Z Z Z λv1 _ h=>?_;exact gz h
theorem Bf (p:List<|List TW) {q} (h:gm p=Us q):ax Uv 8 [eL (cL TW.c) p] (eL (cL cI) q):=by
 refine pM func8 Z (by kernel_rfl) Z<|go h λ_ h=>?_;refine oN (TS.mkF (c:=(cL cI)) ([]:LL) [] vo Z Z Z qD qD Z)<|go h λ_ h=>?_;refine oC h (λ_=>Cg _) Z Z Z Z λv1 _ h=>(go h λ_ h=>?_);refine T.jU h (λs2=>[(3,eL (cL cI) s2)]) (λs2=>[]) (λs2 h=>?_) λs2 h=>?_
 ·exact gz h
 refine go h λ_ h=>?_;refine tU h (λs5=>[(5,I s5.1),(4,eL TY.c v1),(3,eL (cL cI) s5.2),(0,eL (cL TW.c) p)]) (λs5=>[]) λs5 ws5 h=>?_;refine Ul h (λ_ q7 h=>?_) λ_ q7 h=>?_
 ·refine go h λ_ h=>?_;refine T.jU h (λs8=>[(3,eL (cL cI) s8),(5,I s5.1),(4,eL TY.c v1),(0,eL (cL TW.c) p)]) (λs8=>[]) (λs8 h=>?_) λs8 h=>?_
  ·refine go h λ_ h=>?_;exact lE h Um
  refine go h λ_ h=>?_;refine oC h (λ_=>Be _ _) Z Z Z Z λv10 _ h=>oC h (λ_=>C0 _ _) Z Z Z Z λv11 _ h=>?_;refine gi h (λ_ q12 h=>?_) λ_ q12 h=>?_
  ·refine go h λ_ h=>?_;refine oC h (λ_=>ED _ _) Z Z Z Z λv13 _ h=>(go h λ_ h=>?_)
   cases h
   exact ⟨(),trivial,Um⟩
  refine go h λ_ h=>?_
  cases h
  exact ⟨(),trivial,Um⟩
 refine jM<|lX h λh=>?_
 cases h
 exact ⟨(),trivial,Um⟩
theorem EE (p:List<|List TW) {q} (h:Ay p=Us q):ax Uv 109 [eL (cL TW.c) p] (.ifc 192<|.fp (Ua.c q) 0):=by
 refine pM func109 Z (by kernel_rfl) Z<|go h λ_ h=>?_;refine eF Z Z Z ?_;exact gz h
theorem lJ (v:T9) (t:Int) {q} (h:dW v t=Us q):ax Uv 234 [.fp (T9.c v) 0,I t] (.tup [.agg (TW.c q.1),Bo q.2]):=by
 refine pM func234 Z (by kernel_rfl) Z<|go h λ_ h=>?_;refine jH<|jH<|T.drawP (by kernel_rfl) (by kernel_rfl) ?_;refine go h λf h=>?_;obtain ⟨g1,_⟩:=f;refine fN Z (lf1 (λz0=>Y<|Z3b.get v.pc z0) g1 ty5 Z Z Z Z)<|go h λf h=>?_;obtain ⟨g3,_⟩:=f;refine jN Z h (λq4 h=>?_) λq4 h=>?_
 ·exact gf h
 refine go h λ_ h=>?_;refine jH ?_;refine T.cl [4,0,1] Z<|jP (dG [dF,dF,dF,dF,dF,dF,dF,dF,dF,dF,dF,dF,dF,dF,dF,([0],Uq),dF]) (by kernel_rfl) (by kernel_rfl) ?_;refine go h λ_ h=>?_;refine fN Z (lf1 (λz0=>Y<|Z3b.get v.pc z0) g1 ty5 Z Z Z Z) ?_;exact gf h
theorem Bg (s:Ua) {q} (h:mf s=Us q):ax Uv 232 [.fp (Ua.c s) 0] (eL cI q):=by
 refine pM func232 Z (by kernel_rfl) Z<|jI ?_;refine gq h λ_ h=>?_;refine jH<|T.reserve ?_;refine go h λ_ h=>?_;refine T.jF (G:=(Bool×Nat)) h (λs1 gh=>(gh.1=Uq->s1=[])) (λs1 gh=>[(3,hS gh.1 0 gh.2 1 s1.length)]) (λs1 gh=>[bE gh.1 gh.2 1 3 (s1.map cI)]) (λs1 gh h n23=>?_) λs1 h=>?_
 ·obtain ⟨b22,u21⟩:=gh;exact gf h
 refine go h λ_ h=>?_;refine tL h (Uq,0) (λs7 gh=>(gh.1=Uq->s7.1=[])) (λs7 gh=>[(13,I s7.2),(12,I (s.values.p.length:Int)),(3,hS gh.1 0 gh.2 1 s7.1.length),(0,.fp (Ua.c s) 0)]) (λs7 gh=>[bE gh.1 gh.2 1 3 (s7.1.map cI)]) qD λs7 gh ws7 h n11=>?_;obtain ⟨b10,u9⟩:=gh;refine go h λ_ h=>?_;refine jH ?_;refine jN Z h (λq12 h=>?_) λq12 h=>?_
 ·refine go h λ_ h=>?_;refine T.jF (G:=(Bool×Nat)) h (λs13 gh=>(gh.1=Uq->s13=[])) (λs13 gh=>[(3,hS gh.1 0 gh.2 1 s13.length),(13,I s7.2),(12,I (s.values.p.length:Int)),(0,.fp (Ua.c s) 0)]) (λs13 gh=>[bE gh.1 gh.2 1 3 (s13.map cI)]) (λs13 gh h n19=>?_) λs13 h=>?_
  ·obtain ⟨b18,u17⟩:=gh;refine go h λ_ h=>?_;obtain rfl:=TV h;exact ⟨(s13,(s7.2+V)),(b18,u17),Z,n19,Um⟩
  refine go h λ_ h=>?_;refine oC h (λ_=>lJ _ _) Z Z Z Z λv14 _ h=>?_;refine gi h (λ_ q15 h=>?_) λ_ q15 h=>?_
  ·refine gk h λ_ _ h=>?_
   cases h
   exact ⟨(Ur,u9+1),nofun,Um⟩
  refine go h λ_ h=>?_
  cases h
  exact ⟨(b10,u9),n11,Um⟩
 refine jM<|lX h λh=>?_
 cases h
 exact ⟨(b10,u9),n11,Um⟩
theorem iT (s:LI) (v:Int) {q} (h:bK s v=Us q):ax Uv 201 [eL cI s,I v] (I q):=by
 refine pM func201 Z (by kernel_rfl) Z<|go h λ_ h=>?_;obtain ⟨Ks1,es1,ws1,h,ks1⟩:=sumL h;refine T.join (S:=Unit) (G:=Unit) (λs1=>Ks1 s1=Us q) (λs1 gh=>True) (λs1 gh=>[]) (λs1 gh=>[]) (λs1 gh h hg=>?_) ?_
 ·clear ks1;subst es1;exact gz h
 refine go h λ_ h=>?_;refine tU h (λs4=>[(8,I s4),(7,I (s.length:Int)),(0,eL cI s),(1,I v)]) (λs4=>[]) λs4 ws4 h=>?_;refine go h λ_ h=>?_;refine jH ?_;refine jN Z h (λq6 h=>?_) λq6 h=>?_
 ·refine go h λ_ h=>?_;refine Ul h (λ_ q8 h=>?_) λ_ q8 h=>?_
  ·refine go h λ_ h=>?_;refine lX h λh=>?_;obtain rfl:=TV h;replace h:=congrArg Us (show _=_ from ks1);exact gz h
  refine go h λ_ h=>?_;exact lE h Um
 refine jM<|lX h λh=>?_
 cases h
 exact ⟨(),(),ks1,trivial,Um⟩
theorem tX (s:LI) (v:Int) {q} (h:dN s v=Us q):ax Uv 179 [eL cI s,I v] (Bo q):=by
 refine pM func179 Z (by kernel_rfl) Z<|go h λ_ h=>?_;refine oC h (λ_=>iT _ _) Z Z Z Z λv1 _ h=>?_;exact gz h
theorem xz (v:T9) (t:Int) (x:TW) {q} (h:lC v t x=Us q):ax Uv 235 [.fp (T9.c v) 0,I t,.agg (TW.c x)] (Y q):=by
 refine pM func235 Z (by kernel_rfl) Z<|go h λ_ h=>?_;refine eF Z Z Z<|go h λ_ h=>?_;refine Ul h (λ_ q1 h=>?_) λ_ q1 h=>?_
 ·refine jH<|T.drawP (by kernel_rfl) (by kernel_rfl) ?_;refine go h λf h=>?_;obtain ⟨g3,g2,_⟩:=f;refine fN Z (lf2 (λz0 z1=>Y<|Z3b.get (Z33.get v.reg z0) z1) g2 g3 ty5 Z ⟨Z,Z,Z,Z,Z,Z,Z,Z,Z⟩) ?_;exact gz h
 exact gz h
theorem Bh (s:Ua) (t:Int) {q} (h:mg s t=Us q):ax Uv 228 [.fp (Ua.c s) 0,I t] (.ifc 192<|.fp (Ua.c q) 0):=by
 let d0:=(Z3b.set s.values.pc t<|(Z3b.get s.values.pc t)+V);refine pM func228 Z (by kernel_rfl) Z<|go h λ_ h=>?_;refine oC h (λ_=>lJ _ _) Z Z Z Z λv1 _ h=>(go h λf h=>?_);obtain ⟨g2,_⟩:=f;refine oA (lh1 (λz0=>Y<|Z3b.get s.values.pc z0) g2 ty5 Z Z Z Z Z)<|go h λ_ h=>?_;refine oV (sr1 (λz0=>(Ua.c (⟨(⟨s.values.p,(Z3b.set s.values.pc z0<|(Z3b.get s.values.pc t)+V),s.values.reg,s.values.mem⟩:T9)⟩:Ua))) g2 ty5 Z Z Z Z Z Z)<|go h λ_ h=>?_;refine jH ?_;refine T.cl [6,5,0,1] Z<|jP (dG [dF,dF,dF,dF,([1],Ur),dF,dF]) (by kernel_rfl) (by kernel_rfl) ?_;refine go h λ_ h=>?_;refine fC h (λ_=>xz _ _ _) Z Z Z Z Z λv4 _ h=>(go h λ_ h=>?_);refine T.jU h (λs5=>[(8,Y v4),(6,.hp 1 0 4 0 0),(5,.hp 0 0 16 0 0)]) (λs5=>[Us ⟨0,16,198,[(Ua.c (⟨(⟨s.values.p,d0,(⟨(⟨s5.1,s5.2.1,s5.2.2.1⟩:Z3b),(⟨s5.2.2.2.1,s5.2.2.2.2.1,s5.2.2.2.2.2.1⟩:Z3b),(⟨s5.2.2.2.2.2.2.1,s5.2.2.2.2.2.2.2.1,s5.2.2.2.2.2.2.2.2⟩:Z3b)⟩:Z33),s.values.mem⟩:T9)⟩:Ua))]⟩,Us ⟨0,4,65,[(TW.c v1.1)]⟩]) (λs5 h=>?_) λs5 h=>?_
 ·refine T.jU h (λs10=>[(5,.hp 0 0 16 0 0)]) (λs10=>[Us ⟨0,16,198,[(Ua.c (⟨(⟨s.values.p,d0,(⟨(⟨s5.1,s5.2.1,s5.2.2.1⟩:Z3b),(⟨s5.2.2.2.1,s5.2.2.2.2.1,s5.2.2.2.2.2.1⟩:Z3b),(⟨s5.2.2.2.2.2.2.1,s5.2.2.2.2.2.2.2.1,s5.2.2.2.2.2.2.2.2⟩:Z3b)⟩:Z33),(⟨s10.1,s10.2.1,s10.2.2⟩:Z3b)⟩:T9)⟩:Ua))]⟩,Us ⟨0,4,65,[(TW.c v1.1)]⟩]) (λs10 h=>?_) λs10 h=>?_
  ·exact gf h
  refine go h λ_ h=>?_;refine oC h (λ_=>cF _) Z Z Z Z λv11 _ h=>?_;refine gi h (λ_ q12 h=>?_) λ_ q12 h=>?_
  ·refine go h λf h=>?_;obtain ⟨g13,_⟩:=f;refine oV (sr1 (λz0=>(Ua.c (⟨(⟨s.values.p,d0,(⟨(⟨s5.1,s5.2.1,s5.2.2.1⟩:Z3b),(⟨s5.2.2.2.1,s5.2.2.2.2.1,s5.2.2.2.2.2.1⟩:Z3b),(⟨s5.2.2.2.2.2.2.1,s5.2.2.2.2.2.2.2.1,s5.2.2.2.2.2.2.2.2⟩:Z3b)⟩:Z33),(Z3b.set s.values.mem z0 v4)⟩:T9)⟩:Ua))) g13 ty5 Z Z Z Z Z Z)<|go h λ_ h=>?_
   cases h
   exact ⟨(),trivial,Um⟩
  refine go h λ_ h=>?_
  cases h
  exact ⟨(),trivial,Um⟩
 refine go h λ_ h=>?_;refine oC h (λ_=>iw _) Z Z Z Z λv6 _ h=>?_;refine gi h (λ_ q7 h=>?_) λ_ q7 h=>?_
 ·refine jP (dG [dF,dF,([1],Ur),dF,dF,([1],Ur),dF,dF,dF,dF,dF,dF,dF,dF,dF,([0],Uq)]) (by kernel_rfl) (by kernel_rfl)<|go h λf h=>?_;obtain ⟨g8,_⟩:=f;refine fN Z (lf1 (λz0=>Y<|Z3b.get s.values.mem z0) g8 ty5 Z Z Z Z)<|go h λf h=>?_;obtain ⟨g9,_⟩:=f;refine fV 0 [] Z Z (λG hG=>sr2 (λz0 z1=>(Ua.c (⟨(⟨s.values.p,d0,(⟨((Z33.set s.values.reg z0<|Z3b.set (Z33.get s.values.reg z0) z1<|Z3b.get s.values.mem v1.1.Loc).x0),((Z33.set s.values.reg z0<|Z3b.set (Z33.get s.values.reg z0) z1<|Z3b.get s.values.mem v1.1.Loc).x1),((Z33.set s.values.reg z0<|Z3b.set (Z33.get s.values.reg z0) z1<|Z3b.get s.values.mem v1.1.Loc).x2)⟩:Z33),s.values.mem⟩:T9)⟩:Ua))) g2 g9 ty5 Z Z (hG.a0 Z) ⟨Z,Z,Z,Z,Z,Z,Z,Z,Z⟩)<|go h λ_ h=>?_
  cases h
  exact ⟨(),trivial,Um⟩
 refine go h λ_ h=>?_
 cases h
 exact ⟨(),trivial,Um⟩
theorem ve (s:Ua) (moves:LI) {q} (h:je s moves=Us q):ax Uv 146 [.ifc 192 (.fp (Ua.c s) 0),eL cI moves] (.tup [ifO 192 Ua.c q.1,Bo q.2]):=by
 refine pM func146 Z (by kernel_rfl) Z<|go h λ_ h=>?_;obtain ⟨Ks1,es1,ws1,h,ks1⟩:=sumL h;refine T.join (S:=Ua) (G:=Unit) (λs1=>Ks1 s1=Us q) (λs1 gh=>True) (λs1 gh=>[(0,.ifc 192<|.fp (Ua.c s1) 0)]) (λs1 gh=>[]) (λs1 gh h hg=>?_) ?_
 ·clear ks1;subst es1;exact gf h
 refine go h λ_ h=>?_;refine tU h (λs4=>[(10,I s4.1),(9,I (moves.length:Int)),(8,eL cI moves),(0,.ifc 192<|.fp (Ua.c s4.2) 0)]) (λs4=>[]) λs4 ws4 h=>?_;refine go h λ_ h=>?_;refine jH ?_;refine jN Z h (λq6 h=>?_) λq6 h=>?_
 ·refine go h λ_ h=>?_;refine gs h λ_ h=>?_;refine gs h λ_ h=>?_;refine jB h λv8 cv8 h=>oN (TS.invS 16 Z Z (MethT.of (off:=0)<|by kernel_rfl) Z Z (Bg s4.2 cv8) Z)<|go h λ_ h=>?_;refine oC h (λ_=>tX _ _) Z Z Z Z λv9 _ h=>?_;refine gi h (λ_ q10 h=>?_) λ_ q10 h=>?_
  ·refine go h λ_ h=>?_;refine lX h λh=>?_;obtain rfl:=TV h;replace h:=congrArg Us (show _=_ from ks1);exact gf h
  refine go h λ_ h=>?_;refine jB h λv11 cv11 h=>oN (TS.invS 16 Z Z (MethT.of (off:=0)<|by kernel_rfl) Z Z (Bh s4.2 (J moves s4.1) cv11) Z)<|go h λ_ h=>?_;exact lE h Um
 refine jM<|lX h λh=>?_;obtain rfl:=TV h;exact ⟨s4.2,(),ks1,trivial,Um⟩
theorem wT (v:T9) {q} (h:kJ v=Us q):ax Uv 229 [.fp (T9.c v) 0] (Bo q):=by
 refine pM func229 Z (by kernel_rfl) Z<|go h λ_ h=>?_;obtain ⟨Ks1,es1,ws1,h,ks1⟩:=sumL h;refine T.join (S:=Unit) (G:=Unit) (λs1=>Ks1 s1=Us q) (λs1 gh=>True) (λs1 gh=>[]) (λs1 gh=>[]) (λs1 gh h hg=>?_) ?_
 ·clear ks1;subst es1;exact gz h
 refine go h λ_ h=>?_;refine tU h (λs4=>[(11,I s4),(10,I (v.p.length:Int)),(0,.fp (T9.c v) 0)]) (λs4=>[]) λs4 ws4 h=>?_;refine go h λ_ h=>?_;refine jH ?_;refine jN Z h (λq6 h=>?_) λq6 h=>?_
 ·refine go h λ_ h=>?_;refine gs h λ_ h=>?_;refine oC h (λ_=>lJ _ _) Z Z Z Z λv7 _ h=>?_;refine gi h (λ_ q8 h=>?_) λ_ q8 h=>?_
  ·refine go h λ_ h=>?_;refine lX h λh=>?_;obtain rfl:=TV h;replace h:=congrArg Us (show _=_ from ks1);exact gz h
  refine go h λ_ h=>?_;exact lE h Um
 refine jM<|lX h λh=>?_
 cases h
 exact ⟨(),(),ks1,trivial,Um⟩
theorem Cm (s:Ua) {q} (h:kK s=Us q):ax Uv 230 [.fp (Ua.c s) 0] (Bo q):=by
 refine pM func230 Z (by kernel_rfl) Z<|go h λ_ h=>?_;refine oC h (λ_=>wT _) Z Z Z Z λv1 _ h=>?_;exact gz h
theorem wU (v:T9) {q} (h:dQ v=Us q):ax Uv 233 [.fp (T9.c v) 0] (eL cI q):=by
 refine pM func233 Z (by kernel_rfl) Z<|jI ?_;refine gq h λ_ h=>?_;refine jH<|T.reserve ?_;refine go h λ_ h=>?_;refine T.jF (G:=(Bool×Nat)) h (λs1 gh=>(gh.1=Uq->s1=[])) (λs1 gh=>[(3,hS gh.1 0 gh.2 1 s1.length),(0,.fp (T9.c v) 0)]) (λs1 gh=>[bE gh.1 gh.2 1 3 (s1.map cI)]) (λs1 gh h n36=>?_) λs1 h=>?_
 ·obtain ⟨b35,u34⟩:=gh;refine T.jF (G:=(Bool×Nat)) h (λs37 gh=>(gh.1=Uq->s37=[])) (λs37 gh=>[(3,hS gh.1 0 gh.2 1 s37.length)]) (λs37 gh=>[bE gh.1 gh.2 1 3 (s37.map cI)]) (λs37 gh h n55=>?_) λs37 h=>?_
  ·obtain ⟨b54,u53⟩:=gh;exact gf h
  refine go h λ_ h=>?_;refine tL h (b35,u34) (λs43 gh=>(gh.1=Uq->s43.1=[])) (λs43 gh=>[(37,I s43.2),(36,.agg<|Z3b.c v.mem),(3,hS gh.1 0 gh.2 1 s43.1.length)]) (λs43 gh=>[bE gh.1 gh.2 1 3 (s43.1.map cI)]) n36 λs43 gh ws43 h n47=>?_;obtain ⟨b46,u45⟩:=gh;refine go h λ_ h=>?_;refine jH ?_;refine jN Z h (λq48 h=>?_) λq48 h=>?_
  ·refine go h λ_ h=>?_;refine gs h λ_ h=>?_;refine jD h λg49 h=>oN (TS.ixag (Y<|Z3b.get v.mem s43.2) Tryz.underlying193 ty5 Z Z g49<|Rp (P:=λ(z:Int)=>o7 Ur 1 (Z3b.c v.mem) (z.toNat*1)=Us (Y<|Z3b.get v.mem z)) g49 Z Z Z)<|gk h λ_ _ h=>?_;obtain rfl:=TV h;exact ⟨((s43.1++[(Z3b.get v.mem s43.2)]),(s43.2+V)),(Ur,u45+1),Z,nofun,Um⟩
  refine jM<|lX h λh=>?_
  cases h
  exact ⟨(b46,u45),n47,Um⟩
 refine go h λ_ h=>?_;refine tL h (Uq,0) (λs7 gh=>(gh.1=Uq->s7.1=[])) (λs7 gh=>[(14,I s7.2),(13,I (v.p.length:Int)),(3,hS gh.1 0 gh.2 1 s7.1.length),(0,.fp (T9.c v) 0)]) (λs7 gh=>[bE gh.1 gh.2 1 3 (s7.1.map cI)]) qD λs7 gh ws7 h n11=>?_;obtain ⟨b10,u9⟩:=gh;refine go h λ_ h=>?_;refine jH ?_;refine jN Z h (λq12 h=>?_) λq12 h=>?_
 ·refine go h λ_ h=>?_;refine T.jF (G:=(Bool×Nat)) h (λs13 gh=>(gh.1=Uq->s13=[])) (λs13 gh=>[(14,I s7.2),(13,I (v.p.length:Int)),(3,hS gh.1 0 gh.2 1 s13.length),(0,.fp (T9.c v) 0)]) (λs13 gh=>[bE gh.1 gh.2 1 3 (s13.map cI)]) (λs13 gh h n32=>?_) λs13 h=>?_
  ·obtain ⟨b31,u30⟩:=gh;refine go h λ_ h=>?_;obtain rfl:=TV h;exact ⟨(s13,(s7.2+V)),(b31,u30),Z,n32,Um⟩
  refine go h λf h=>?_;obtain ⟨g14,_⟩:=f;refine oN (lf1 (λz0 => .agg<|Z3b.c<|Z33.get v.reg z0) g14 SZ Z Z Z Z)<|go h λ_ h=>?_;refine tL h (b10,u9) (λs20 gh=>(gh.1=Uq->s20.1=[])) (λs20 gh=>[(23,I s20.2),(22,.agg<|Z3b.c<|Z33.get v.reg s7.2),(14,I s7.2),(13,I (v.p.length:Int)),(3,hS gh.1 0 gh.2 1 s20.1.length),(0,.fp (T9.c v) 0)]) (λs20 gh=>[bE gh.1 gh.2 1 3 (s20.1.map cI)]) n11 λs20 gh ws20 h n24=>?_;obtain ⟨b23,u22⟩:=gh;refine go h λ_ h=>?_;refine jH ?_;refine jN Z h (λq25 h=>?_) λq25 h=>?_
  ·refine go h λ_ h=>?_;refine gs h λ_ h=>?_;refine jD h λg26 h=>oN (TS.ixag (Y<|Z3b.get (Z33.get v.reg s7.2) s20.2) Tryz.underlying193 ty5 Z Z g26<|Rp (P:=λ(z:Int)=>o7 Ur 1 (Z3b.c<|Z33.get v.reg s7.2) (z.toNat*1)=Us (Y<|Z3b.get (Z33.get v.reg s7.2) z)) g26 Z Z Z)<|gk h λ_ _ h=>?_;obtain rfl:=TV h;exact ⟨((s20.1++[(Z3b.get (Z33.get v.reg s7.2) s20.2)]),(s20.2+V)),(Ur,u22+1),Z,nofun,Um⟩
  refine jM<|lX h λh=>?_
  cases h
  exact ⟨(b23,u22),n24,Um⟩
 refine jM<|lX h λh=>?_
 cases h
 exact ⟨(b10,u9),n11,Um⟩
theorem tY (s:Ua) (moves:LI) {q} (h:gW s moves=Us q):ax Uv 108 [.ifc 192 (.fp (Ua.c s) 0),eL cI moves] (.tup [eL cI q.1,Bo q.2]):=by
 refine pM func108 Z (by kernel_rfl) Z<|go h λ_ h=>?_;refine oC h (λ_=>ve _ _) Z Z Z Z λv1 _ h=>(go h λ_ h=>?_);refine gs h λ_ h=>?_;refine TO.jB h 4 (λs2=>[(20,Bo s2),(6,ifO 192 Ua.c v1.1)]) (λs2=>[]) (λs2 q3 h js2=>?_) (λs2 q3 h js2=>?_) λs2 h=>?_
 ·exact gj h js2
 ·refine go h λ_ h=>?_;refine jL h λg4 h=>jB h λv5 cv5 h=>gN Z q3 (TS.invS 16 Z (JF g4) (MethT.of (off:=0)<|by kernel_rfl) Z Z (Cm (v1.1.getD Uo) cv5) Z) ?_;exact gj h js2
 refine gi h (λ_ q6 h=>?_) λ_ q6 h=>?_
 ·exact gf h
 refine go h λ_ h=>?_;refine jL h λg7 h=>jB h λv8 cv8 h=>oN (TS.invS 16 Z (JF g7) (MethT.of (off:=0)<|by kernel_rfl) Z Z (wU ((v1.1.getD Uo).values) cv8) Z) ?_;exact gf h
theorem za (p:List<|List TW) (schedule:LI) {q} (h:kv p schedule=Us q):ax Uv 69 [eL (cL TW.c) p,eL cI schedule] (.tup [eL cI q.1,Bo q.2]):=by
 refine pM func69 Z (by kernel_rfl) Z<|go h λ_ h=>?_;refine gs h λ_ h=>?_;refine oC h (λ_=>kY _) Z Z Z Z λv1 _ h=>?_;refine gi h (λ_ q2 h=>?_) λ_ q2 h=>?_
 ·exact gf h
 refine go h λ_ h=>?_;refine oC h (λ_=>EE _) Z Z Z Z λv3 _ h=>(go h λ_ h=>?_);refine oC h (λ_=>tY _ _) Z Z Z Z λv4 _ h=>?_;exact gf h
theorem zR (x:Int) (y:Int) {q} (h:pK x y=Us q):ax Uv 181 [.v (.int .u64 x),.v (.int .u64 y)] (.tup [.v (.int .u64 q.1),.v (.int .u64 q.2)]):=by
 refine pM func181 Z (by kernel_rfl) Z ?_;exact gf h
theorem Cn (x:Int) (y:Int) {q} (h:nT x y=Us q):ax Uv 147 [.v (.int .u64 x),.v (.int .u64 y)] (.tup [.v (.int .u64 q.1),.v (.int .u64 q.2)]):=by
 refine pM func147 Z (by kernel_rfl) Z<|go h λ_ h=>?_;refine jH ?_;refine T.cond Z (λq=>absurd (q.symm.trans Z)<|by decide) λ_=>?_;refine go h λ_ h=>?_;refine oC h (λ_=>zR _ _) Z Z Z Z λv1 _ h=>?_;exact gf h
theorem ui (x:LI) (count:Int) {q} (h:eH x count=Us q):bH Uv 110 [eL cI x,I count] [] (G9 1 3 (λx=>x) q.length (q.map cI) 0 []):=by
 refine bH.mkO func110 Z (by kernel_rfl) Z (by kernel_rfl) (e0:=ak [(0,eL cI x),(1,I count)]) (TR Z<|TR Z TQ) nI (nH qD)<|go h λ_ h=>?_;refine T.jU h (λs1=>[(0,eL cI x),(1,I count)]) (λs1=>[]) (λs1 h=>?_) λs1 h=>?_
 ·refine go h λ_ h=>?_;refine oC h (λ_=>Cn _ _) Z Z Z Z λv5 _ h=>(go h λ_ h=>?_);refine T.jU h (λs6=>[(6,.v<|.int .u64 v5.2),(0,eL cI x)]) (λs6=>[]) (λs6 h=>?_) λs6 h=>?_
  ·refine go h λ_ h=>?_;refine jD h λg11 h=>oA (EvA.mkN (c:=cI) (Uo:Int) lK Z Z g11 Z Z Z)<|go h λ_ h=>?_;refine oA (EvA.copyO (l:=(aay v5.2.toNat (Uo:Int))) x lK Z Z (show 0+(aay v5.2.toNat (Uo:Int)).length<=(aay v5.2.toNat (Uo:Int)).length by simp)<|Ij.el Z qD)<|go h λ_ h=>?_;refine tJ h (λs12 gh=>[(7,hS Ur 0 gh 1 s12.length)]) (λs12 gh=>[bE Ur gh 1 3 (s12.map cI)]) (λs12 u23 h=>?_) λs12 h=>?_
   ·refine go h λ_ h=>?_;obtain rfl:=TV h
    repeat (first|refine kC ?_|refine kD ?_)
    exact jQ (vs:=[hS Ur 0 u23 1 s12.length]) (.cons (.tmp Z) .nil) ⟨0,Ur,u23,nofun,Z,ownB Z⟩
   refine go h λ_ h=>?_;refine jO (S:=(LI)×Int) (G:=Nat) fD (λs16 gh=>True) (λs16 gh=>[(8,I s16.2),(7,hS Ur 0 gh 1 s16.1.length)]) (λs16 gh=>[bE Ur gh 1 3 (s16.1.map cI)]) (s0:=((cpy (aay v5.2.toNat (Uo:Int)) 0 x<|(aay v5.2.toNat (Uo:Int)).length),((min x.length ((aay v5.2.toNat (Uo:Int)).length):Nat):Int))) 0 h trivial (BB Z<|TR Z<|TR (congrArg (hS Ur 0 0 1) (by simp [vA]:(aay v5.2.toNat (Uo:Int)).length=(cpy (aay v5.2.toNat (Uo:Int)) 0 x<|(aay v5.2.toNat (Uo:Int)).length).length)) TQ) λs16 u18 ws16 h hg=>?_;refine Ul h (λ_ q19 h=>?_) λ_ q19 h=>?_
   ·refine go h λ_ h=>?_;refine jP (dG [dF,dF,dF,dF,dF,dF,dF,([0],Uq),dF,dF]) (by kernel_rfl) (by kernel_rfl)<|go h λ_ h=>?_;refine jD h λg20 h=>fN Z (TS.slhs Tryz.underlying31 Uk (l:=s16.2) (h:=(s16.1.length:Int)) Z (.yes Z) .no g20)<|go h λ_ h=>?_;refine jD h λg21 h=>fN Z (TS.slhs Tryz.underlying31 Uk (l:=U) (h:=s16.2) Z .no (.yes Z) g21)<|fW 0 [] Z Z (λG hG=>EvA.copyO (l:=s16.1) ((s16.1.drop<|0+U.toNat).take<|s16.2.toNat-U.toNat) lK Z (hG.a0 Z) (Hd (l:=s16.1) g20 Z)<|Ij.ow (l:=s16.1) (0+U.toNat) (s16.2.toNat-U.toNat) Z (hG.a0 Z)<|Hd (l:=s16.1) g21 Z) ?_;refine go h λ_ h=>?_;obtain rfl:=TV h;exact ⟨((cpy s16.1 (0+s16.2.toNat) ((s16.1.drop<|0+(0:Int).toNat).take<|s16.2.toNat-(0:Int).toNat)<|(s16.1.length:Int).toNat-s16.2.toNat),(s16.2+((min ((s16.1.drop<|0+(0:Int).toNat).take<|s16.2.toNat-(0:Int).toNat).length ((s16.1.length:Int).toNat-s16.2.toNat):Nat):Int))),u18,Z,trivial,BB Z<|TR Z<|TR (congrArg (hS Ur 0 u18 1) (by simp [vA]:s16.1.length=(cpy s16.1 (0+s16.2.toNat) ((s16.1.drop<|0+(0:Int).toNat).take<|s16.2.toNat-(0:Int).toNat)<|(s16.1.length:Int).toNat-s16.2.toNat).length)) TQ⟩
   refine jM<|lX h λh=>?_
   cases h
   exact ⟨u18,trivial,Um⟩
  refine go h λ_ h=>?_;refine TO.jB h 3 (λs7=>[(26,Bo s7),(6,.v<|.int .u64 v5.2),(0,eL cI x)]) (λs7=>[]) (λs7 q8 h js7=>?_) (λs7 q8 h js7=>?_) λs7 h=>?_
  ·exact gj h js7
  ·exact gj h js7
  refine gi h (λ_ q9 h=>?_) λ_ q9 h=>?_
  ·cases h
  refine go h λ_ h=>?_;exact ⟨(),trivial,Um⟩
 refine gi h (λ_ q2 h=>?_) λ_ q2 h=>?_
 ·cases h
 refine go h λ_ h=>?_;exact ⟨(),trivial,Um⟩
end
end Go.Proofs.YtdmahcaohkplcaaGreatDoor
