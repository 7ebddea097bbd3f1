/- Texts joined. No conditions. -/
import Derived.Test.YtdmahcaohkplcaaGreatDoorC14
namespace Go.Proofs.YtdmahcaohkplcaaGreatDoor
noncomputable section
open _root_.Inhabited renaming default -> Uo
open _root_.Bool renaming true -> Uq
open _root_.Bool renaming false -> Ur
open _root_.Option renaming some -> Us
open _root_.Option renaming none -> Ut
open _root_.Decidable renaming decide -> Uu
open _root_.Go.Proofs.Tryz
open _root_.Go.Proofs.Tryz renaming prog -> Uv
set_option maxHeartbeats 4000000
open Go.RowKit
set_option maxRecDepth 100000
attribute [local irreducible] T TO TF TG TX TS EvA
theorem EF (p:List<|List TW) (schedule:LI) {q} (h:rQ p schedule=Us q):ax Uv 70 [eL (cL TW.c) p,eL cI schedule] (.agg<|TY.c q):=by
 refine pM func70 Z (by kernel_rfl) Z<|jI<|oA (EvA.al PF Z Z)<|jA<|jI<|oN (TS.mkF (c:=cI) ([(-1:Int)]:LI) [[I (-1:Int)]] lK Z Z Z qD qD Z)<|oN mv<|oC h (λ_=>oU _) Z Z Z Z λv1 _ h=>oN (TS.lenL K9 Z)<|jB h λv2 cv2 h=>?_;refine oG Z Z Z ((ui ([(-1:Int)]:LI) (v1.length:Int) cv2).own Z (nH qD) nI 1 Z) λg3 v4 n5=>?_;refine oA (EvA.mkO (c:=cI) ([U]:LI) [[I U]] lK Z Z Z qD Z Z)<|oA (EvA.mkO (c:=cI) ([V]:LI) [[I V]] lK Z Z Z qD Z Z)<|oA (EvA.mkO (c:=cI) ([(2:Int)]:LI) [[I (2:Int)]] lK Z Z Z qD Z Z)<|oA (EvA.mkR [[hS Ur 2 0 1 (([U]:LI).length)],[hS Ur 3 0 1 (([V]:LI).length)],[hS Ur 4 0 1 (([(2:Int)]:LI).length)]] vo Z Z Z Z)<|TO.reid (e0:=ak [(21,hS Ur 2 0 1<|([([U]:LI),([V]:LI),([(2:Int)]:LI)]:LL).length),(17,hS g3 1 v4 1 v2.length),(4,.hp 0 0 2 0 0),(0,eL (cL TW.c) p),(1,eL cI schedule)]) (Reid.rot (m:=2) (N:=3) (S:=[Us ⟨0,2,46,[[.nil,.nil]]⟩,bE g3 v4 1 3 (v2.map cI)]) (S':=[Us ⟨0,2,46,[[.nil,.nil]]⟩,bE g3 v4 1 3 (v2.map cI)]) (K:=[bE Ur 0 1 3 (([U]:LI).map cI),bE Ur 0 1 3 (([V]:LI).map cI),bE Ur 0 1 3 (([(2:Int)]:LI).map cI)]) (x:=some ⟨0,1,31,[[hS Ur 2 0 1 (([U]:LI).length)],[hS Ur 3 0 1 (([V]:LI).length)],[hS Ur 4 0 1 (([(2:Int)]:LI).length)]]⟩) (x':=Us ⟨0,1,31,[[hS Ur (0+3) 0 1 ([U]:LI).length],[hS Ur (1+3) 0 1 ([V]:LI).length],[hS Ur (2+3) 0 1 ([(2:Int)]:LI).length]]⟩) Z Z Z (.some (.rowL<|.cons .nil<|.cons .nil .nil)<|.bE qD .nil) (NN.lit (w:=1) (ty:=3) (f:=cI) ([([U]:LI),([V]:LI),([(2:Int)]:LI)]:LL) qD).kf<|.some (.rowsL<|.cons (.cons (bh<|Rot.up (k:=0)<|by decide) .nil)<|.cons (.cons (bh<|Rot.up (k:=1)<|by decide) .nil)<|.cons (.cons (bh<|Rot.up (k:=2)<|by decide) .nil) .nil) .nil) (bA (a0:=hS Ur 5 0 1 3) Z (bh Rot.new)<|bA (a0:=hS g3 1 v4 1 v2.length) Z (bh<|Rot.low Z)<|bA (a0:=.hp 0 0 2 0 0) Z (.hp<|Rot.low Z)<|bL Z Z<|bL Z Z um)<|oN (TS.build [hS g3 1 v4 1 v2.length,hS Ur 2 0 1 (([([U]:LI),([V]:LI),([(2:Int)]:LI)]:LL).length)] Tryz.underlying46 PF NP Z<|by generalize g3=gq0;cases gq0 <;> rfl)<|oA (EvA.al PF Z Z)<|TO.reid (e0:=ak [(5,.hp 3 0 2 0 0),(22,.agg [hS g3 1 v4 1 v2.length,hS Ur 2 0 1 (([([U]:LI),([V]:LI),([(2:Int)]:LI)]:LL).length)]),(4,.hp 0 0 2 0 0),(0,eL (cL TW.c) p),(1,eL cI schedule)]) (Reid.rot (m:=3) (S:=[Us ⟨0,2,46,[[.nil,.nil]]⟩,bE g3 v4 1 3 (v2.map cI),bE Ur 0 1 31 (TU 3 (λi=>(Ur,i,0)) 1 ([([U]:LI),([V]:LI),([(2:Int)]:LI)]:LL))]) (S':=[Us ⟨0,2,46,[[.nil,.nil]]⟩,bE g3 v4 1 3 (v2.map cI),bE Ur 0 1 31 (TU 4 (λi=>(Ur,i,0)) 1 ([([U]:LI),([V]:LI),([(2:Int)]:LI)]:LL))]) (K:=[bE Ur 0 1 3 (([U]:LI).map cI),bE Ur 0 1 3 (([V]:LI).map cI),bE Ur 0 1 3 (([(2:Int)]:LI).map cI)]) (x:=some ⟨0,2,46,[[.nil,.nil]]⟩) (x':=Us ⟨0,2,46,[[.nil,.nil]]⟩) Z Z Z (.some (.rowL<|.cons .nil<|.cons .nil .nil)<|.bE qD<|.nest ((NN.lit (w:=1) (ty:=3) (f:=cI) ([([U]:LI),([V]:LI),([(2:Int)]:LI)]:LL) qD).renK Z) .nil) (NN.lit (w:=1) (ty:=3) (f:=cI) ([([U]:LI),([V]:LI),([(2:Int)]:LI)]:LL) qD).kf<|.some (.rowL<|.cons .nil<|.cons .nil .nil) .nil) (bA (a0:=.hp ([bE Ur 0 1 3 (([U]:LI).map cI),bE Ur 0 1 3 (([V]:LI).map cI),bE Ur 0 1 3 (([(2:Int)]:LI).map cI)].length+3) 0 2 0 0) Z (.hp Rot.new)<|bA (a0:=.agg [hS g3 1 v4 1 v2.length,hS Ur 2 0 1 (([([U]:LI),([V]:LI),([(2:Int)]:LI)]:LL).length)]) Z (Ren.aggL<|.cons (bh<|Rot.low Z)<|.cons (bh<|Rot.low Z) .nil)<|bA (a0:=.hp 0 0 2 0 0) Z (.hp<|Rot.low Z)<|bL Z Z<|bL Z Z um) ?_;refine oV (EvA.st (cs:=[hS g3 1 v4 1 v2.length,hS Ur 2 0 1 (([([U]:LI),([V]:LI),([(2:Int)]:LI)]:LL).length)]) ⟨0,2,46,[[hS g3 1 v4 1 v2.length,hS Ur 2 0 1 (([([U]:LI),([V]:LI),([(2:Int)]:LI)]:LL).length)]]⟩ KY Z (by generalize g3=gq0;cases gq0 <;> rfl) Z Z Z Z Z Z Z) (jA<|jI<|oN mv<|oC h (λ_=>xj _) Z Z Z Z λv6 _ h=>oN as'<|jA<|jI<|oA (EvA.al Tq Z Z)<|TO.reid (e0:=ak [(7,.hp 4 0 3 0 0),(6,eL (cL cI) v6),(5,.hp 3 0 2 0 0),(4,.hp 0 0 2 0 0),(0,eL (cL TW.c) p),(1,eL cI schedule)]) (Reid.rot (m:=4) (S:=[Us ⟨0,2,46,[[.nil,.nil]]⟩,bE g3 v4 1 3 (v2.map cI),bE Ur 0 1 31 (TU 4 (λi=>(Ur,i,0)) 1 ([([U]:LI),([V]:LI),([(2:Int)]:LI)]:LL)),Us ⟨0,2,46,[[hS g3 1 v4 1 v2.length,hS Ur 2 0 1 (([([U]:LI),([V]:LI),([(2:Int)]:LI)]:LL).length)]]⟩]) (S':=[Us ⟨0,2,46,[[.nil,.nil]]⟩,bE g3 v4 1 3 (v2.map cI),bE Ur 0 1 31 (TU 5 (λi=>(Ur,i,0)) 1 ([([U]:LI),([V]:LI),([(2:Int)]:LI)]:LL)),Us ⟨0,2,46,[[hS g3 1 v4 1 v2.length,hS Ur 2 0 1 (([([U]:LI),([V]:LI),([(2:Int)]:LI)]:LL).length)]]⟩]) (K:=[bE Ur 0 1 3 (([U]:LI).map cI),bE Ur 0 1 3 (([V]:LI).map cI),bE Ur 0 1 3 (([(2:Int)]:LI).map cI)]) (x:=some ⟨0,3,88,[[I U,I U,I U]]⟩) (x':=Us ⟨0,3,88,[[I U,I U,I U]]⟩) Z Z Z (.some (.rowL<|.cons .nil<|.cons .nil .nil)<|.bE qD<|.nest ((NN.lit (w:=1) (ty:=3) (f:=cI) ([([U]:LI),([V]:LI),([(2:Int)]:LI)]:LL) qD).renK Z)<|.some (.rowL<|.cons (bh<|Rot.low Z)<|.cons (bh<|Rot.low Z) .nil) .nil) (NN.lit (w:=1) (ty:=3) (f:=cI) ([([U]:LI),([V]:LI),([(2:Int)]:LI)]:LL) qD).kf<|.some (.rowL<|.cons (ay 9 _ Z)<|.cons (ay 9 _ Z)<|.cons (ay 9 _ Z) .nil) .nil) (bA (a0:=.hp ([bE Ur 0 1 3 (([U]:LI).map cI),bE Ur 0 1 3 (([V]:LI).map cI),bE Ur 0 1 3 (([(2:Int)]:LI).map cI)].length+4) 0 3 0 0) Z (.hp Rot.new)<|bL Z Z<|bA (a0:=.hp 3 0 2 0 0) Z (.hp<|Rot.low Z)<|bA (a0:=.hp 0 0 2 0 0) Z (.hp<|Rot.low Z)<|bL Z Z<|bL Z Z um)<|jA ?_);refine T.jF (G:=(Bool×Nat)×(NG×AH×Nat)) h (λs7 gh=>(gh.1.1=Uq->s7.1=[])/\NN gh.2.2.1 gh.2.1 1 3 cI s7.2.1) (λs7 gh=>[(5,.hp 3 0 2 0 0),(4,.hp 0 0 2 0 0)]) (λs7 gh=>(Us ⟨0,2,46,[[.nil,.nil]]⟩::bE gh.1.1 gh.1.2 1 3 (s7.1.map cI)::bE Ur gh.2.2.2 1 31 (TU 5 gh.2.1 1 s7.2.1)::Us ⟨0,2,46,[[hS gh.1.1 1 gh.1.2 1 s7.1.length,hS Ur 2 gh.2.2.2 1 s7.2.1.length]]⟩::Us ⟨0,3,88,[[I s7.2.2.1,I s7.2.2.2.1,I s7.2.2.2.2]]⟩::gh.2.2.1)) (λs7 gh h hg=>?_) λs7 h=>?_
 ·obtain ⟨⟨b77,u76⟩,⟨y80,kk81,u79⟩⟩:=gh;obtain ⟨n78,hN82⟩:=hg;refine jI<|oA (lh (.agg [hS b77 1 u76 1 s7.1.length,hS Ur 2 u79 1 s7.2.1.length]) KY Z Z Z)<|oV (EvA.st (cs:=[hS b77 1 u76 1 s7.1.length,hS Ur 2 u79 1 s7.2.1.length]) ⟨0,2,46,[[hS b77 1 u76 1 s7.1.length,hS Ur 2 u79 1 s7.2.1.length]]⟩ KY Z (by generalize b77=gq0;cases gq0 <;> rfl) Z Z Z Z Z Z Z)<|jA<|jK ?_;obtain rfl:=TV h
  repeat (first|refine kC ?_|refine kD ?_)
  exact jQ (vs:=[.agg [hS b77 1 u76 1 s7.1.length,hS Ur 2 u79 1 s7.2.1.length]]) (.cons (.cell (.agg [hS b77 1 u76 1 s7.1.length,hS Ur 2 u79 1 s7.2.1.length]) KY Z Z Z Z Z Z) .nil)<|Fz.aggL<|.cons (Fz.own (g:=b77) (ver:=u76) (l:=s7.1) Z Z Z n78 qD)<|.cons (NN.fz hN82 (S:=[Us ⟨0,2,46,[[hS b77 1 u76 1 s7.1.length,hS Ur 2 u79 1 s7.2.1.length]]⟩,bE b77 u76 1 3 (s7.1.map cI),bE Ur u79 1 31 (TU 5 y80 1 s7.2.1),Us ⟨0,2,46,[[hS b77 1 u76 1 s7.1.length,hS Ur 2 u79 1 s7.2.1.length]]⟩,Us ⟨0,3,88,[[I s7.2.2.1,I s7.2.2.2.1,I s7.2.2.2.2]]⟩]) (ver:=u79) Z Z qD) .nil
 refine jI<|oN mv<|oN (TS.lenL lK Z)<|oN mv<|jA<|jE ?_;refine jO (S:=(LI)×(LL)×Int×Int×Int×Int) (G:=(Bool×Nat)×(NG×AH×Nat)) (pO p schedule v6) (λs24 gh=>(gh.1.1=Uq->s24.1=[])/\NN gh.2.2.1 gh.2.1 1 3 cI s24.2.1) (λs24 gh=>[(27,I s24.2.2.2.2.2),(26,I (schedule.length:Int)),(25,eL cI schedule),(7,.hp 4 0 3 0 0),(6,eL (cL cI) v6),(5,.hp 3 0 2 0 0),(4,.hp 0 0 2 0 0),(0,eL (cL TW.c) p)]) (λs24 gh=>(Us ⟨0,2,46,[[.nil,.nil]]⟩::bE gh.1.1 gh.1.2 1 3 (s24.1.map cI)::bE Ur gh.2.2.2 1 31 (TU 5 gh.2.1 1 s24.2.1)::Us ⟨0,2,46,[[hS gh.1.1 1 gh.1.2 1 s24.1.length,hS Ur 2 gh.2.2.2 1 s24.2.1.length]]⟩::Us ⟨0,3,88,[[I s24.2.2.1,I s24.2.2.2.1,I s24.2.2.2.2.1]]⟩::gh.2.2.1)) (s0:=(v2,([([U]:LI),([V]:LI),([(2:Int)]:LI)]:LL),U,U,U,U)) ((g3,v4),((λi=>(Ur,i,0)),[bE Ur 0 1 3 (([U]:LI).map cI),bE Ur 0 1 3 (([V]:LI).map cI),bE Ur 0 1 3 (([(2:Int)]:LI).map cI)],0)) h ⟨(λx=>List.eq_nil_of_length_eq_zero<|n5 x),(NN.lit (w:=1) (ty:=3) (f:=cI) ([([U]:LI),([V]:LI),([(2:Int)]:LI)]:LL) qD)⟩ (kw Z Z) λs24 gh ws24 h hg=>?_;let d2:=(⟨s24.2.2.1,s24.2.2.2.1,s24.2.2.2.2.1⟩:Z3i);let d1:=schedule.getD s24.2.2.2.2.2.toNat Uo;let d0:=(Z3i.get d2 d1);obtain ⟨⟨b27,u26⟩,⟨y30,kk31,u29⟩⟩:=gh;obtain ⟨n28,hN32⟩:=hg;refine jI<|oN (TS.ilt Z Z)<|jA<|jH ?_;refine jN Z h (λq33 h=>?_) λq33 h=>?_
 ·refine jG ?_;refine T.jF (G:=(Bool×Nat)×(NG×AH×Nat)) h (λs34 gh=>(gh.1.1=Uq->s34.1=[])/\NN gh.2.2.1 gh.2.1 1 3 cI s34.2) (λs34 gh=>[(27,I s24.2.2.2.2.2),(26,I (schedule.length:Int)),(25,eL cI schedule),(7,.hp 4 0 3 0 0),(6,eL (cL cI) v6),(5,.hp 3 0 2 0 0),(4,.hp 0 0 2 0 0),(0,eL (cL TW.c) p)]) (λs34 gh=>(Us ⟨0,2,46,[[.nil,.nil]]⟩::bE gh.1.1 gh.1.2 1 3 (s34.1.map cI)::bE Ur gh.2.2.2 1 31 (TU 5 gh.2.1 1 s34.2)::Us ⟨0,2,46,[[hS gh.1.1 1 gh.1.2 1 s34.1.length,hS Ur 2 gh.2.2.2 1 s34.2.length]]⟩::Us ⟨0,3,88,[(Z3i.c<|Z3i.set d2 d1<|d0+V)]⟩::gh.2.2.1)) (λs34 gh h hg=>?_) λs34 h=>?_
  ·obtain ⟨⟨b69,u68⟩,⟨y72,kk73,u71⟩⟩:=gh;obtain ⟨n70,hN74⟩:=hg;refine jC<|jW h λg75 h=>oN (TS.add Z Z g75)<|oN mv<|jA ?_;obtain rfl:=TV h;exact ⟨(s34.1,s34.2,(Z3i.set d2 d1<|d0+V).x0,(Z3i.set d2 d1<|d0+V).x1,(Z3i.set d2 d1<|d0+V).x2,(s24.2.2.2.2.2+V)),((b69,u68),(y72,kk73,u71)),Z,⟨n70,hN74⟩,kw Z Z⟩
  refine jE<|jI<|jD h λg35 h=>oN (TS.ixL lK Z Z g35 qD)<|oN (lf (I d1) Uk Z)<|oN as'<|jA<|jH<|T.reserve<|T.reid (e0:=ak [(9,I d1),(30,I d1),(29,.fp (cI d1) 0),(28,Bo<|Uu<|s24.2.2.2.2.2<(schedule.length:Int)),(27,I s24.2.2.2.2.2),(26,I (schedule.length:Int)),(25,eL cI schedule),(7,.hp 4 0 3 0 0),(6,eL (cL cI) v6),(5,.hp 3 0 2 0 0),(4,.hp 0 0 2 0 0),(0,eL (cL TW.c) p)]) (Reid.rot (m:=5) (S:=[Us ⟨0,2,46,[[.nil,.nil]]⟩,bE b27 u26 1 3 (s24.1.map cI),bE Ur u29 1 31 (TU 5 y30 1 s24.2.1),Us ⟨0,2,46,[[hS b27 1 u26 1 s24.1.length,hS Ur 2 u29 1 s24.2.1.length]]⟩,Us ⟨0,3,88,[[I s24.2.2.1,I s24.2.2.2.1,I s24.2.2.2.2.1]]⟩]) (S':=[Us ⟨0,2,46,[[.nil,.nil]]⟩,bE b27 u26 1 3 (s24.1.map cI),bE Ur u29 1 31 (TU 6 y30 1 s24.2.1),Us ⟨0,2,46,[[hS b27 1 u26 1 s24.1.length,hS Ur 2 u29 1 s24.2.1.length]]⟩,Us ⟨0,3,88,[[I s24.2.2.1,I s24.2.2.2.1,I s24.2.2.2.2.1]]⟩]) (K:=kk31) (x:=none) (x':=Ut) Z Z Z (.some (.rowL<|.cons .nil<|.cons .nil .nil)<|.bE qD<|.nest (hN32.renK Z)<|.some (.rowL<|.cons (bh<|Rot.low Z)<|.cons (bh<|Rot.low Z) .nil)<|.some (.rowL<|.cons (ay 9 _ Z)<|.cons (ay 9 _ Z)<|.cons (ay 9 _ Z) .nil) .nil) hN32.kf<|.none .nil) (bL Z Z<|bL Z Z<|bL Z Z<|bL Z Z<|bL Z Z<|bL Z Z<|bL Z Z<|bA (a0:=.hp 4 0 3 0 0) Z (.hp<|Rot.low Z)<|bL Z Z<|bA (a0:=.hp 3 0 2 0 0) Z (.hp<|Rot.low Z)<|bA (a0:=.hp 0 0 2 0 0) Z (.hp<|Rot.low Z)<|bL Z Z um)<|jP (dG [dF,dF,dF,dF,dF,dF,([4],Ur),dF,dF,dF,dF,dF,dF,dF,dF,([4],Ur),dF,dF,([5],Uq),([5],Uq),dF]) (by kernel_rfl) (by kernel_rfl)<|fN Z mv<|fN Z mv<|jD h λg36 h=>fN Z (TS.ixL CI Z Z g36 qD)<|fN Z (lf (eL TW.c<|J p d1) NQ Z) ?_;refine fN Z mv<|jD h λg37 h=>fN Z (TS.ixahp Tryz.underlying88 Uk Z Z g37)<|fR [4] Z (λG hG=>lh1 (λz0=>I<|Z3i.get d2 z0) g37 Uk Z (hG.a0 Z) Z Z Z)<|jD h λg38 h=>fN Z (TS.ixL Gy Z Z g38 qD)<|fN Z (lf (.agg<|TW.c<|J (J p d1) d0) Ik Z)<|fN Z mv<|fN Z mv<|jD h λg39 h=>fN Z (TS.ixL vo Z Z g39 qD)<|fN Z (lf (eL cI<|J v6 d1) CH Z)<|fN Z mv<|fN Z (TS.ixahp Tryz.underlying88 Uk Z Z g37)<|fR [4] Z (λG hG=>lh1 (λz0=>I<|Z3i.get d2 z0) g37 Uk Z (hG.a0 Z) Z Z Z)<|jD h λg40 h=>?_;refine fN Z (TS.ixL lK Z Z g40 qD)<|fN Z (lf (I<|J (J v6 d1) d0) Uk Z)<|fW 5 [] Z Z (λG hG=>EvA.alR 5 PG Z Z<|hG.a0 Z)<|fV 5 [] Z Z (λG hG=>EvA.st (cs:=(TW.c<|J (J p d1) d0)) ⟨0,4,65,[(TW.c<|J (J p d1) d0)]⟩ Ik Z Z (hG.a0 Z) Z Z Z Z Z Z)<|fN Z as'<|jR<|jH<|T.clean (H0:=(Us ⟨0,2,46,[[.nil,.nil]]⟩::bE b27 u26 1 3 (s24.1.map cI)::bE Ur u29 1 31 (TU 6 y30 1 s24.2.1)::Us ⟨0,2,46,[[hS b27 1 u26 1 s24.1.length,hS Ur 2 u29 1 s24.2.1.length]]⟩::Us ⟨0,3,88,[[I s24.2.2.1,I s24.2.2.2.1,I s24.2.2.2.2.1]]⟩::Us ⟨0,4,65,[(TW.c<|J (J p d1) d0)]⟩::kk31)) (e0:=ak [(11,I<|J (J v6 d1) d0),(10,.hp 5 0 4 0 0),(9,I d1),(27,I s24.2.2.2.2.2),(26,I (schedule.length:Int)),(25,eL cI schedule),(7,.hp 4 0 3 0 0),(6,eL (cL cI) v6),(5,.hp 3 0 2 0 0),(4,.hp 0 0 2 0 0),(0,eL (cL TW.c) p)]) Z (TR Z<|TR Z<|TR Z<|TR Z<|TR Z<|TR Z<|TR Z<|TR Z<|TR Z<|TR Z<|TR Z TQ)<|jC<|oN mv<|oN (TS.ixahp Tryz.underlying88 Uk Z Z g37)<|oA (lh1 (λz0=>I<|Z3i.get d2 z0) g37 Uk Z Z Z Z Z)<|jW h λg41 h=>oN (TS.add Z Z g41)<|oN (TS.ixahp Tryz.underlying88 Uk Z Z g37)<|oV (sr1 (λz0=>(Z3i.c<|Z3i.set d2 z0<|d0+V)) g37 Uk Z Z Z Z Z Z) ?_;refine jA<|jH<|jI<|oN (fa QS Z)<|oA (lh (I<|(J (J p d1) d0).Op) Uk Z Z Z)<|oN (TS.ieq Z Z)<|jA ?_;refine jN Z h (λq42 h=>?_) λq42 h=>?_
  ·refine jM ?_;obtain rfl:=TV h;exact ⟨((b27,u26),((up 1 y30),(Us ⟨0,4,65,[(TW.c<|J (J p d1) d0)]⟩::kk31),u29)),⟨n28,(hN32.push λ_ hb=>osi hb ▸ au Z)⟩,kw Z Z⟩
  refine jG<|jI<|oN (fa NP Z)<|oA (lh (hS Ur 2 u29 1 s24.2.1.length) QR Z Z Z)<|oN (fa QS Z)<|oA (lh (I<|(J (J p d1) d0).Loc) Uk Z Z Z)<|jD h λg43 h=>oN (TS.ixO (g:=false) vo Z Z nofun g43) ?_;have n48:=hN32.nil_<|aG rfl g43;have hX47:=hN32.opened<|aG rfl g43;refine TO.reid (e0:=ak [(61,.hp 2 u29 1 (((J (J p d1) d0).Loc).toNat) 0),(11,I<|J (J v6 d1) d0),(10,.hp 5 0 4 0 0),(27,I s24.2.2.2.2.2),(26,I (schedule.length:Int)),(25,eL cI schedule),(7,.hp 4 0 3 0 0),(6,eL (cL cI) v6),(5,.hp 3 0 2 0 0),(4,.hp 0 0 2 0 0),(0,eL (cL TW.c) p)]) (Reid.open (m:=6) (S:=[Us ⟨0,2,46,[[.nil,.nil]]⟩,bE b27 u26 1 3 (s24.1.map cI),bE Ur u29 1 31 (TU 6 y30 1 s24.2.1),Us ⟨0,2,46,[[hS b27 1 u26 1 s24.1.length,hS Ur 2 u29 1 s24.2.1.length]]⟩,Us ⟨0,3,88,[(Z3i.c<|Z3i.set d2 d1<|d0+V)]⟩,Us ⟨0,4,65,[(TW.c<|J (J p d1) d0)]⟩]) (S':=[Us ⟨0,2,46,[[.nil,.nil]]⟩,bE b27 u26 1 3 (s24.1.map cI),bE Ur u29 1 31 (nxs 7 y30 1 s24.2.1 (((J (J p d1) d0).Loc).toNat) (y30<|((J (J p d1) d0).Loc).toNat).1 6 ((y30<|((J (J p d1) d0).Loc).toNat).2.2)<|(s24.2.1.getD (((J (J p d1) d0).Loc).toNat) []).length),Us ⟨0,2,46,[[hS b27 1 u26 1 s24.1.length,hS Ur 2 u29 1 s24.2.1.length]]⟩,Us ⟨0,3,88,[(Z3i.c<|Z3i.set d2 d1<|d0+V)]⟩,Us ⟨0,4,65,[(TW.c<|J (J p d1) d0)]⟩]) (K:=kk31) (x:=bE (y30<|((J (J p d1) d0).Loc).toNat).1 (y30<|((J (J p d1) d0).Loc).toNat).2.2 1 3<|(s24.2.1.getD (((J (J p d1) d0).Loc).toNat) []).map cI) Z (hN32.at_<|aG Z g43) Z (.some (.rowL<|.cons .nil<|.cons .nil .nil)<|.bE qD<|.nest (hN32.renOpn<|aG Z g43)<|.some (.rowL<|.cons (bh<|Opn.low Z)<|.cons (bh<|Opn.low Z) .nil)<|.some (.rowL<|.cons (ay 9 _ Z)<|.cons (ay 9 _ Z)<|.cons (ay 9 _ Z) .nil)<|.some (.rowL<|.cons (ay 9 _ Z)<|.cons (ay 9 _ Z)<|.cons (ay 9 _ Z)<|.cons (ay 9 _ Z) .nil) .nil) hN32.kf) (bA (a0:=.hp 2 u29 1 (((J (J p d1) d0).Loc).toNat) 0) Z (.hp<|Opn.low Z)<|bL Z Z<|bA (a0:=.hp 5 0 4 0 0) Z (.hp<|Opn.low Z)<|bL Z Z<|bL Z Z<|bL Z Z<|bA (a0:=.hp 4 0 3 0 0) Z (.hp<|Opn.low Z)<|bL Z Z<|bA (a0:=.hp 3 0 2 0 0) Z (.hp<|Opn.low Z)<|bA (a0:=.hp 0 0 2 0 0) Z (.hp<|Opn.low Z)<|bL Z Z um) ?_;generalize (y30<|((J (J p d1) d0).Loc).toNat).1=b44 at n48 ⊢;generalize (y30<|((J (J p d1) d0).Loc).toNat).2.2=u45;generalize kk31.set (y30<|((J (J p d1) d0).Loc).toNat).2.1 Ut=kk46 at hX47 ⊢;refine oA (EvA.loadhp (hS b44 6 u45 1<|(s24.2.1.getD (((J (J p d1) d0).Loc).toNat) []).length) CH Z Z Z Z (zC<|aG Z g43) Z)<|oN (TS.asg (hS b44 6 u45 1<|(s24.2.1.getD (((J (J p d1) d0).Loc).toNat) []).length) Z)<|jA ?_;refine T.jF (G:=(Bool×Nat)×(NG×AH×Nat)×(Bool×Nat)) h (λs49 gh=>(gh.1.1=Uq->s49.1=[])/\NX gh.2.1.2.1 gh.2.1.1 1 3 cI s24.2.1 (((J (J p d1) d0).Loc).toNat)/\(gh.2.2.1=Uq->s49.2=[])) (λs49 gh=>[(12,hS gh.2.2.1 6 gh.2.2.2 1 s49.2.length),(11,I<|J (J v6 d1) d0),(10,.hp 5 0 4 0 0),(27,I s24.2.2.2.2.2),(26,I (schedule.length:Int)),(25,eL cI schedule),(7,.hp 4 0 3 0 0),(6,eL (cL cI) v6),(5,.hp 3 0 2 0 0),(4,.hp 0 0 2 0 0),(0,eL (cL TW.c) p)]) (λs49 gh=>(Us ⟨0,2,46,[[.nil,.nil]]⟩::bE gh.1.1 gh.1.2 1 3 (s49.1.map cI)::bE Ur gh.2.1.2.2 1 31 (nxs 7 gh.2.1.1 1 s24.2.1 (((J (J p d1) d0).Loc).toNat) gh.2.2.1 6 gh.2.2.2 s49.2.length)::Us ⟨0,2,46,[[hS gh.1.1 1 gh.1.2 1 s49.1.length,hS Ur 2 gh.2.1.2.2 1 s24.2.1.length]]⟩::Us ⟨0,3,88,[(Z3i.c<|Z3i.set d2 d1<|d0+V)]⟩::Us ⟨0,4,65,[(TW.c<|J (J p d1) d0)]⟩::bE gh.2.2.1 gh.2.2.2 1 3 (s49.2.map cI)::gh.2.1.2.1)) (λs49 gh h hg=>?_) λs49 h=>?_
  ·obtain ⟨⟨b56,u55⟩,⟨y59,kk60,u58⟩,⟨b63,u62⟩⟩:=gh;obtain ⟨n57,hN61,n64⟩:=hg;refine jI<|oA (lh (.agg<|TW.c<|J (J p d1) d0) Ik Z Z Z)<|oC h (λ_=>cF _) Z Z Z Z λv65 _ h=>jA ?_;refine jN Z h (λq66 h=>?_) λq66 h=>?_
   ·refine jP (dG [dF,([3],Ur),dF,([5],Ur),dF,dF,dF,([6],Uq),dF,([2],Uq)]) (by kernel_rfl) (by kernel_rfl)<|fN Z (fa NP Z)<|fR [3] Z (λG hG=>EvA.loadhp (hS Ur 2 u58 1 s24.2.1.length) QR Z (hG.a0 Z) Z Z Z Z)<|fN Z (fa QS Z)<|fR [5] Z (λG hG=>EvA.loadhp (I<|(J (J p d1) d0).Loc) Uk Z (hG.a0 Z) Z Z Z Z)<|fN Z mv<|fN Z mv<|fN Z (TS.mkF (c:=cI) ([(J (J v6 d1) d0)]:LI) [[I (J (J v6 d1) d0)]] lK Z Z Z qD qD Z)<|jL h λg67 h=>fW 6 [] Z Z (λG hG=>EvA.app1 (g:=b63) (l:=s49.2) (J (J v6 d1) d0) lK (by kernel_rfl) Z Z (hG.a0 Z) n64 (cu.fz (l:=([(J (J v6 d1) d0)]:LI)) Z qD) g67)<|fN Z (TS.ixO (g:=false) vo Z Z nofun g43)<|fV 2 [] Z Z (λG hG=>EvA.st (cs:=[hS Ur 6 (u62+1) 1 ((s49.2++[(J (J v6 d1) d0)]).length)]) ⟨u58,1,31,(nxs 7 y59 1 s24.2.1 (((J (J p d1) d0).Loc).toNat) Ur 6 (u62+1)<|(s49.2++[(J (J v6 d1) d0)]).length)⟩ CH Z Z (hG.a0 Z) Z Z (zC hN61.hi) Z Z<|congrArg (ABlk.mk u58 1 31) IM)<|jR ?_;obtain rfl:=TV h;exact ⟨((b56,u55),((up 1<|(up 1 y59).put (((J (J p d1) d0).Loc).toNat) (Ur,0,u62+1)),(Us ⟨0,4,65,[(TW.c<|J (J p d1) d0)]⟩::(bE Ur (u62+1) 1 3 ((s49.2++[(J (J v6 d1) d0)]).map cI)::kk60)),u58)),⟨n57,((hN61.close (g:=false) (v:=u62+1) (r:=(s49.2++[(J (J v6 d1) d0)])) nofun qD).push λ_ hb=>osi hb ▸ au Z)⟩,kw (Eq.trans (congrArg (λn_:Nat=>(Us ⟨0,2,46,[[.nil,.nil]]⟩::bE b56 u55 1 3 (s49.1.map cI)::bE Ur u58 1 31 (TU 5 (up 1<|(up 1 y59).put (((J (J p d1) d0).Loc).toNat) (Ur,0,u62+1)) 1<|s24.2.1.set (((J (J p d1) d0).Loc).toNat)<|s49.2++[(J (J v6 d1) d0)])::Us ⟨0,2,46,[[hS b56 1 u55 1 s49.1.length,hS Ur 2 u58 1 n_]]⟩::Us ⟨0,3,88,[(Z3i.c<|Z3i.set d2 d1<|d0+(1:Int))]⟩::Us ⟨0,4,65,[(TW.c<|J (J p d1) d0)]⟩::bE Ur (u62+1) 1 3 ((s49.2++[(J (J v6 d1) d0)]).map cI)::kk60:AH)) (by simp:(s24.2.1.set (((J (J p d1) d0).Loc).toNat)<|s49.2++[(J (J v6 d1) d0)]).length=s24.2.1.length))<|congrArg (λr_:List (List AV)=>(Us ⟨0,2,46,[[.nil,.nil]]⟩::bE b56 u55 1 3 (s49.1.map cI)::bE Ur u58 1 31 r_::Us ⟨0,2,46,[[hS b56 1 u55 1 s49.1.length,hS Ur 2 u58 1 s24.2.1.length]]⟩::Us ⟨0,3,88,[(Z3i.c<|Z3i.set d2 d1<|d0+(1:Int))]⟩::Us ⟨0,4,65,[(TW.c<|J (J p d1) d0)]⟩::bE Ur (u62+1) 1 3 ((s49.2++[(J (J v6 d1) d0)]).map cI)::kk60:AH)) (show (nxs 7 y59 1 s24.2.1 (((J (J p d1) d0).Loc).toNat) Ur 6 (u62+1)<|(s49.2++[(J (J v6 d1) d0)]).length)=TU 5 (up 1<|(up 1 y59).put (((J (J p d1) d0).Loc).toNat) (Ur,0,u62+1)) 1 (s24.2.1.set (((J (J p d1) d0).Loc).toNat)<|s49.2++[(J (J v6 d1) d0)]) from Au (m:=6) (gh:=y59) (r:=(s49.2++[(J (J v6 d1) d0)])) hN61.hi).symm) Z⟩
   refine jG ?_;obtain rfl:=TV h;exact ⟨((b56,u55),((up 1<|(up 1 y59).put (((J (J p d1) d0).Loc).toNat) (b63,0,u62)),(Us ⟨0,4,65,[(TW.c<|J (J p d1) d0)]⟩::(bE b63 u62 1 3 (s49.2.map cI)::kk60)),u58)),⟨n57,((hN61.close (g:=b63) (v:=u62) (r:=s49.2) n64 qD).push λ_ hb=>osi hb ▸ au Z)⟩,kw (Eq.trans (congrArg (λn_:Nat=>(Us ⟨0,2,46,[[.nil,.nil]]⟩::bE b56 u55 1 3 (s49.1.map cI)::bE Ur u58 1 31 (TU 5 (up 1<|(up 1 y59).put (((J (J p d1) d0).Loc).toNat) (b63,0,u62)) 1<|s24.2.1.set (((J (J p d1) d0).Loc).toNat) s49.2)::Us ⟨0,2,46,[[hS b56 1 u55 1 s49.1.length,hS Ur 2 u58 1 n_]]⟩::Us ⟨0,3,88,[(Z3i.c<|Z3i.set d2 d1<|d0+(1:Int))]⟩::Us ⟨0,4,65,[(TW.c<|J (J p d1) d0)]⟩::bE b63 u62 1 3 (s49.2.map cI)::kk60:AH)) (by simp:(s24.2.1.set (((J (J p d1) d0).Loc).toNat) s49.2).length=s24.2.1.length))<|congrArg (λr_:List (List AV)=>(Us ⟨0,2,46,[[.nil,.nil]]⟩::bE b56 u55 1 3 (s49.1.map cI)::bE Ur u58 1 31 r_::Us ⟨0,2,46,[[hS b56 1 u55 1 s49.1.length,hS Ur 2 u58 1 s24.2.1.length]]⟩::Us ⟨0,3,88,[(Z3i.c<|Z3i.set d2 d1<|d0+(1:Int))]⟩::Us ⟨0,4,65,[(TW.c<|J (J p d1) d0)]⟩::bE b63 u62 1 3 (s49.2.map cI)::kk60:AH)) (show (nxs 7 y59 1 s24.2.1 (((J (J p d1) d0).Loc).toNat) b63 6 u62 s49.2.length)=TU 5 (up 1<|(up 1 y59).put (((J (J p d1) d0).Loc).toNat) (b63,0,u62)) 1 (s24.2.1.set (((J (J p d1) d0).Loc).toNat) s49.2) from Au (m:=6) (gh:=y59) (r:=s49.2) hN61.hi).symm) Z⟩
  refine jI<|oA (lh (.agg<|TW.c<|J (J p d1) d0) Ik Z Z Z)<|oC h (λ_=>iw _) Z Z Z Z λv50 _ h=>jA ?_;refine jN Z h (λq51 h=>?_) λq51 h=>?_
  ·refine jP (dG [dF,([3],Ur),dF,dF,dF,dF,dF,dF,([6],Ur),dF,([1],Uq)]) (by kernel_rfl) (by kernel_rfl)<|fN Z (fa NP Z)<|fR [3] Z (λG hG=>EvA.loadhp (hS b27 1 u26 1 s24.1.length) CH Z (hG.a0 Z) Z Z Z Z)<|fN Z mv<|fN Z mv<|fN Z mv<|fN Z (TS.lenO (g:=b44) lK Z<|uO n48 Z)<|jW h λg52 h=>fN Z (TS.sub Z Z g52)<|jD h λg53 h=>?_;obtain rfl:=CE n48 rfl g53;refine fN Z (TS.ixO (g:=false) lK Z Z nofun g53)<|fR [6] Z (λG hG=>EvA.ldO (g:=false) (l:=(s24.2.1.getD (((J (J p d1) d0).Loc).toNat) [])) (I<|(s24.2.1.getD (((J (J p d1) d0).Loc).toNat) []).getD ((((s24.2.1.getD (((J (J p d1) d0).Loc).toNat) []).length:Int)-V).toNat) Uo) Uk Z (hG.a0 Z) nofun (aG Z g53) Z)<|jD h λg54 h=>?_;obtain rfl:=CE n28 rfl g54;refine fN Z (TS.ixO (g:=false) lK Z Z nofun g54)<|fV 1 [] Z Z (λG hG=>EvA.stO (g:=false) (l:=s24.1) (cs:=[I ((s24.2.1.getD (((J (J p d1) d0).Loc).toNat) []).getD ((((s24.2.1.getD (((J (J p d1) d0).Loc).toNat) []).length:Int)-V).toNat) Uo)]) ((s24.2.1.getD (((J (J p d1) d0).Loc).toNat) []).getD ((((s24.2.1.getD (((J (J p d1) d0).Loc).toNat) []).length:Int)-V).toNat) Uo) Uk Z Z (hG.a0 Z) nofun (aG Z g54) Z Z Z)<|jR ?_;obtain rfl:=TV h;exact ⟨((Ur,u26),(y30,kk46,u29),(Ur,u45)),⟨nofun,hX47,nofun⟩,kw (congrArg (λn_:Nat=>(Us ⟨0,2,46,[[.nil,.nil]]⟩::bE Ur u26 1 3 ((s24.1.set ((J (J v6 d1) d0).toNat)<|(s24.2.1.getD (((J (J p d1) d0).Loc).toNat) []).getD ((((s24.2.1.getD (((J (J p d1) d0).Loc).toNat) []).length:Int)-(1:Int)).toNat) Uo).map cI)::bE Ur u29 1 31 (nxs 7 y30 1 s24.2.1 (((J (J p d1) d0).Loc).toNat) Ur 6 u45<|(s24.2.1.getD (((J (J p d1) d0).Loc).toNat) []).length)::Us ⟨0,2,46,[[hS Ur 1 u26 1 n_,hS Ur 2 u29 1 s24.2.1.length]]⟩::Us ⟨0,3,88,[(Z3i.c<|Z3i.set d2 d1<|d0+(1:Int))]⟩::Us ⟨0,4,65,[(TW.c<|J (J p d1) d0)]⟩::bE Ur u45 1 3 ((s24.2.1.getD (((J (J p d1) d0).Loc).toNat) []).map cI)::kk46:AH)) (by simp:(s24.1.set ((J (J v6 d1) d0).toNat)<|(s24.2.1.getD (((J (J p d1) d0).Loc).toNat) []).getD ((((s24.2.1.getD (((J (J p d1) d0).Loc).toNat) []).length:Int)-(1:Int)).toNat) Uo).length=s24.1.length)) Z⟩
  refine jG ?_
  cases h
  exact ⟨((b27,u26),(y30,kk46,u29),(b44,u45)),⟨n28,hX47,n48⟩,kw Z Z⟩
 refine jM<|lX h λh=>?_
 cases h
 exact ⟨((b27,u26),(y30,kk31,u29)),⟨n28,hN32⟩,kw Z Z⟩
theorem EG (p:List<|List TW) (schedule:LI) {q} (h:rR p schedule=Us q):ax Uv 26 [eL (cL TW.c) p,eL cI schedule] (.tup [.agg (TY.c q.1),Bo q.2]):=by
 refine pM func26 Z (by kernel_rfl) Z<|go h λ_ h=>?_;refine gs h λ_ h=>?_;refine oC h (λ_=>za _ _) Z Z Z Z λv1 _ h=>?_;refine gi h (λ_ q2 h=>?_) λ_ q2 h=>?_
 ·exact gf h
 refine go h λ_ h=>?_;refine oC h (λ_=>EF _ _) Z Z Z Z λv3 _ h=>?_;exact gf h
theorem xB (p:List<|List TW) (schedule:LI) {q} (h:ik p schedule=Us q):ax Uv 9 [eL (cL TW.c) p,eL cI schedule] (.tup [eL cI q.1,Bo q.2]):=by
 refine pM func9 Z (by kernel_rfl) Z<|go h λ_ h=>?_;refine oC h (λ_=>EG _ _) Z Z Z Z λv1 _ h=>(go h λ_ h=>?_);refine Ul h (λ_ q2 h=>?_) λ_ q2 h=>?_
 ·exact gf h
 refine go h λ_ h=>?_;refine oC h (λ_=>tV _ _) Z Z Z Z λv3 _ h=>?_;exact gf h
theorem Bi (name:BA) {q} (h:mh name=Us q):ax Uv 21 [St name] (St q):=by
 refine pM func21 Z (by kernel_rfl) Z<|go h λ_ h=>?_;refine Ul h (λ_ q1 h=>?_) λ_ q1 h=>?_
 ·exact gz h
 refine gi h (λ_ q2 h=>?_) λ_ q2 h=>?_
 ·exact gz h
 refine gi h (λ_ q3 h=>?_) λ_ q3 h=>?_
 ·exact gz h
 refine gi h (λ_ q4 h=>?_) λ_ q4 h=>?_
 ·exact gz h
 refine gi h (λ_ q5 h=>?_) λ_ q5 h=>?_
 ·exact gz h
 exact gz h
theorem ny (s:BA) (c:Int) {q} (h:bR s c=some q):ax Tryz.prog 170 [St s,Y c] (I q):=by
 refine pM Tryz.func170 Z (by kernel_rfl) Z<|go h λ_ h=>?_;refine oN (TS.extIndex Z Z Z Z Z Tryz.func197 (by kernel_rfl) (by kernel_rfl) (by kernel_rfl)<|by kernel_rfl) ?_;exact gz h
theorem iY (s:BA) (substr:BA) {q} (h:bM s substr=some q):ax Tryz.prog 133 [St s,St substr] (I q):=by
 refine pM Tryz.func133 Z (by kernel_rfl) Z<|go h λ_ h=>?_;refine gs h λ_ h=>?_;refine TO.jB h 4 (λs1=>[(23,Bo s1),(5,I (substr.size:Int)),(0,St s),(1,St substr)]) (λs1=>[]) (λs1 q2 h js1=>?_) (λs1 q2 h js1=>?_) λs1 h=>?_
 ·exact gj h js1
 ·exact gj h js1
 refine gi h (λ_ q3 h=>?_) λ_ q3 h=>?_
 ·exact gz h
 refine gi h (λ_ q4 h=>?_) λ_ q4 h=>?_
 ·refine go h λ_ h=>?_;refine oC h (λ_=>ny _ _) Z Z Z Z λv6 _ h=>?_;exact gz h
 refine gi h (λ_ q7 h=>?_) λ_ q7 h=>?_
 ·exact gz h
 cases h
theorem vW (s:BA) (substr:BA) {q} (h:kL s substr=some q):ax Tryz.prog 132 [St s,St substr] (I q):=by
 refine pM Tryz.func132 Z (by kernel_rfl) Z<|go h λ_ h=>?_;refine oC h (λ_=>iY _ _) Z Z Z Z λv1 _ h=>?_;exact gz h
theorem Co (s:BA) (substr:BA) {q} (h:nV s substr=some q):ax Tryz.prog 131 [St s,St substr] (I q):=by
 refine pM Tryz.func131 Z (by kernel_rfl) Z<|go h λ_ h=>?_;refine Ul h (λ_ q1 h=>?_) λ_ q1 h=>?_
 ·cases h
 refine go h λ_ h=>?_;refine Ul h (λ_ q2 h=>?_) λ_ q2 h=>?_
 ·refine go h λ_ h=>?_;refine oN (TS.extCount Z Z Z Z Z Tryz.func169 (by kernel_rfl) (by kernel_rfl) (by kernel_rfl)<|by kernel_rfl) ?_;exact gz h
 refine go h λ_ h=>?_;refine tU h (λs6=>[(5,I s6.1),(0,St s6.2),(1,St substr)]) (λs6=>[]) λs6 ws6 h=>?_;refine go h λ_ h=>?_;refine oC h (λ_=>vW _ _) Z Z Z Z λv8 _ h=>(go h λ_ h=>?_);refine Ul h (λ_ q9 h=>?_) λ_ q9 h=>?_
 ·refine go h λ_ h=>?_;refine lX h λh=>?_;exact gz h
 refine go h λ_ h=>?_;exact lE h Um
theorem zb (s:BA) (sep:BA) (sepSave:Int) (n:Int) {q} (h:kx s sep sepSave n=some q):ax Tryz.prog 94 [St s,St sep,I sepSave,I n] (eL cS q):=by
 refine pM Tryz.func94 Z (by kernel_rfl) Z<|go h λ_ h=>?_;refine Ul h (λ_ q1 h=>?_) λ_ q1 h=>?_
 ·refine go h λ_ h=>?_;obtain rfl:=TV h
  repeat (first|refine kC ?_|refine kD ?_)
  exact jQ (vs:=[.nil]) (.cons (.tmp Z) .nil) .nil0
 refine go h λ_ h=>?_;refine Ul h (λ_ q2 h=>?_) λ_ q2 h=>?_
 ·cases h
 refine go h λ_ h=>?_;refine T.jU h (λs3=>[(3,I s3),(0,St s),(1,St sep),(2,I sepSave)]) (λs3=>[]) (λs3 h=>?_) λs3 h=>?_
 ·refine go h λ_ h=>?_;refine jD h λg8 h=>oA (EvA.mkN (c:=cS) (default:BA) R4 Z Z g8 Z Z Z)<|go h λ_ h=>?_;refine tJ h (λs10 gh=>[(10,I s10.2.1),(9,hS false 0 gh 1 s10.1.length),(0,St s10.2.2)]) (λs10 gh=>[bE false gh 1 9 (s10.1.map cS)]) (λs10 u26 h=>?_) λs10 h=>?_
  ·refine go h λf h=>?_;obtain ⟨g27,_⟩:=f;refine oV (EvA.stO (g:=false) (l:=s10.1) (cs:=[St s10.2.2]) s10.2.2 ty9 Z Z Z nofun (aG Z g27) Z Z Z)<|jA<|jI<|oN mv<|oN mv<|jW h λg28 h=>oN (TS.add Z Z g28)<|TO.cut (e0:=ak [(64,I<|s10.2.1+(1:Int)),(62,eL cS<|s10.1.set s10.2.1.toNat s10.2.2)]) (H0:=[]) (rI Z .nil<|ai (.fz<|qC Z)<|ai (.fz<|Fz.own (g:=false) (ver:=u26) (l:=(s10.1.set s10.2.1.toNat s10.2.2)) Z Z (by simp) nofun qD) aY)<|jD h λg29 h=>oN (TS.slL R4 Z .no (.yes Z) g29 qD) ?_;exact gz h
  refine go h λ_ h=>?_;refine tT h 0 (λs14 gh=>[(10,I s14.2.1),(3,I<|(if ((s.size:Int)+V)<s3 then ((s.size:Int)+V) else s3)-V),(9,hS false 0 gh 1 s14.1.length),(0,St s14.2.2),(1,St sep),(2,I sepSave)]) (λs14 gh=>[bE false gh 1 9 (s14.1.map cS)]) λs14 u16 ws14 h=>?_;refine Ul h (λ_ q17 h=>?_) λ_ q17 h=>?_
  ·refine go h λ_ h=>?_;refine oC h (λ_=>vW _ _) Z Z Z Z λv18 _ h=>(go h λ_ h=>?_);refine Ul h (λ_ q19 h=>?_) λ_ q19 h=>?_
   ·refine jM<|lX h λh=>?_
    cases h
    exact ⟨u16,trivial,Um⟩
   refine go h λf h=>?_;obtain ⟨g22,_⟩:=f;refine oV (EvA.stO (g:=false) (l:=s14.1) (cs:=[St (s14.2.2.extract U.toNat (v18+sepSave).toNat)]) (s14.2.2.extract U.toNat (v18+sepSave).toNat) ty9 Z Z Z nofun (aG Z g22) Z Z Z)<|go h λ_ h=>?_;obtain rfl:=TV h;exact ⟨((s14.1.set s14.2.1.toNat<|s14.2.2.extract (0:Int).toNat (v18+sepSave).toNat),(s14.2.1+(1:Int)),(s14.2.2.extract (v18+(sep.size:Int)).toNat (s14.2.2.size:Int).toNat)),u16,Z,trivial,BB Z<|TR Z<|TR Z<|TR (congrArg (hS false 0 u16 1) (by simp:s14.1.length=(s14.1.set s14.2.1.toNat<|s14.2.2.extract (0:Int).toNat (v18+sepSave).toNat).length))<|TR Z<|TR Z<|TR Z TQ⟩
  refine jM<|lX h λh=>?_
  cases h
  exact ⟨u16,trivial,Um⟩
 refine gi h (λ_ q4 h=>?_) λ_ q4 h=>?_
 ·refine go h λ_ h=>?_;refine oC h (λ_=>Co _ _) Z Z Z Z λv5 _ h=>(go h λ_ h=>?_)
  cases h
  exact ⟨(),trivial,Um⟩
 refine go h λ_ h=>?_
 cases h
 exact ⟨(),trivial,Um⟩
theorem Cq (s:BA) (sep:BA) {q} (h:nW s sep=some q):ax Tryz.prog 55 [St s,St sep] (eL cS q):=by
 refine pM Tryz.func55 Z (by kernel_rfl) Z<|go h λ_ h=>?_;refine oC h (λ_=>zb _ _ _ _) Z Z Z Z λv1 _ h=>?_;exact gz h
theorem sx (s:BA) (sep:BA) {q} (h:dC s sep=some q):ax Tryz.prog 95 [St s,St sep] (.tup [St q.1,St q.2.1,Bo q.2.2]):=by
 refine pM Tryz.func95 Z (by kernel_rfl) Z<|go h λ_ h=>?_;refine gs h λ_ h=>?_;refine oC h (λ_=>iY _ _) Z Z Z Z λv1 _ h=>?_;refine gi h (λ_ q2 h=>?_) λ_ q2 h=>?_
 ·refine jH<|T.drawP (by kernel_rfl) (by kernel_rfl) ?_;exact gf h
 exact gf h
theorem EH (s:BA) (sep:BA) {q} (h:rS s sep=some q):ax Tryz.prog 56 [St s,St sep] (.tup [St q.1,St q.2.1,Bo q.2.2]):=by
 refine pM Tryz.func56 Z (by kernel_rfl) Z<|go h λ_ h=>?_;refine oC h (λ_=>sx _ _) Z Z Z Z λv1 _ h=>?_;exact gf h
theorem iZ (s:List BA) (v:BA) {q} (h:bN s v=some q):ax Tryz.prog 57 [eL cS s,St v] (I q):=by
 refine pM Tryz.func57 Z (by kernel_rfl) Z<|go h λ_ h=>?_;obtain ⟨Ks1,es1,ws1,h,ks1⟩:=sumL h;refine T.join (S:=Unit) (G:=Unit) (λs1=>Ks1 s1=some q) (λs1 gh=>True) (λs1 gh=>[]) (λs1 gh=>[]) (λs1 gh h hg=>?_) ?_
 ·clear ks1;subst es1;exact gz h
 refine go h λ_ h=>?_;refine tU h (λs4=>[(8,I s4),(7,I (s.length:Int)),(0,eL cS s),(1,St v)]) (λs4=>[]) λs4 ws4 h=>?_;refine go h λ_ h=>?_;refine jH ?_;refine jN Z h (λq6 h=>?_) λq6 h=>?_
 ·refine go h λ_ h=>?_;refine Ul h (λ_ q8 h=>?_) λ_ q8 h=>?_
  ·refine go h λ_ h=>?_;refine lX h λh=>?_;obtain rfl:=TV h;replace h:=congrArg some (show _=_ from ks1);exact gz h
  refine go h λ_ h=>?_;exact lE h Um
 refine jM<|lX h λh=>?_
 cases h
 exact ⟨(),(),ks1,trivial,Um⟩
theorem db (r_:aa) (c:Int) (aB:Nat) {q} (h:bB r_ c=some q):fu Tryz.prog 136 [.hp 0 aB 2 0 0,Y c] [some ⟨aB,2,136,[(aa.c r_)]⟩] (Bo q.2) [some ⟨aB,2,136,[[St q.1.rest,Bo q.1.failed]]⟩]:=by
 refine aM Tryz.func136 Z (by kernel_rfl) Z<|go h λ_ h=>?_;refine gs h λ_ h=>?_;refine TO.jB h 6 (λs1=>[(15,Bo s1),(0,.hp 0 aB 2 0 0),(1,Y c)]) (λs1=>[some ⟨aB,2,136,[(aa.c r_)]⟩]) (λs1 q2 h js1=>?_) (λs1 q2 h js1=>?_) λs1 h=>?_
 ·exact gj h js1
 ·refine go h λ_ h=>?_;refine gA Z q2 (lh (St r_.rest) ty9 Z Z Z) ?_;exact gj h js1
 refine go h λ_ h=>?_;refine TO.jB h 8 (λs3=>[(24,Bo s3),(0,.hp 0 aB 2 0 0)]) (λs3=>[some ⟨aB,2,136,[(aa.c r_)]⟩]) (λs3 q4 h js3=>?_) (λs3 q4 h js3=>?_) λs3 h=>?_
 ·exact gj h js3
 ·refine go h λ_ h=>?_;refine gA Z q4 (lh (St r_.rest) ty9 Z Z Z) ?_;exact gj h js3
 refine gi h (λ_ q6 h=>?_) λ_ q6 h=>?_
 ·refine go h λ_ h=>?_;obtain rfl:=TV h
  repeat (first|refine kC ?_|refine kD ?_)
  exact ⟨ak [(4,Bo false)],[some ⟨aB,2,136,[(aa.c (⟨r_.rest,r_.failed⟩:aa))]⟩],Um,jQ (vs:=[Bo false]) (.cons (.tmp Z) .nil) ⟨Z,Z⟩⟩
 refine go h λ_ h=>?_;obtain rfl:=TV h
 repeat (first|refine kC ?_|refine kD ?_)
 exact ⟨ak [(4,Bo true)],[some ⟨aB,2,136,[(aa.c (⟨(r_.rest.extract V.toNat (r_.rest.size:Int).toNat),r_.failed⟩:aa))]⟩],Um,jQ (vs:=[Bo true]) (.cons (.tmp Z) .nil) ⟨Z,Z⟩⟩
theorem wV (r_:aa) (aB:Nat) {q} (h:gD r_=some q):fu Tryz.prog 174 [.hp 0 aB 2 0 0] [some ⟨aB,2,136,[(aa.c r_)]⟩] (St q.2) [some ⟨aB,2,136,[[St q.1.rest,Bo q.1.failed]]⟩]:=by
 refine aM Tryz.func174 Z (by kernel_rfl) Z<|go h λ_ h=>?_;refine T.jU h (λs1=>[(3,I s1),(0,.hp 0 aB 2 0 0)]) (λs1=>[some ⟨aB,2,136,[(aa.c r_)]⟩]) (λs1 h=>?_) λs1 h=>?_
 ·refine go h λ_ h=>?_;obtain rfl:=TV h
  repeat (first|refine kC ?_|refine kD ?_)
  exact ⟨ak [(2,St<|r_.rest.extract U.toNat s1.toNat)],[some ⟨aB,2,136,[(aa.c (⟨(r_.rest.extract s1.toNat (r_.rest.size:Int).toNat),r_.failed⟩:aa))]⟩],Um,jQ (vs:=[St (r_.rest.extract U.toNat s1.toNat)]) (.cons (.tmp Z) .nil) ⟨Z,Z⟩⟩
 refine go h λ_ h=>?_;refine tU h (λs4=>[(3,I s4),(0,.hp 0 aB 2 0 0)]) (λs4=>[some ⟨aB,2,136,[(aa.c r_)]⟩]) λs4 ws4 h=>?_;refine gs h λ_ h=>?_;refine TO.jB h 8 (λs6=>[(20,Bo s6),(3,I s4),(0,.hp 0 aB 2 0 0)]) (λs6=>[some ⟨aB,2,136,[(aa.c r_)]⟩]) (λs6 q7 h js6=>?_) (λs6 q7 h js6=>?_) λs6 h=>?_
 ·refine go h λ_ h=>?_;refine gA Z q7 (lh (St r_.rest) ty9 Z Z Z) ?_;exact gj h js6
 ·exact gj h js6
 refine go h λ_ h=>?_;refine TO.jB h 8 (λs9=>[(29,Bo s9),(3,I s4),(0,.hp 0 aB 2 0 0)]) (λs9=>[some ⟨aB,2,136,[(aa.c r_)]⟩]) (λs9 q10 h js9=>?_) (λs9 q10 h js9=>?_) λs9 h=>?_
 ·refine go h λ_ h=>?_;refine gA Z q10 (lh (St r_.rest) ty9 Z Z Z) ?_;exact gj h js9
 ·exact gj h js9
 refine gi h (λ_ q12 h=>?_) λ_ q12 h=>?_
 ·refine go h λ_ h=>?_;exact lE h Um
 refine jM<|lX h λh=>?_
 cases h
 exact ⟨(),trivial,Um⟩
theorem rH (lq:aa->Int->Option (aa×ae)) (ih96:∀ (r_:aa) (level:Int) (aB:Nat) {q},lq r_ level=some q->fu Tryz.prog 96 [.hp 0 aB 2 0 0,I level] [some ⟨aB,2,136,[(aa.c r_)]⟩] (.agg<|ae.c q.2) [some ⟨aB,2,136,[[St q.1.rest,Bo q.1.failed]]⟩]):∀ (nf:Nat) (r_:aa) (aB:Nat) {q:aa×ae} (h:bP lq nf r_=some q),fu Tryz.prog 134 [.hp 0 aB 2 0 0] [some ⟨aB,2,136,[(aa.c r_)]⟩] (.agg<|ae.c q.2) [some ⟨aB,2,136,[[St q.1.rest,Bo q.1.failed]]⟩]:=by
 intro nf
 induction nf with
 | zero=>intros;rename_i h;cases h
 | succ nf ih=>
  intro r_ aB q h;replace h:cG lq (bP lq nf) r_=some q:=h;refine aM Tryz.func134 Z (by kernel_rfl) Z<|go h λ_ h=>?_;refine gs h λ_ h=>?_;refine jB h λv1 cv1 h=>oA (EvA.call Z Z Z<|(db (⟨r_.rest,r_.failed⟩:aa) (40:Int) aB cv1).one 0 Z (.cons (.hp Z)<|.cons (.pF Z) .nil) (au Z) (au Z) Z) ?_;refine gi h (λ_ q2 h=>?_) λ_ q2 h=>?_
  ·refine go h λ_ h=>?_;refine jB h λv3 cv3 h=>oA (EvA.call Z Z Z<|(ih96 (⟨v1.1.rest,v1.1.failed⟩:aa) (3:Int) aB cv3).one 0 Z (.cons (.hp Z)<|.cons (.pF Z) .nil) (au Z) (au Z) Z)<|go h λ_ h=>?_;refine T.jU h (λs4=>[(3,.hp 2 0 3 0 0),(2,.hp 1 0 3 0 0)]) (λs4=>[some ⟨aB,2,136,[[St s4.1,Bo s4.2]]⟩,some ⟨0,3,100,[[I U,St (⟨#[]⟩:BA),.nil]]⟩,some ⟨0,3,100,[(ae.c v3.2)]⟩]) (λs4 h=>?_) λs4 h=>?_
   ·refine go h λ_ h=>?_;obtain rfl:=TV h
    repeat (first|refine kC ?_|refine kD ?_)
    exact ⟨ak [(2,.fp (ae.c (⟨v3.2.Op,v3.2.Name,v3.2.Kids⟩:ae)) 0)],[some ⟨aB,2,136,[(aa.c (⟨s4.1,s4.2⟩:aa))]⟩],rI Z (.cons (.row<|.cons (.fz<|qC Z)<|.cons (.fz<|qC Z) .nil) .nil)<|ai (.fz<|Fz.fpL (ver:=0) (s:=3) (ty:=100) (rows:=[[I v3.2.Op,St v3.2.Name,eL ZTE.c v3.2.Kids]]) Z Z Z<|.cons (qC Z)<|.cons (qC Z)<|.cons (qC Z) .nil) aY,jQ (vs:=[.agg (ae.c (⟨v3.2.Op,v3.2.Name,v3.2.Kids⟩:ae))]) (.cons (.cellF (.agg<|ae.c (⟨v3.2.Op,v3.2.Name,v3.2.Kids⟩:ae)) H9 Z Z) .nil) ⟨Z,Z⟩⟩
   refine go h λ_ h=>?_;refine jB h λv5 cv5 h=>oA (EvA.call Z Z Z<|(db (⟨v3.1.rest,v3.1.failed⟩:aa) (41:Int) aB cv5).one 0 Z (.cons (.hp Z)<|.cons (.pF Z) .nil) (au Z) (au Z) Z) ?_;refine gi h (λ_ q6 h=>?_) λ_ q6 h=>?_
   ·refine go h λ_ h=>?_
    cases h
    exact ⟨(),trivial,Um⟩
   refine go h λ_ h=>?_
   cases h
   exact ⟨(),trivial,Um⟩
  refine go h λ_ h=>?_;refine jB h λv7 cv7 h=>oA (EvA.call Z Z Z<|(db (⟨v1.1.rest,v1.1.failed⟩:aa) (126:Int) aB cv7).one 0 Z (.cons (.hp Z)<|.cons (.pF Z) .nil) (au Z) (au Z) Z) ?_;refine gi h (λ_ q8 h=>?_) λ_ q8 h=>?_
  ·refine go h λ_ h=>?_;refine jB h λv9 cv9 h=>oA (EvA.call Z Z Z<|(ih (⟨v7.1.rest,v7.1.failed⟩:aa) aB cv9).one 0 Z (.cons (.hp Z) .nil) (au Z) (au Z) Z)<|oN (TS.res (TS.mkF (c:=ae.c) ([v9.2]:List ae) [(ae.c v9.2)] O3 Z Z Z qD ae.isF Z) (r':=eL ZTE.c ([v9.2.inn]:List ZTE)) λ_ _ hr=>IU ae.inn_c hr) ?_;refine go h λ_ h=>?_;obtain rfl:=TV h
   repeat (first|refine kC ?_|refine kD ?_)
   exact ⟨ak [(2,.fp (ae.c (⟨(6:Int),(⟨#[]⟩:BA),([v9.2.inn]:List ZTE)⟩:ae)) 0)],[some ⟨aB,2,136,[(aa.c (⟨v9.1.rest,v9.1.failed⟩:aa))]⟩],rI Z (.cons (.row<|.cons (.fz<|qC Z)<|.cons (.fz<|qC Z) .nil) .nil)<|ai (.fz<|Fz.fpL (ver:=0) (s:=3) (ty:=100) (rows:=[[I (6:Int),St (⟨#[]⟩:BA),eL ZTE.c ([v9.2.inn]:List ZTE)]]) Z Z Z<|.cons (qC Z)<|.cons (qC Z)<|.cons (qC Z) .nil) aY,jQ (vs:=[.agg (ae.c (⟨(6:Int),(⟨#[]⟩:BA),([v9.2.inn]:List ZTE)⟩:ae))]) (.cons (.cellF (.agg<|ae.c (⟨(6:Int),(⟨#[]⟩:BA),([v9.2.inn]:List ZTE)⟩:ae)) H9 Z Z) .nil) ⟨Z,Z⟩⟩
  refine go h λ_ h=>?_;refine jB h λv10 cv10 h=>oA (EvA.call Z Z Z<|(db (⟨v7.1.rest,v7.1.failed⟩:aa) (43:Int) aB cv10).one 0 Z (.cons (.hp Z)<|.cons (.pF Z) .nil) (au Z) (au Z) Z) ?_;refine gi h (λ_ q11 h=>?_) λ_ q11 h=>?_
  ·refine go h λ_ h=>?_;refine jB h λv12 cv12 h=>oA (EvA.call Z Z Z<|(ih (⟨v10.1.rest,v10.1.failed⟩:aa) aB cv12).one 0 Z (.cons (.hp Z) .nil) (au Z) (au Z) Z)<|oN (TS.res (TS.mkF (c:=ae.c) ([v12.2]:List ae) [(ae.c v12.2)] O3 Z Z Z qD ae.isF Z) (r':=eL ZTE.c ([v12.2.inn]:List ZTE)) λ_ _ hr=>IU ae.inn_c hr) ?_;refine go h λ_ h=>?_;obtain rfl:=TV h
   repeat (first|refine kC ?_|refine kD ?_)
   exact ⟨ak [(2,.fp (ae.c (⟨(7:Int),(⟨#[]⟩:BA),([v12.2.inn]:List ZTE)⟩:ae)) 0)],[some ⟨aB,2,136,[(aa.c (⟨v12.1.rest,v12.1.failed⟩:aa))]⟩],rI Z (.cons (.row<|.cons (.fz<|qC Z)<|.cons (.fz<|qC Z) .nil) .nil)<|ai (.fz<|Fz.fpL (ver:=0) (s:=3) (ty:=100) (rows:=[[I (7:Int),St (⟨#[]⟩:BA),eL ZTE.c ([v12.2.inn]:List ZTE)]]) Z Z Z<|.cons (qC Z)<|.cons (qC Z)<|.cons (qC Z) .nil) aY,jQ (vs:=[.agg (ae.c (⟨(7:Int),(⟨#[]⟩:BA),([v12.2.inn]:List ZTE)⟩:ae))]) (.cons (.cellF (.agg<|ae.c (⟨(7:Int),(⟨#[]⟩:BA),([v12.2.inn]:List ZTE)⟩:ae)) H9 Z Z) .nil) ⟨Z,Z⟩⟩
  refine go h λ_ h=>?_;refine jB h λv13 cv13 h=>oA (EvA.call Z Z Z<|(wV (⟨v10.1.rest,v10.1.failed⟩:aa) aB cv13).one 0 Z (.cons (.hp Z) .nil) (au Z) (au Z) Z)<|go h λ_ h=>?_;refine T.jU h (λs14=>[(4,St v13.2),(2,.hp 1 0 3 0 0)]) (λs14=>[some ⟨aB,2,136,[[St v13.1.rest,Bo s14]]⟩,some ⟨0,3,100,[[I U,St (⟨#[]⟩:BA),.nil]]⟩]) (λs14 h=>?_) λs14 h=>?_
  ·refine go h λ_ h=>?_;obtain rfl:=TV h
   repeat (first|refine kC ?_|refine kD ?_)
   exact ⟨ak [(2,.fp (ae.c (⟨V,v13.2,([]:List ZTE)⟩:ae)) 0)],[some ⟨aB,2,136,[(aa.c (⟨v13.1.rest,s14⟩:aa))]⟩],rI Z (.cons (.row<|.cons (.fz<|qC Z)<|.cons (.fz<|qC Z) .nil) .nil)<|ai (.fz<|Fz.fpL (ver:=0) (s:=3) (ty:=100) (rows:=[[I V,St v13.2,.nil]]) Z Z Z<|.cons (qC Z)<|.cons (qC Z)<|.cons (.nil0) .nil) aY,jQ (vs:=[.agg (ae.c (⟨V,v13.2,([]:List ZTE)⟩:ae))]) (.cons (.cellF (.agg<|ae.c (⟨V,v13.2,([]:List ZTE)⟩:ae)) H9 Z Z) .nil) ⟨Z,Z⟩⟩
  refine gi h (λ_ q15 h=>?_) λ_ q15 h=>?_
  ·refine go h λ_ h=>?_
   cases h
   exact ⟨(),trivial,Um⟩
  refine go h λ_ h=>?_
  cases h
  exact ⟨(),trivial,Um⟩
theorem sD (lq:aa->Int->Option (aa×ae)) (ih96:∀ (r_:aa) (level:Int) (aB:Nat) {q},lq r_ level=some q->fu Tryz.prog 96 [.hp 0 aB 2 0 0,I level] [some ⟨aB,2,136,[(aa.c r_)]⟩] (.agg<|ae.c q.2) [some ⟨aB,2,136,[[St q.1.rest,Bo q.1.failed]]⟩]) (r_:aa) (aB:Nat) {q:aa×ae} (h:fO lq r_=some q):fu Tryz.prog 134 [.hp 0 aB 2 0 0] [some ⟨aB,2,136,[(aa.c r_)]⟩] (.agg<|ae.c q.2) [some ⟨aB,2,136,[[St q.1.rest,Bo q.1.failed]]⟩]:=by
 obtain ⟨nf,h⟩:=qP h;exact rH lq ih96 nf r_ aB h
theorem p9 (op:Int) {q} (h:iI op=some q):ax Tryz.prog 135 [I op] (.tup [I q.1,St q.2.1,I q.2.2]):=by
 refine pM Tryz.func135 Z (by kernel_rfl) Z<|go h λ_ h=>?_;refine Ul h (λ_ q1 h=>?_) λ_ q1 h=>?_
 ·exact gf h
 refine gi h (λ_ q2 h=>?_) λ_ q2 h=>?_
 ·exact gf h
 refine gi h (λ_ q3 h=>?_) λ_ q3 h=>?_
 ·exact gf h
 refine gi h (λ_ q4 h=>?_) λ_ q4 h=>?_
 ·exact gf h
 refine gi h (λ_ q5 h=>?_) λ_ q5 h=>?_
 ·exact gf h
 refine gi h (λ_ q6 h=>?_) λ_ q6 h=>?_
 ·exact gf h
 refine gi h (λ_ q7 h=>?_) λ_ q7 h=>?_
 ·exact gf h
 exact gf h
theorem vg:∀ (nf:Nat) (r_:aa) (level:Int) (aB:Nat) {q} (h:bQ nf r_ level=Us q),fu Uv 96 [.hp 0 aB 2 0 0,I level] [Us ⟨aB,2,136,[(aa.c r_)]⟩] (.agg<|ae.c q.2) [Us ⟨aB,2,136,[[St q.1.rest,Bo q.1.failed]]⟩]:=by
 intro nf
 induction nf with
 | zero=>intros;rename_i h;cases h
 | succ nf ih=>
  intro r_ level aB q h;replace h:dX (bQ nf) r_ level=Us q:=h;refine aM func96 Z (by kernel_rfl) Z<|go h λ_ h=>?_;refine Ul h (λ_ q1 h=>?_) λ_ q1 h=>?_
  ·refine go h λ_ h=>?_;refine jB h λv2 cv2 h=>oA (EvA.call Z Z Z<|(sD (bQ nf) ih (⟨r_.rest,r_.failed⟩:aa) aB cv2).one 0 Z (.cons (.hp Z) .nil) (au Z) (au Z) Z)<|go h λ_ h=>?_;obtain rfl:=TV h
   repeat (first|refine kC ?_|refine kD ?_)
   exact ⟨ak [(4,.fp (ae.c (⟨v2.2.Op,v2.2.Name,v2.2.Kids⟩:ae)) 0)],[Us ⟨aB,2,136,[(aa.c (⟨v2.1.rest,v2.1.failed⟩:aa))]⟩],Um,jQ (vs:=[.agg (ae.c (⟨v2.2.Op,v2.2.Name,v2.2.Kids⟩:ae))]) (.cons (.cellF (.agg<|ae.c (⟨v2.2.Op,v2.2.Name,v2.2.Kids⟩:ae)) H9 Z Z) .nil) ⟨Z,Z⟩⟩
  refine go h λf h=>?_;obtain ⟨g3,_⟩:=f;refine jB h λv4 cv4 h=>oA (EvA.call Z Z Z<|(ih (⟨r_.rest,r_.failed⟩:aa) (level-V) aB cv4).one 0 Z (.cons (.hp Z)<|.cons (.pF Z) .nil) (au Z) (au Z) Z)<|go h λ_ h=>?_;refine tU h (λs7=>[(5,.hp 2 0 3 0 0),(4,.hp 1 0 3 0 0),(0,.hp 0 aB 2 0 0),(1,I level)]) (λs7=>[Us ⟨aB,2,136,[[St s7.1,Bo s7.2.1]]⟩,Us ⟨0,3,100,[[I U,St (⟨#[]⟩:BA),.nil]]⟩,Us ⟨0,3,100,[[I s7.2.2.1,St s7.2.2.2.1,eL ZTE.c s7.2.2.2.2]]⟩]) λs7 ws7 h=>?_;let d0:=(⟨s7.2.2.1,s7.2.2.2.1,s7.2.2.2.2⟩:ae);refine go h λ_ h=>?_;refine T.jU h (λs9=>[(6,I s9.2.2),(5,.hp 2 0 3 0 0),(4,.hp 1 0 3 0 0),(0,.hp 0 aB 2 0 0),(1,I level)]) (λs9=>[Us ⟨aB,2,136,[[St s9.1,Bo s9.2.1]]⟩,Us ⟨0,3,100,[[I U,St (⟨#[]⟩:BA),.nil]]⟩,Us ⟨0,3,100,[[I s7.2.2.1,St s7.2.2.2.1,eL ZTE.c s7.2.2.2.2]]⟩]) (λs9 h=>?_) λs9 h=>?_
  ·refine Ul h (λ_ q25 h=>?_) λ_ q25 h=>?_
   ·refine go h λ_ h=>?_;refine lX h λh=>?_;obtain rfl:=TV h
    repeat (first|refine kC ?_|refine kD ?_)
    exact ⟨ak [(4,.fp (ae.c d0) 0)],[Us ⟨aB,2,136,[(aa.c (⟨s9.1,s9.2.1⟩:aa))]⟩],Um,jQ (vs:=[.agg (ae.c d0)]) (.cons (.cellF (.agg<|ae.c d0) H9 Z Z) .nil) ⟨Z,Z⟩⟩
   refine go h λ_ h=>?_;refine jP (dG [dF,([2],Ur),dF,dF,dF,([0],Uq),dF,dF,([2],Uq)]) (by kernel_rfl) (by kernel_rfl)<|go h λ_ h=>?_;refine jB h λv26 cv26 h=>fW 0 [] Z Z (λG hG=>EvA.call Z Z Z<|(ih (⟨s9.1,s9.2.1⟩:aa) (level-V) aB cv26).one 0 (hG.a0 Z) (.cons (.hp Z)<|.cons (.pF Z) .nil) (au Z) (au Z) Z)<|fN Z (TS.res (TS.mkF (c:=ae.c) ([d0,v26.2]:List ae) [[I s7.2.2.1,St s7.2.2.2.1,eL ZTE.c s7.2.2.2.2],(ae.c v26.2)] O3 Z Z Z qD ae.isF Z) (r':=eL ZTE.c ([d0.inn,v26.2.inn]:List ZTE)) λ_ _ hr=>IU ae.inn_c hr) ?_;refine go h λ_ h=>?_;exact lE h Um
  refine go h λ_ h=>?_;refine oN (TS.mkF (c:=cI) ([(2:Int),(3:Int),(4:Int),(5:Int)]:LI) [[I (2:Int)],[I (3:Int)],[I (4:Int)],[I (5:Int)]] lK Z Z Z qD qD Z)<|go h λ_ h=>?_;refine tU h (λs12=>[(22,I s12.2.2.1),(21,I (([(2:Int),(3:Int),(4:Int),(5:Int)]:LI).length:Int)),(20,eL cI ([(2:Int),(3:Int),(4:Int),(5:Int)]:LI)),(6,I s12.2.2.2),(5,.hp 2 0 3 0 0),(4,.hp 1 0 3 0 0),(0,.hp 0 aB 2 0 0),(1,I level)]) (λs12=>[Us ⟨aB,2,136,[[St s12.1,Bo s12.2.1]]⟩,Us ⟨0,3,100,[[I U,St (⟨#[]⟩:BA),.nil]]⟩,Us ⟨0,3,100,[[I s7.2.2.1,St s7.2.2.2.1,eL ZTE.c s7.2.2.2.2]]⟩]) λs12 ws12 h=>?_;refine go h λ_ h=>?_;refine jH ?_;refine jN Z h (λq14 h=>?_) λq14 h=>?_
  ·refine go h λ_ h=>?_;refine T.jU h (λs15=>[(6,I s15.2.2),(22,I s12.2.2.1),(21,I (([(2:Int),(3:Int),(4:Int),(5:Int)]:LI).length:Int)),(20,eL cI ([(2:Int),(3:Int),(4:Int),(5:Int)]:LI)),(5,.hp 2 0 3 0 0),(4,.hp 1 0 3 0 0),(0,.hp 0 aB 2 0 0),(1,I level)]) (λs15=>[Us ⟨aB,2,136,[[St s15.1,Bo s15.2.1]]⟩,Us ⟨0,3,100,[[I U,St (⟨#[]⟩:BA),.nil]]⟩,Us ⟨0,3,100,[[I s7.2.2.1,St s7.2.2.2.1,eL ZTE.c s7.2.2.2.2]]⟩]) (λs15 h=>?_) λs15 h=>?_
   ·refine go h λ_ h=>?_;exact lE h Um
   refine go h λ_ h=>?_;refine oC h (λ_=>p9 _) Z Z Z Z λv17 _ h=>(go h λ_ h=>?_);refine TO.jB h 4 (λs18=>[(38,Bo s18),(10,St v17.2.1),(8,I<|J ([(2:Int),(3:Int),(4:Int),(5:Int)]:LI) s12.2.2.1),(22,I s12.2.2.1),(21,I (([(2:Int),(3:Int),(4:Int),(5:Int)]:LI).length:Int)),(20,eL cI ([(2:Int),(3:Int),(4:Int),(5:Int)]:LI)),(6,I s12.2.2.2),(5,.hp 2 0 3 0 0),(4,.hp 1 0 3 0 0),(0,.hp 0 aB 2 0 0),(1,I level)]) (λs18=>[Us ⟨aB,2,136,[[St s12.1,Bo s12.2.1]]⟩,Us ⟨0,3,100,[[I U,St (⟨#[]⟩:BA),.nil]]⟩,Us ⟨0,3,100,[[I s7.2.2.1,St s7.2.2.2.1,eL ZTE.c s7.2.2.2.2]]⟩]) (λs18 q19 h js18=>?_) (λs18 q19 h js18=>?_) λs18 h=>?_
   ·exact gj h js18
   ·exact gj h js18
   refine go h λ_ h=>?_;rcases CN h with ⟨q20,h⟩ | ⟨q20,h⟩
   ·refine go h λ_ h=>?_;refine jB h λv22 cv22 h=>gA Z q20 (EvA.call Z Z Z<|(db (⟨s12.1,s12.2.1⟩:aa) ((v17.2.1.data.getD U.toNat 0).toNat:Int) aB cv22).one 0 Z (.cons (.hp Z)<|.cons (.pF Z) .nil) (au Z) (au Z) Z)<|gp h λ_ h=>?_;refine gi h (λ_ q23 h=>?_) λ_ q23 h=>?_
    ·refine go h λ_ h=>?_
     cases h
     exact ⟨(),trivial,Um⟩
    refine go h λ_ h=>?_
    cases h
    exact ⟨(),trivial,Um⟩
   refine gp h λ_ h=>?_;refine go h λ_ h=>?_;refine T.cond Z (λq=>absurd (q.symm.trans Z)<|by decide) λ_=>?_;refine go h λ_ h=>?_
   cases h
   exact ⟨(),trivial,Um⟩
  refine jM<|lX h λh=>?_
  cases h
  exact ⟨(),trivial,Um⟩
theorem vX (r_:aa) (level:Int) (aB:Nat) {q} (h:jZ r_ level=Us q):fu Uv 96 [.hp 0 aB 2 0 0,I level] [Us ⟨aB,2,136,[(aa.c r_)]⟩] (.agg<|ae.c q.2) [Us ⟨aB,2,136,[[St q.1.rest,Bo q.1.failed]]⟩]:=by
 obtain ⟨nf,h⟩:=qP h;exact vg nf r_ level aB h
theorem oZ (s:List BA) (v:BA) {q} (h:bZ s v=Us q):ax Uv 182 [eL cS s,St v] (Bo q):=by
 refine pM func182 Z (by kernel_rfl) Z<|go h λ_ h=>?_;refine oC h (λ_=>iZ _ _) Z Z Z Z λv1 _ h=>?_;exact gz h
theorem Bj (name:BA) {q} (h:mo name=Us q):ax Uv 148 [St name] (Bo q):=by
 refine pM func148 Z (by kernel_rfl) Z<|go h λ_ h=>?_;refine oN (TS.slG (c:=cS) He Tryz.underlying226 ty9 Z Z Z Oh)<|go h λ_ h=>?_;refine oC h (λ_=>oZ _ _) Z Z Z Z λv1 _ h=>?_;exact gz h
theorem Cr:∀ (nf:Nat) (e_:ae) (most:Int) {q} (h:jv nf e_ most=Us q),ax Uv 112 [.agg (ae.c e_),I most] (I q):=by
 intro nf
 induction nf with
 | zero=>intros;rename_i h;cases h
 | succ nf ih=>
  intro e_ most q h;replace h:mq (jv nf) e_ most=Us q:=h;refine pM func112 Z (by kernel_rfl) Z<|go h λ_ h=>?_;refine eF Z Z Z<|go h λ_ h=>?_;refine oC h (λ_=>p9 _) Z Z Z Z λv1 _ h=>(go h λ_ h=>?_);obtain ⟨Ks2,es2,ws2,h,ks2⟩:=sumL h;refine T.join (S:=Unit) (G:=Unit) (λs2=>Ks2 s2=Us q) (λs2 gh=>True) (λs2 gh=>[(2,.fp (ae.c e_) 0),(1,I most)]) (λs2 gh=>[]) (λs2 gh h hg=>?_) ?_
  ·clear ks2;subst es2;refine go h λ_ h=>?_;refine T.jU h (λs10=>[(8,I s10)]) (λs10=>[]) (λs10 h=>?_) λs10 h=>?_
   ·exact gz h
   refine go h λ_ h=>?_;refine tU h (λs13=>[(49,I s13.1),(48,I (e_.Kids.length:Int)),(47,eL ZTE.c e_.Kids),(8,I s13.2),(1,I most)]) (λs13=>[]) λs13 ws13 h=>?_;refine go h λ_ h=>?_;refine jH ?_;refine jN Z h (λq15 h=>?_) λq15 h=>?_
   ·refine go h λ_ h=>?_;refine gs h λ_ h=>?_;refine jD h λg16 h=>oN (TS.res (TS.ixL O3 Z Z g16 ZTE.len) (r' := .fp (ae.c (J e_.Kids s13.1).out) 0) λ_ _ hr=>BF (ZTE.out_c _) hr)<|go h λ_ h=>?_;refine oC h (λ_=>ih _ _) Z Z Z Z λv18 _ h=>?_;refine gi h (λ_ q20 h=>?_) λ_ q20 h=>?_
    ·refine jM<|lX h λh=>?_
     cases h
     exact ⟨(),trivial,rI Z .nil<|ai (.fz<|qC Z) aY⟩
    refine go h λ_ h=>?_;exact lE h<|rI Z .nil<|ai (.fz<|qC Z)<|ai (.fz<|qC Z)<|ai (.fz<|qC Z)<|ai (.fz<|qC Z)<|ai (.fz<|qC Z) aY
   refine jM<|lX h λh=>?_
   cases h
   exact ⟨(),trivial,Um⟩
  refine T.jU h (λs3=>[(45,Bo s3),(2,.fp (ae.c e_) 0),(1,I most)]) (λs3=>[]) (λs3 h=>?_) λs3 h=>?_
  ·refine jN Z h (λq9 h=>?_) λq9 h=>?_
   ·refine go h λ_ h=>?_;obtain rfl:=TV h;replace h:=congrArg Us (show _=_ from ks2);exact gz h
   refine go h λ_ h=>?_
   cases h
   exact ⟨(),(),ks2,trivial,Um⟩
  refine T.drawG (λ_=>([],Ur)) (by kernel_rfl) (by kernel_rfl)<|go h λ_ h=>?_;rcases CN h with ⟨q4,h⟩ | ⟨q4,h⟩
  ·refine gp h λ_ h=>?_;refine gp h λ_ h=>?_;refine gp h λ_ h=>?_;refine go h λ_ h=>?_
   cases h
   exact ⟨(),trivial,Um⟩
  refine gp h λ_ h=>?_;refine go h λ_ h=>?_;rcases CN h with ⟨q5,h⟩ | ⟨q5,h⟩
  ·refine gp h λ_ h=>?_;refine gp h λ_ h=>?_;refine go h λ_ h=>?_
   cases h
   exact ⟨(),trivial,Um⟩
  refine go h λ_ h=>?_;refine jB h λv6 cv6 h=>tgN Z q5 Z (TS.call Z Z Z (Bj e_.Name cv6) Z)<|tgN Z q5 Z (TS.bne bt4 Z Z) ?_;refine gp h λ_ h=>?_;refine go h λ_ h=>?_;rcases CN h with ⟨q7,h⟩ | ⟨q7,h⟩
  ·refine gp h λ_ h=>?_;refine go h λ_ h=>?_
   cases h
   exact ⟨(),trivial,Um⟩
  refine go h λ_ h=>?_;rcases CN h with ⟨q8,h⟩ | ⟨q8,h⟩
  ·refine go h λ_ h=>?_;refine tgN Z q7 Z (TS.pickT Z q8 (Bo<|!decide (e_.Name=(⟨#[]⟩:BA))) Z)<|gp h λ_ h=>?_;refine go h λ_ h=>?_
   cases h
   exact ⟨(),trivial,Um⟩
  refine go h λ_ h=>?_;refine tgN Z q7 Z (TS.pickF Z q8 (Bo Ur) Z)<|gp h λ_ h=>?_;refine go h λ_ h=>?_
  cases h
  exact ⟨(),trivial,Um⟩
theorem C8 (e_:ae) (most:Int) {q} (h:uR e_ most=Us q):ax Uv 112 [.agg (ae.c e_),I most] (I q):=by
 obtain ⟨nf,h⟩:=qP h;exact Cr nf e_ most h
theorem qI (e_:ae) {q} (h:fE e_=Us q):ax Uv 73 [.agg (ae.c e_)] (Bo q):=by
 refine pM func73 Z (by kernel_rfl) Z<|go h λ_ h=>?_;refine eF Z Z Z<|go h λ_ h=>?_;refine oC h (λ_=>C8 _ _) Z Z Z Z λv1 _ h=>?_;exact gz h
theorem Cs:∀ (nf:Nat) (e_:ae) (most:Int) {q} (h:jw nf e_ most=Us q),ax Uv 137 [.agg (ae.c e_),I most] (St q):=by
 intro nf
 induction nf with
 | zero=>intros;rename_i h;cases h
 | succ nf ih=>
  intro e_ most q h;replace h:mr (jw nf) e_ most=Us q:=h;refine pM func137 Z (by kernel_rfl) Z<|go h λ_ h=>?_;refine eF Z Z Z<|go h λ_ h=>?_;refine oC h (λ_=>p9 _) Z Z Z Z λv1 _ h=>(go h λ_ h=>?_);refine T.jU h (λs2=>[(8,St s2),(5,I v1.1),(1,I most)]) (λs2=>[]) (λs2 h=>?_) λs2 h=>?_
  ·refine Ul h (λ_ q15 h=>?_) λ_ q15 h=>?_
   ·exact gz h
   exact gz h
  refine gi h (λ_ q3 h=>?_) λ_ q3 h=>?_
  ·refine go h λ_ h=>?_;refine jD h λg4 h=>oN (TS.res (TS.ixL O3 Z Z g4 ZTE.len) (r' := .fp (ae.c (J e_.Kids U).out) 0) λ_ _ hr=>BF (ZTE.out_c _) hr)<|go h λ_ h=>?_;refine oC h (λ_=>ih _ _) Z Z Z Z λv5 _ h=>(go h λ_ h=>?_)
   cases h
   exact ⟨(),trivial,Um⟩
  refine gi h (λ_ q7 h=>?_) λ_ q7 h=>?_
  ·refine T.cl [6,5,2,1] Z<|T.drawP (by kernel_rfl) (by kernel_rfl) ?_;refine go h λ_ h=>?_;refine jD h λg8 h=>fN Z (TS.res (TS.ixL O3 Z Z g8 ZTE.len) (r' := .fp (ae.c (J e_.Kids U).out) 0) λ_ _ hr=>BF (ZTE.out_c _) hr)<|go h λ_ h=>?_;refine fC h (λ_=>ih _ _) Z Z Z Z Z λv9 _ h=>(go h λ_ h=>?_);refine jD h λg11 h=>fN Z (TS.res (TS.ixL O3 Z Z g11 ZTE.len) (r' := .fp (ae.c (J e_.Kids V).out) 0) λ_ _ hr=>BF (ZTE.out_c _) hr)<|go h λ_ h=>?_;refine fC h (λ_=>ih _ _) Z Z Z Z Z λv13 _ h=>(go h λ_ h=>?_)
   cases h
   exact ⟨(),trivial,Um⟩
  refine go h λ_ h=>?_
  cases h
  exact ⟨(),trivial,Um⟩
theorem C9 (e_:ae) (most:Int) {q} (h:uS e_ most=Us q):ax Uv 137 [.agg (ae.c e_),I most] (St q):=by
 obtain ⟨nf,h⟩:=qP h;exact Cs nf e_ most h
theorem pE (e_:ae) {q} (h:eu e_=Us q):ax Uv 97 [.agg (ae.c e_)] (St q):=by
 refine pM func97 Z (by kernel_rfl) Z<|go h λ_ h=>?_;refine eF Z Z Z<|go h λ_ h=>?_;refine gs h λ_ h=>?_;refine oC h (λ_=>qI _) Z Z Z Z λv1 _ h=>?_;refine gi h (λ_ q2 h=>?_) λ_ q2 h=>?_
 ·exact gz h
 refine go h λ_ h=>?_;refine oC h (λ_=>C9 _ _) Z Z Z Z λv3 _ h=>?_;exact gz h
theorem yu (text:BA) {q} (h:jf text=Us q):ax Uv 58 [St text] (.tup [.agg (ae.c q.1),Bo q.2]):=by
 refine pM func58 Z (by kernel_rfl) Z<|go h λ_ h=>?_;refine Ul h (λ_ q1 h=>?_) λ_ q1 h=>?_
 ·exact gf h
 refine go h λ_ h=>?_;refine eB Z Z<|go h λ_ h=>?_;refine jB h λv2 cv2 h=>oA (EvA.call Z Z Z<|(vX (⟨text,Ur⟩:aa) (3:Int) 0 cv2).one 1 Z (.cons (.hp Z)<|.cons (.pF Z) .nil) (au Z) (au Z) Z)<|go h λ_ h=>?_;refine gs h λ_ h=>?_;refine TO.jB h 6 (λs3=>[(25,Bo s3),(5,.hp 2 0 3 0 0),(2,.hp 0 0 3 0 0),(0,St text)]) (λs3=>[Us ⟨0,3,100,[[I U,St (⟨#[]⟩:BA),.nil]]⟩,Us ⟨0,2,136,[(aa.c v2.1)]⟩,Us ⟨0,3,100,[(ae.c v2.2)]⟩]) (λs3 q4 h js3=>?_) (λs3 q4 h js3=>?_) λs3 h=>?_
 ·exact gj h js3
 ·refine go h λ_ h=>?_;refine gA Z q4 (lh (St v2.1.rest) ty9 Z Z Z) ?_;exact gj h js3
 refine go h λ_ h=>?_;refine TO.jB h 3 (λs5=>[(29,Bo s5),(5,.hp 2 0 3 0 0),(2,.hp 0 0 3 0 0),(0,St text)]) (λs5=>[Us ⟨0,3,100,[[I U,St (⟨#[]⟩:BA),.nil]]⟩,Us ⟨0,2,136,[(aa.c v2.1)]⟩,Us ⟨0,3,100,[(ae.c v2.2)]⟩]) (λs5 q6 h js5=>?_) (λs5 q6 h js5=>?_) λs5 h=>?_
 ·exact gj h js5
 ·exact gj h js5
 refine go h λ_ h=>?_;refine TO.jB h 5 (λs7=>[(35,Bo s7),(5,.hp 2 0 3 0 0),(2,.hp 0 0 3 0 0)]) (λs7=>[Us ⟨0,3,100,[[I U,St (⟨#[]⟩:BA),.nil]]⟩,Us ⟨0,2,136,[(aa.c v2.1)]⟩,Us ⟨0,3,100,[(ae.c v2.2)]⟩]) (λs7 q8 h js7=>?_) (λs7 q8 h js7=>?_) λs7 h=>?_
 ·exact gj h js7
 ·refine gA Z q8 (lh (.agg<|ae.c v2.2) H9 Z Z Z)<|jB h λv9 cv9 h=>gN Z q8 (TS.call Z Z Z (pE (⟨v2.2.Op,v2.2.Name,v2.2.Kids⟩:ae) cv9) Z) ?_;exact gj h js7
 refine gi h (λ_ q10 h=>?_) λ_ q10 h=>?_
 ·exact gf h
 exact gf h
theorem yw (x:Int) (low:Int) (high:Int) {q} (h:nY x low high=Us q):ax Uv 37 [I x,I low,I high] (Bo q):=by
 refine pM func37 Z (by kernel_rfl) Z<|go h λ_ h=>?_;refine TO.jB h 4 (λs1=>[(14,Bo s1)]) (λs1=>[]) (λs1 q2 h js1=>?_) (λs1 q2 h js1=>?_) λs1 h=>?_
 ·exact gj h js1
 ·exact gj h js1
 exact gz h
theorem yx (r_:aj) {q} (h:jg r_=Us q):ax Uv 72 [.agg (aj.c r_)] (Bo q):=by
 refine pM func72 Z (by kernel_rfl) Z<|go h λ_ h=>?_;refine eF Z Z Z<|go h λ_ h=>?_;refine oC h (λ_=>yw _ _ _) Z Z Z Z λv1 _ h=>(go h λ_ h=>?_);refine TO.jB h 5 (λs2=>[(12,Bo s2)]) (λs2=>[]) (λs2 q3 h js2=>?_) (λs2 q3 h js2=>?_) λs2 h=>?_
 ·exact gj h js2
 ·refine go h λ_ h=>?_;refine jB h λv4 cv4 h=>gN Z q3 (TS.call Z Z Z (qI r_.Expr cv4) Z) ?_;exact gj h js2
 exact gz h
theorem dM (s:List aj) {q} (h:aF s=Us q):ax Uv 111 [eL aj.c s,.fn (.func 72) []] (I q):=by
 refine pM func111 Z (by kernel_rfl) Z<|go h λ_ h=>?_;obtain ⟨Ks1,es1,ws1,h,ks1⟩:=sumL h;refine T.join (S:=Unit) (G:=Unit) (λs1=>Ks1 s1=Us q) (λs1 gh=>True) (λs1 gh=>[]) (λs1 gh=>[]) (λs1 gh h hg=>?_) ?_
 ·clear ks1;subst es1;exact gz h
 refine go h λ_ h=>?_;refine tU h (λs4=>[(8,I s4),(7,I (s.length:Int)),(0,eL aj.c s),(1,.fn (.func 72) [])]) (λs4=>[]) λs4 ws4 h=>?_;refine go h λ_ h=>?_;refine jH ?_;refine jN Z h (λq6 h=>?_) λq6 h=>?_
 ·refine go h λ_ h=>?_;refine gs h λ_ h=>?_;refine oC h (λ_=>yx _) Z Z Z Z λv8 _ h=>?_;refine gi h (λ_ q9 h=>?_) λ_ q9 h=>?_
  ·refine go h λ_ h=>?_;refine lX h λh=>?_;obtain rfl:=TV h;replace h:=congrArg Us (show _=_ from ks1);exact gz h
  refine go h λ_ h=>?_;exact lE h Um
 refine jM<|lX h λh=>?_
 cases h
 exact ⟨(),(),ks1,trivial,Um⟩
theorem dh (s:List aj) {q} (h:az s=Us q):ax Uv 71 [eL aj.c s,.fn (.func 72) []] (Bo q):=by
 refine pM func71 Z (by kernel_rfl) Z<|go h λ_ h=>?_;refine oC h (λ_=>dM _) Z Z Z Z λv1 _ h=>?_;exact gz h
theorem tZ (m:List aj) {q} (h:fg m=Us q):ax Uv 27 [eL aj.c m] (Bo q):=by
 refine pM func27 Z (by kernel_rfl) Z<|go h λ_ h=>?_;refine oC h (λ_=>yw _ _ _) Z Z Z Z λv1 _ h=>(go h λ_ h=>?_);refine TO.jB h 4 (λs2=>[(10,Bo s2)]) (λs2=>[]) (λs2 q3 h js2=>?_) (λs2 q3 h js2=>?_) λs2 h=>?_
 ·refine go h λ_ h=>?_;refine jB h λv4 cv4 h=>gN Z q3 (TS.call Z Z Z (dh m cv4) Z) ?_;exact gj h js2
 ·exact gj h js2
 exact gz h
theorem Da (elems:List BA) (sep:BA) {q} (h:qd elems sep=Us q):ax Uv 98 [eL cS elems,St sep] (St q):=by
 refine pM func98 Z (by kernel_rfl) Z<|go h λ_ h=>?_;refine Ul h (λ_ q1 h=>?_) λ_ q1 h=>?_
 ·exact gz h
 refine gi h (λ_ q2 h=>?_) λ_ q2 h=>?_
 ·exact gz h
 cases h
theorem ze (m:List aj) {q} (h:ky m=Us q):ax Uv 59 [eL aj.c m] (St q):=by
 refine pM func59 Z (by kernel_rfl) Z<|go h λ_ h=>?_;refine gs h λ_ h=>?_;refine oC h (λ_=>tZ _) Z Z Z Z λv1 _ h=>?_;refine gi h (λ_ q2 h=>?_) λ_ q2 h=>?_
 ·exact gz h
 refine go h λ_ h=>?_;refine jD h λg3 h=>oA (EvA.mkN (c:=cS) (Uo:BA) R4 Z Z g3 Z Z Z)<|go h λ_ h=>?_;refine tJ h (λs4 gh=>[(3,hS Ur 0 gh 1 s4.length)]) (λs4 gh=>[bE Ur gh 1 9 (s4.map cS)]) (λs4 u19 h=>?_) λs4 h=>?_
 ·refine go h λ_ h=>?_;refine jB h λv20 cv20 h=>oA (EvA.callT Z Z (Da s4 (⟨#[47]⟩:BA) cv20) (.cons (Fz.own (g:=false) (ver:=u19) (l:=s4) Z Z Z nofun qD)<|.cons (qC Z) .nil) Z) ?_;exact gz h
 refine go h λ_ h=>?_;refine tT h 0 (λs8 gh=>[(14,I s8.2),(13,I (m.length:Int)),(12,eL aj.c m),(3,hS Ur 0 gh 1 s8.1.length)]) (λs8 gh=>[bE Ur gh 1 9 (s8.1.map cS)]) λs8 u10 ws8 h=>?_;let d0:=(J m s8.2).Kind;refine go h λ_ h=>?_;refine jH ?_;refine jN Z h (λq11 h=>?_) λq11 h=>?_
 ·refine go h λ_ h=>?_;refine gs h λ_ h=>?_;refine jP (dG [dF,dF,dF,([1],Ur),dF,dF,dF,dF,([1],Ur),dF,dF,dF,([0],Uq)]) (by kernel_rfl) (by kernel_rfl)<|go h λ_ h=>?_;refine jD h λg13 h=>fN Z (TS.ixafp Tryz.underlying97 ty9 Z Z g13)<|fN Z (TS.ldG (c:=cS) (l:=ER) (St<|J ER d0) ty9 Z Qf (aG (l:=ER) Z g13) Z Z) ?_;refine go h λ_ h=>?_;refine fC h (λ_=>pE _) Z Z Z Z Z λv15 _ h=>(go h λf h=>?_);obtain ⟨g17,_⟩:=f;refine fV 0 [] Z Z (λG hG=>EvA.stO (g:=false) (l:=s8.1) (cs:=[St (((J ER d0)++(⟨#[32]⟩:BA))++v15)]) (((J ER d0)++(⟨#[32]⟩:BA))++v15) ty9 Z Z (hG.a0 Z) nofun (aG Z g17) Z Z Z)<|go h λ_ h=>?_;obtain rfl:=TV h;exact ⟨((s8.1.set s8.2.toNat<|((J ER d0)++(⟨#[32]⟩:BA))++v15),(s8.2+(1:Int))),u10,Z,trivial,rI Z (.cons (.list (g:=false) (ver:=u10) (l:=(s8.1.set s8.2.toNat<|((J ER d0)++(⟨#[32]⟩:BA))++v15)) qD) .nil)<|ai (.fz<|qC Z)<|ai (.fz<|qC Z)<|ai (.fz<|qC Z)<|ai (.eqv (congrArg (hS Ur 0 u10 1) (by simp:s8.1.length=(s8.1.set s8.2.toNat<|((J ER d0)++(⟨#[32]⟩:BA))++v15).length))<|.hS (g:=false) (b:=0) (ver:=u10) (s:=1) (n:=(s8.1.set s8.2.toNat<|((J ER d0)++(⟨#[32]⟩:BA))++v15).length) Z) aY⟩
 refine jM<|lX h λh=>?_
 cases h
 exact ⟨u10,trivial,Um⟩
theorem zS (text:BA) {q} (h:li text=Us q):ax Uv 20 [St text] (.tup [eL aj.c q.1,Bo q.2]):=by
 refine pM func20 Z (by kernel_rfl) Z<|jI ?_;refine gq h λ_ h=>?_;refine jH<|T.reserve ?_;refine go h λ_ h=>?_;obtain ⟨Ks1,es1,ws1,h,ks1⟩:=sumL h;refine T.join (S:=(List aj)) (G:=(Bool×Nat)) (λs1=>Ks1 s1=Us q) (λs1 gh=>(gh.1=Uq->s1=[])) (λs1 gh=>[(4,hS gh.1 0 gh.2 4 s1.length),(0,St text)]) (λs1 gh=>[bE gh.1 gh.2 4 104 (s1.map aj.c)]) (λs1 gh h n25=>?_) ?_
 ·clear ks1;subst es1;obtain ⟨b24,u23⟩:=gh;refine gs h λ_ h=>?_;refine jB h λv26 cv26 h=>oA (EvA.callT Z Z (ze s1 cv26) (.cons (Fz.own (g:=b24) (ver:=u23) (l:=s1) Z Z Z n25 aj.isF) .nil) Z) ?_;refine gi h (λ_ q27 h=>?_) λ_ q27 h=>?_
  ·exact gf h
  exact gf h
 refine go h λ_ h=>?_;refine oC h (λ_=>Cq _ _) Z Z Z Z λv2 _ h=>(go h λ_ h=>?_);refine tL h (Uq,0) (λs8 gh=>(gh.1=Uq->s8.1=[])) (λs8 gh=>[(16,I s8.2),(15,I (v2.length:Int)),(14,eL cS v2),(4,hS gh.1 0 gh.2 4 s8.1.length),(0,St text)]) (λs8 gh=>[bE gh.1 gh.2 4 104 (s8.1.map aj.c)]) qD λs8 gh ws8 h n12=>?_;obtain ⟨b11,u10⟩:=gh;refine go h λ_ h=>?_;refine jH ?_;refine jN Z h (λq13 h=>?_) λq13 h=>?_
 ·refine go h λ_ h=>?_;refine gs h λ_ h=>?_;refine oC h (λ_=>EH _ _) Z Z Z Z λv15 _ h=>(go h λ_ h=>?_);refine oN (TS.slG (c:=cS) ER Tryz.underlying97 ty9 Z Z Z Og)<|go h λ_ h=>?_;refine oC h (λ_=>iZ _ _) Z Z Z Z λv16 _ h=>(go h λ_ h=>?_);refine oC h (λ_=>yu _) Z Z Z Z λv17 _ h=>(go h λ_ h=>?_);refine gs h λ_ h=>?_;refine TO.jB h 3 (λs18=>[(39,Bo s18),(11,.hp 1 0 3 0 0),(10,I v16),(16,I s8.2),(15,I (v2.length:Int)),(14,eL cS v2),(4,hS b11 0 u10 4 s8.1.length),(0,St text)]) (λs18=>[bE b11 u10 4 104 (s8.1.map aj.c),Us ⟨0,3,100,[[I v17.1.Op,St v17.1.Name,eL ZTE.c v17.1.Kids]]⟩]) (λs18 q19 h js18=>?_) (λs18 q19 h js18=>?_) λs18 h=>?_
  ·exact gj h js18
  ·exact gj h js18
  refine gi h (λ_ q20 h=>?_) λ_ q20 h=>?_
  ·refine go h λ_ h=>?_;refine lX h λh=>?_;obtain rfl:=TV h;replace h:=congrArg Us (show _=_ from ks1);exact gf h
  refine go h λ_ h=>?_;refine oN (TS.mkF (c:=aj.c) ([(⟨v16,(⟨v17.1.Op,v17.1.Name,v17.1.Kids⟩:ae)⟩:aj)]:List aj) [[I v16,I v17.1.Op,St v17.1.Name,eL ZTE.c v17.1.Kids]] TH Z Z Z qD aj.isF Z)<|go h λ_ h=>?_;obtain rfl:=TV h;exact ⟨((s8.1++[(⟨v16,(⟨v17.1.Op,v17.1.Name,v17.1.Kids⟩:ae)⟩:aj)]),(s8.2+V)),(Ur,u10+1),Z,nofun,Um⟩
 refine jM<|lX h λh=>?_;obtain rfl:=TV h;exact ⟨s8.1,(b11,u10),ks1,n12,Um⟩
theorem Db (name:BA) {q} (h:lV name=Us q):ax Uv 6 [St name] (.tup [eL aj.c q.1,Bo q.2]):=by
 refine pM func6 Z (by kernel_rfl) Z<|go h λ_ h=>?_;refine oC h (λ_=>Bi _) Z Z Z Z λv1 _ h=>oC h (λ_=>zS _) Z Z Z Z λv2 _ h=>?_;exact gf h
theorem vY (v:aD) (t:Int) (index:Int) (reg:Int) (aB:Nat) (iW:Nat) (nC:Nat) (gw1:Bool) (hgw1:gw1=Uq->v.values=[]) {q} (h:fJ v t index reg=Us q):bH Uv 149 [.hp 0 aB 6 0 0,I t,I index,I reg] [Us ⟨aB,6,153,[[eL (cL TW.c) v.p,eL cI v.x.From,eL (cL cI) v.x.Order,eL TZ.c v.events,hS gw1 1 iW 1 v.values.length,hS Ur 2 nC 1 v.busy.length]]⟩,bE gw1 iW 1 3 (v.values.map cI),bE Ur nC 1 4 (v.busy.map cB)] (Pj (I q.2) λver=>[Us ⟨aB,6,153,[[eL (cL TW.c) q.1.p,eL cI q.1.x.From,eL (cL cI) q.1.x.Order,eL TZ.c q.1.events,hS gw1 1 iW 1 v.values.length,hS Ur 2 nC 1 q.1.busy.length]]⟩,bE gw1 iW 1 3 (v.values.map cI),bE Ur nC 1 4 (q.1.busy.map cB)]):=by
 refine bH.mkS func149 Z (by kernel_rfl) Z (by kernel_rfl) (e0:=ak [(0,.hp 0 aB 6 0 0),(1,I t),(2,I index),(3,I reg)]) (TR Z<|TR Z<|TR Z<|TR Z TQ)<|go h λ_ h=>?_;refine T.jU h (λs1=>[(9,I s1)]) (λs1=>[Us ⟨aB,6,153,[[eL (cL TW.c) v.p,eL cI v.x.From,eL (cL cI) v.x.Order,eL TZ.c v.events,hS gw1 1 iW 1 v.values.length,hS Ur 2 nC 1 v.busy.length]]⟩,bE gw1 iW 1 3 (v.values.map cI),bE Ur nC 1 4 (v.busy.map cB)]) (λs1 h=>?_) λs1 h=>?_
 ·refine go h λ_ h=>?_;obtain rfl:=TV h
  repeat (first|refine kC ?_|refine kD ?_)
  exact ⟨ak [(8,I s1)],[Us ⟨aB,6,153,[[eL (cL TW.c) v.p,eL cI v.x.From,eL (cL cI) v.x.Order,eL TZ.c v.events,hS gw1 1 iW 1 v.values.length,hS Ur 2 nC 1 v.busy.length]]⟩,bE gw1 iW 1 3 (v.values.map cI),bE Ur nC 1 4 (v.busy.map cB)],Um,jQ (vs:=[I s1]) (.cons (.tmp Z) .nil) ⟨0,Z,Z⟩⟩
 refine go h λ_ h=>?_;refine tU h (λs4=>[(17,I s4.1),(16,I (v.events.length:Int)),(15,eL TZ.c v.events),(9,I s4.2),(0,.hp 0 aB 6 0 0),(1,I t),(2,I index),(3,I reg)]) (λs4=>[Us ⟨aB,6,153,[[eL (cL TW.c) v.p,eL cI v.x.From,eL (cL cI) v.x.Order,eL TZ.c v.events,hS gw1 1 iW 1 v.values.length,hS Ur 2 nC 1 v.busy.length]]⟩,bE gw1 iW 1 3 (v.values.map cI),bE Ur nC 1 4 (v.busy.map cB)]) λs4 ws4 h=>?_;refine go h λ_ h=>?_;refine jH ?_;refine jN Z h (λq6 h=>?_) λq6 h=>?_
 ·refine go h λ_ h=>?_;refine T.jU h (λs7=>[(9,I s7),(17,I s4.1),(16,I (v.events.length:Int)),(15,eL TZ.c v.events),(0,.hp 0 aB 6 0 0),(1,I t),(2,I index),(3,I reg)]) (λs7=>[Us ⟨aB,6,153,[[eL (cL TW.c) v.p,eL cI v.x.From,eL (cL cI) v.x.Order,eL TZ.c v.events,hS gw1 1 iW 1 v.values.length,hS Ur 2 nC 1 v.busy.length]]⟩,bE gw1 iW 1 3 (v.values.map cI),bE Ur nC 1 4 (v.busy.map cB)]) (λs7 h=>?_) λs7 h=>?_
  ·refine go h λ_ h=>?_;exact lE h Um
  refine go h λ_ h=>?_;refine T.jU h (λs9=>[(51,Bo s9),(10,I s4.1),(17,I s4.1),(16,I (v.events.length:Int)),(15,eL TZ.c v.events),(9,I s4.2),(0,.hp 0 aB 6 0 0),(1,I t),(2,I index),(3,I reg)]) (λs9=>[Us ⟨aB,6,153,[[eL (cL TW.c) v.p,eL cI v.x.From,eL (cL cI) v.x.Order,eL TZ.c v.events,hS gw1 1 iW 1 v.values.length,hS Ur 2 nC 1 v.busy.length]]⟩,bE gw1 iW 1 3 (v.values.map cI),bE Ur nC 1 4 (v.busy.map cB),Us ⟨0,5,75,[(TZ.c<|J v.events s4.1)]⟩]) (λs9 h=>?_) λs9 h=>?_
  ·refine jN Z h (λq15 h=>?_) λq15 h=>?_
   ·refine go h λ_ h=>?_
    cases h
    exact ⟨(),trivial,rI Z (.cons (.row<|.cons (.fz<|qC Z)<|.cons (.fz<|qC Z)<|.cons (.fz<|qC Z)<|.cons (.fz<|qC Z)<|.cons (.hS (g:=gw1) (b:=1) (ver:=iW) (s:=1) (n:=v.values.length) Z)<|.cons (.hS (g:=false) (b:=2) (ver:=nC) (s:=1) (n:=v.busy.length) Z) .nil)<|.cons (.list (g:=gw1) (ver:=iW) (l:=v.values) qD)<|.cons (.list (g:=false) (ver:=nC) (l:=v.busy) qD) .nil)<|ai (.fz<|qC Z)<|ai (.fz<|qC Z)<|ai (.fz<|qC Z)<|ai (.fz<|qC Z)<|ai (.hp<|nlb Z)<|ai (.fz<|qC Z)<|ai (.fz<|qC Z)<|ai (.fz<|qC Z) aY⟩
   refine go h λ_ h=>?_
   cases h
   exact ⟨(),trivial,rI Z (.cons (.row<|.cons (.fz<|qC Z)<|.cons (.fz<|qC Z)<|.cons (.fz<|qC Z)<|.cons (.fz<|qC Z)<|.cons (.hS (g:=gw1) (b:=1) (ver:=iW) (s:=1) (n:=v.values.length) Z)<|.cons (.hS (g:=false) (b:=2) (ver:=nC) (s:=1) (n:=v.busy.length) Z) .nil)<|.cons (.list (g:=gw1) (ver:=iW) (l:=v.values) qD)<|.cons (.list (g:=false) (ver:=nC) (l:=v.busy) qD) .nil)<|ai (.fz<|qC Z)<|ai (.fz<|qC Z)<|ai (.fz<|qC Z)<|ai (.fz<|qC Z)<|ai (.hp<|nlb Z)<|ai (.fz<|qC Z)<|ai (.fz<|qC Z)<|ai (.fz<|qC Z) aY⟩
  refine T.drawG (dG [dF,([3],Ur),dF,dF,dF,dF,([3],Ur),dF,dF,dF,dF,dF,([3],Ur),dF,dF,dF,dF,dF,([0],Ur),dF,dF,dF,dF,([3],Ur),dF,dF,dF,dF,dF,dF]) (by kernel_rfl) (by kernel_rfl)<|go h λ_ h=>?_;rcases CN h with ⟨q10,h⟩ | ⟨q10,h⟩
  ·refine go h λ_ h=>?_;refine tgR Z q10 [3] Z (λG hG=>EvA.loadhp (I<|(J v.events s4.1).Index) Uk Z (hG.a0 Z) Z Z Z Z)<|gp h λ_ h=>?_;refine go h λ_ h=>?_;rcases CN h with ⟨q11,h⟩ | ⟨q11,h⟩
   ·refine go h λ_ h=>?_;refine tgR Z q11 [3] Z (λG hG=>EvA.loadhp (Bo<|(J v.events s4.1).Reads) ty4 Z (hG.a0 Z) Z Z Z Z)<|gp h λ_ h=>?_;refine go h λ_ h=>?_;rcases CN h with ⟨q12,h⟩ | ⟨q12,h⟩
    ·refine go h λ_ h=>?_;refine tgR Z q12 [0] Z (λG hG=>EvA.loadhp (eL (cL TW.c) v.p) SR Z (hG.a0 Z) Z Z Z Z)<|go h λ_ h=>?_;refine tgR Z q12 [3] Z (λG hG=>EvA.loadhp (I<|(J v.events s4.1).Index) Uk Z (hG.a0 Z) Z Z Z Z)<|gp h λ_ h=>?_;refine go h λ_ h=>?_
     cases h
     exact ⟨(),trivial,Um⟩
    refine gp h λ_ h=>?_;refine go h λ_ h=>?_
    cases h
    exact ⟨(),trivial,Um⟩
   refine gp h λ_ h=>?_;refine gp h λ_ h=>?_;refine go h λ_ h=>?_
   cases h
   exact ⟨(),trivial,Um⟩
  refine gp h λ_ h=>?_;refine gp h λ_ h=>?_;refine gp h λ_ h=>?_;refine go h λ_ h=>?_
  cases h
  exact ⟨(),trivial,Um⟩
 refine jM<|lX h λh=>?_
 cases h
 exact ⟨(),trivial,Um⟩
theorem xC:∀ (nf:Nat) (v:aD) (i:Int) (aB:Nat) (iW:Nat) (nC:Nat) (gw1:Bool) (hgw1:gw1=Uq->v.values=[]) {q} (h:bU nf v i=Us q),bH Uv 113 [.hp 0 aB 6 0 0,I i] [Us ⟨aB,6,153,[[eL (cL TW.c) v.p,eL cI v.x.From,eL (cL cI) v.x.Order,eL TZ.c v.events,hS gw1 1 iW 1 v.values.length,hS Ur 2 nC 1 v.busy.length]]⟩,bE gw1 iW 1 3 (v.values.map cI),bE Ur nC 1 4 (v.busy.map cB)] (Pj (.tup [I q.2.1,Bo q.2.2]) λver=>[Us ⟨aB,6,153,[[eL (cL TW.c) q.1.p,eL cI q.1.x.From,eL (cL cI) q.1.x.Order,eL TZ.c q.1.events,hS gw1 1 iW 1 v.values.length,hS Ur 2 nC 1 q.1.busy.length]]⟩,bE gw1 iW 1 3 (v.values.map cI),bE Ur nC 1 4 (q.1.busy.map cB)]):=by
 intro nf
 induction nf with
 | zero=>intros;rename_i h;cases h
 | succ nf ih=>
  intro v i aB iW nC gw1 hgw1 q h;let d0:=v.events.getD i.toNat Uo;replace h:gF (bU nf) v i=Us q:=h;refine bH.mkS func113 Z (by kernel_rfl) Z (by kernel_rfl) (e0:=ak [(0,.hp 0 aB 6 0 0),(1,I i)]) (TR Z<|TR Z TQ)<|go h λ_ h=>?_;refine Ul h (λ_ q2 h=>?_) λ_ q2 h=>?_
  ·refine go h λ_ h=>?_;obtain rfl:=TV h
   repeat (first|refine kC ?_|refine kD ?_)
   exact ⟨ak [(4,I U),(5,Bo Uq)],[Us ⟨aB,6,153,[[eL (cL TW.c) v.p,eL cI v.x.From,eL (cL cI) v.x.Order,eL TZ.c v.events,hS gw1 1 iW 1 v.values.length,hS Ur 2 nC 1 v.busy.length]]⟩,bE gw1 iW 1 3 (v.values.map cI),bE Ur nC 1 4 (v.busy.map cB)],rI Z (.cons (.row<|.cons (.fz<|qC Z)<|.cons (.fz<|qC Z)<|.cons (.fz<|qC Z)<|.cons (.fz<|qC Z)<|.cons (.hS (g:=gw1) (b:=1) (ver:=iW) (s:=1) (n:=v.values.length) Z)<|.cons (.hS (g:=false) (b:=2) (ver:=nC) (s:=1) (n:=v.busy.length) Z) .nil)<|.cons (.list (g:=gw1) (ver:=iW) (l:=v.values) qD)<|.cons (.list (g:=false) (ver:=nC) (l:=v.busy) qD) .nil)<|ai (.fz<|qC Z)<|ai (.fz<|qC Z) aY,jQ (vs:=[I U,Bo Uq]) (.cons (.tmp Z)<|.cons (.tmp Z) .nil) ⟨0,Z,Z⟩⟩
  refine jG<|jH<|T.reserve<|jP (dG [dF,dF,dF,([0],Ur),dF,([3],Ur),dF,dF,dF,([3],Ur),dF,dF,([4],Uq),([4],Uq)]) (by kernel_rfl) (by kernel_rfl) ?_;refine go h λ_ h=>?_;refine fW 4 [] Z Z (λG hG=>EvA.alR 4 PG Z Z<|hG.a0 Z)<|go h λ_ h=>?_;refine Ul h (λ_ q5 h=>?_) λ_ q5 h=>?_
  ·refine go h λ_ h=>?_;obtain rfl:=TV h
   repeat (first|refine kC ?_|refine kD ?_)
   exact ⟨ak [(4,I<|(J (J v.p<|d0.Thread)<|d0.Index).Val),(5,Bo Uq)],[Us ⟨aB,6,153,[[eL (cL TW.c) v.p,eL cI v.x.From,eL (cL cI) v.x.Order,eL TZ.c v.events,hS gw1 1 iW 1 v.values.length,hS Ur 2 nC 1 v.busy.length]]⟩,bE gw1 iW 1 3 (v.values.map cI),bE Ur nC 1 4 (v.busy.map cB)],rI Z (.cons (.row<|.cons (.fz<|qC Z)<|.cons (.fz<|qC Z)<|.cons (.fz<|qC Z)<|.cons (.fz<|qC Z)<|.cons (.hS (g:=gw1) (b:=1) (ver:=iW) (s:=1) (n:=v.values.length) Z)<|.cons (.hS (g:=false) (b:=2) (ver:=nC) (s:=1) (n:=v.busy.length) Z) .nil)<|.cons (.list (g:=gw1) (ver:=iW) (l:=v.values) qD)<|.cons (.list (g:=false) (ver:=nC) (l:=v.busy) qD) .nil)<|ai (.fz<|qC Z)<|ai (.fz<|qC Z) aY,jQ (vs:=[I ((J (J v.p<|d0.Thread)<|d0.Index).Val),Bo Uq]) (.cons (.tmp Z)<|.cons (.tmp Z) .nil) ⟨0,Z,Z⟩⟩
  refine go h λ_ h=>?_;refine Ul h (λ_ q7 h=>?_) λ_ q7 h=>?_
  ·refine go h λ_ h=>?_;obtain rfl:=TV h
   repeat (first|refine kC ?_|refine kD ?_)
   exact ⟨ak [(4,I U),(5,Bo Ur)],[Us ⟨aB,6,153,[[eL (cL TW.c) v.p,eL cI v.x.From,eL (cL cI) v.x.Order,eL TZ.c v.events,hS gw1 1 iW 1 v.values.length,hS Ur 2 nC 1 v.busy.length]]⟩,bE gw1 iW 1 3 (v.values.map cI),bE Ur nC 1 4 (v.busy.map cB)],rI Z (.cons (.row<|.cons (.fz<|qC Z)<|.cons (.fz<|qC Z)<|.cons (.fz<|qC Z)<|.cons (.fz<|qC Z)<|.cons (.hS (g:=gw1) (b:=1) (ver:=iW) (s:=1) (n:=v.values.length) Z)<|.cons (.hS (g:=false) (b:=2) (ver:=nC) (s:=1) (n:=v.busy.length) Z) .nil)<|.cons (.list (g:=gw1) (ver:=iW) (l:=v.values) qD)<|.cons (.list (g:=false) (ver:=nC) (l:=v.busy) qD) .nil)<|ai (.fz<|qC Z)<|ai (.fz<|qC Z) aY,jQ (vs:=[I U,Bo Ur]) (.cons (.tmp Z)<|.cons (.tmp Z) .nil) ⟨0,Z,Z⟩⟩
  refine go h λ_ h=>?_;refine jB h λv8 cv8 h=>?_;refine oW Z Z Z (bH.outAt (vY (⟨v.p,(⟨v.x.From,v.x.Order⟩:TY),v.events,v.values,v.busy⟩:aD) (d0.Thread) (d0.Index) ((J (J v.p<|d0.Thread)<|d0.Index).Reg) aB iW nC gw1 hgw1 cv8) [0,1,2] (by decide) (.cons Z (.rowL<|.cons (ay 9 _ Z)<|.cons (ay 9 _ Z)<|.cons (ay 9 _ Z)<|.cons (ay 9 _ Z)<|.cons (bh Z)<|.cons (bh Z) .nil)<|.bE Z qD<|.cons Z (RenK.bE' qD) .nil) (.cons (.hp Z)<|.cons (ay 9 _ Z)<|.cons (ay 9 _ Z)<|.cons (ay 9 _ Z) .nil) (G:=λv_=>[Us ⟨aB,6,153,[[eL (cL TW.c) v8.1.p,eL cI v8.1.x.From,eL (cL cI) v8.1.x.Order,eL TZ.c v8.1.events,hS gw1 1 iW 1 v.values.length,hS Ur 2 nC 1 v8.1.busy.length]]⟩,bE gw1 iW 1 3 (v.values.map cI),bE Ur nC 1 4 (v8.1.busy.map cB)]) (G':=λv_=>[Us ⟨aB,6,153,[[eL (cL TW.c) v8.1.p,eL cI v8.1.x.From,eL (cL cI) v8.1.x.Order,eL TZ.c v8.1.events,hS gw1 1 iW 1 v.values.length,hS Ur 2 nC 1 v8.1.busy.length]]⟩,bE gw1 iW 1 3 (v.values.map cI),bE Ur nC 1 4 (v8.1.busy.map cB),Us ⟨0,5,75,[(TZ.c d0)]⟩,Us ⟨0,4,65,[(TW.c<|J (J v.p<|d0.Thread)<|d0.Index)]⟩]) 5 Z (λv_ => .some (.rowL<|.cons (ay 9 _ Z)<|.cons (ay 9 _ Z)<|.cons (ay 9 _ Z)<|.cons (ay 9 _ Z)<|.cons (bh<|.inl Z)<|.cons (bh<|.inl Z) .nil)<|.bE qD<|.some (RenK.bE' qD) .nil) qD (r:=I v8.2) (ay 9 _ Z) qD) λu9=>?_;refine go h λ_ h=>?_;refine Ul h (λ_ q10 h=>?_) λ_ q10 h=>?_
  ·refine go h λ_ h=>?_;obtain rfl:=TV h
   repeat (first|refine kC ?_|refine kD ?_)
   exact ⟨ak [(4,I U),(5,Bo Uq)],[Us ⟨aB,6,153,[[eL (cL TW.c) v8.1.p,eL cI v8.1.x.From,eL (cL cI) v8.1.x.Order,eL TZ.c v8.1.events,hS gw1 1 iW 1 v.values.length,hS Ur 2 nC 1 v8.1.busy.length]]⟩,bE gw1 iW 1 3 (v.values.map cI),bE Ur nC 1 4 (v8.1.busy.map cB)],rI Z (.cons (.row<|.cons (.fz<|qC Z)<|.cons (.fz<|qC Z)<|.cons (.fz<|qC Z)<|.cons (.fz<|qC Z)<|.cons (.hS (g:=gw1) (b:=1) (ver:=iW) (s:=1) (n:=v.values.length) Z)<|.cons (.hS (g:=false) (b:=2) (ver:=nC) (s:=1) (n:=v8.1.busy.length) Z) .nil)<|.cons (.list (g:=gw1) (ver:=iW) (l:=v.values) qD)<|.cons (.list (g:=false) (ver:=nC) (l:=v8.1.busy) qD) .nil)<|ai (.fz<|qC Z)<|ai (.fz<|qC Z) aY,jQ (vs:=[I U,Bo Uq]) (.cons (.tmp Z)<|.cons (.tmp Z) .nil) ⟨0,Z,Z⟩⟩
  refine go h λf h=>?_;obtain ⟨g11,_⟩:=f;refine oV (EvA.stO (g:=false) (l:=v8.1.busy) (cs:=[Bo Uq]) Uq ty4 Z Z Z nofun (aG Z g11) Z Z Z)<|go h λ_ h=>?_;refine jB h λv13 cv13 h=>?_;refine oW Z Z Z (bH.outAt (ih (⟨v8.1.p,(⟨v8.1.x.From,v8.1.x.Order⟩:TY),v8.1.events,v.values,(v8.1.busy.set i.toNat Uq)⟩:aD) (J v8.1.x.From v8.2) aB iW nC gw1 hgw1 cv13) [0,1,2] (by decide) (.cons Z (.rowL<|.cons (ay 9 _ Z)<|.cons (ay 9 _ Z)<|.cons (ay 9 _ Z)<|.cons (ay 9 _ Z)<|.cons (bh Z)<|.cons (JL Z<|(by simp)) .nil)<|.bE Z qD<|.cons Z (RenK.bE' qD) .nil) (.cons (.hp Z)<|.cons (ay 9 _ Z) .nil) (G:=λv_=>[Us ⟨aB,6,153,[[eL (cL TW.c) v13.1.p,eL cI v13.1.x.From,eL (cL cI) v13.1.x.Order,eL TZ.c v13.1.events,hS gw1 1 iW 1 v.values.length,hS Ur 2 nC 1 v13.1.busy.length]]⟩,bE gw1 iW 1 3 (v.values.map cI),bE Ur nC 1 4 (v13.1.busy.map cB)]) (G':=λv_=>[Us ⟨aB,6,153,[[eL (cL TW.c) v13.1.p,eL cI v13.1.x.From,eL (cL cI) v13.1.x.Order,eL TZ.c v13.1.events,hS gw1 1 iW 1 v.values.length,hS Ur 2 nC 1 v13.1.busy.length]]⟩,bE gw1 iW 1 3 (v.values.map cI),bE Ur nC 1 4 (v13.1.busy.map cB),Us ⟨0,5,75,[(TZ.c d0)]⟩,Us ⟨0,4,65,[(TW.c<|J (J v.p<|d0.Thread)<|d0.Index)]⟩]) 5 Z (λv_ => .some (.rowL<|.cons (ay 9 _ Z)<|.cons (ay 9 _ Z)<|.cons (ay 9 _ Z)<|.cons (ay 9 _ Z)<|.cons (bh<|.inl Z)<|.cons (bh<|.inl Z) .nil)<|.bE qD<|.some (RenK.bE' qD) .nil) qD (r:=.tup [I v13.2.1,Bo v13.2.2]) (ay 9 _ Z) qD) λu14=>?_;refine go h λf h=>?_;obtain ⟨g15,_⟩:=f;refine oV (EvA.stO (g:=false) (l:=v13.1.busy) (cs:=[Bo Ur]) Ur ty4 Z Z Z nofun (aG Z g15) Z Z Z)<|go h λ_ h=>?_;obtain rfl:=TV h
  repeat (first|refine kC ?_|refine kD ?_)
  exact ⟨ak [(4,I v13.2.1),(5,Bo v13.2.2)],[Us ⟨aB,6,153,[[eL (cL TW.c) v13.1.p,eL cI v13.1.x.From,eL (cL cI) v13.1.x.Order,eL TZ.c v13.1.events,hS gw1 1 iW 1 v.values.length,hS Ur 2 nC 1 ((v13.1.busy.set i.toNat Ur).length)]]⟩,bE gw1 iW 1 3 (v.values.map cI),bE Ur nC 1 4 ((v13.1.busy.set i.toNat Ur).map cB)],rI Z (.cons (.row<|.cons (.fz<|qC Z)<|.cons (.fz<|qC Z)<|.cons (.fz<|qC Z)<|.cons (.fz<|qC Z)<|.cons (.hS (g:=gw1) (b:=1) (ver:=iW) (s:=1) (n:=v.values.length) Z)<|.cons (.eqv (congrArg (hS Ur 2 nC 1) (by simp:v13.1.busy.length=(v13.1.busy.set i.toNat Ur).length))<|.hS (g:=false) (b:=2) (ver:=nC) (s:=1) (n:=(v13.1.busy.set i.toNat Ur).length) Z) .nil)<|.cons (.list (g:=gw1) (ver:=iW) (l:=v.values) qD)<|.cons (.list (g:=false) (ver:=nC) (l:=(v13.1.busy.set i.toNat Ur)) qD) .nil)<|ai (.fz<|qC Z)<|ai (.fz<|qC Z) aY,jQ (vs:=[I v13.2.1,Bo v13.2.2]) (.cons (.tmp Z)<|.cons (.tmp Z) .nil) ⟨0,Z,Z⟩⟩
theorem yz (v:aD) (i:Int) (aB:Nat) (iW:Nat) (nC:Nat) (gw1:Bool) (hgw1:gw1=Uq->v.values=[]) {q} (h:mO v i=Us q):bH Uv 113 [.hp 0 aB 6 0 0,I i] [Us ⟨aB,6,153,[[eL (cL TW.c) v.p,eL cI v.x.From,eL (cL cI) v.x.Order,eL TZ.c v.events,hS gw1 1 iW 1 v.values.length,hS Ur 2 nC 1 v.busy.length]]⟩,bE gw1 iW 1 3 (v.values.map cI),bE Ur nC 1 4 (v.busy.map cB)] (Pj (.tup [I q.2.1,Bo q.2.2]) λver=>[Us ⟨aB,6,153,[[eL (cL TW.c) q.1.p,eL cI q.1.x.From,eL (cL cI) q.1.x.Order,eL TZ.c q.1.events,hS gw1 1 iW 1 v.values.length,hS Ur 2 nC 1 q.1.busy.length]]⟩,bE gw1 iW 1 3 (v.values.map cI),bE Ur nC 1 4 (q.1.busy.map cB)]):=by
 obtain ⟨nf,h⟩:=qP h;exact xC nf v i aB iW nC gw1 hgw1 h
theorem Ct (p:List<|List TW) (x:TY) {q} (h:nZ p x=Us q):ax Uv 75 [eL (cL TW.c) p,.agg (TY.c x)] (.tup [eL cI q.1,Bo q.2]):=by
 refine pM func75 Z (by kernel_rfl) Z<|go h λ_ h=>?_;refine eF Z Z Z<|gq h λ_ h=>?_;refine jH<|T.reserve<|T.reserve<|jP (dG [dF,dF,dF,dF,dF,([1],Uq),dF]) (by kernel_rfl) (by kernel_rfl) ?_;refine go h λ_ h=>?_;refine fC h (λ_=>oU _) Z Z Z Z Z λv1 _ h=>(go h λ_ h=>?_);refine fW 1 [] Z Z (λG hG=>EvA.bxA (cs:=[eL (cL TW.c) p,eL cI x.From,eL (cL cI) x.Order,eL TZ.c v1,hS Uq 0 0 1 (([]:LI).length),.nil]) 1 Z Z<|hG.a0 Z)<|go h λ_ h=>?_;refine jD h λg2 h=>oA (EvA.mkN (c:=cB) (Uo:Bool) S0 Z Z g2 Z Z Z)<|go h λ_ h=>?_;obtain ⟨Ks3,es3,ws3,h,ks3⟩:=sumL h;refine T.join (S:=(LI)×(List<|List TW)×(LI)×(LL)×(List TZ)×(List Bool)) (G:=(Bool×Nat)×Nat) (λs3=>Ks3 s3=Us q) (λs3 gh=>(gh.1.1=Uq->s3.1=[])) (λs3 gh=>[(6,.hp 1 0 6 0 0)]) (λs3 gh=>[bE gh.1.1 gh.1.2 1 3 (s3.1.map cI),Us ⟨0,6,153,[[eL (cL TW.c) s3.2.1,eL cI s3.2.2.1,eL (cL cI) s3.2.2.2.1,eL TZ.c s3.2.2.2.2.1,hS gh.1.1 0 gh.1.2 1 s3.1.length,hS Ur 2 gh.2 1 s3.2.2.2.2.2.length]]⟩,bE Ur gh.2 1 4 (s3.2.2.2.2.2.map cB)]) (λs3 gh h n28=>?_) ?_
 ·clear ks3;subst es3;obtain ⟨⟨b27,u26⟩,u29⟩:=gh;exact gf h
 refine go h λ_ h=>?_;refine tL h ((Uq,0),0) (λs10 gh=>(gh.1.1=Uq->s10.1=[])) (λs10 gh=>[(32,I s10.2.2.2.2.2.2),(31,I (v1.length:Int)),(30,eL TZ.c v1),(6,.hp 1 0 6 0 0)]) (λs10 gh=>[bE gh.1.1 gh.1.2 1 3 (s10.1.map cI),Us ⟨0,6,153,[[eL (cL TW.c) s10.2.1,eL cI s10.2.2.1,eL (cL cI) s10.2.2.2.1,eL TZ.c s10.2.2.2.2.1,hS gh.1.1 0 gh.1.2 1 s10.1.length,hS Ur 2 gh.2 1 s10.2.2.2.2.2.1.length]]⟩,bE Ur gh.2 1 4 (s10.2.2.2.2.2.1.map cB)]) qD λs10 gh ws10 h n14=>?_;obtain ⟨⟨b13,u12⟩,u15⟩:=gh;refine go h λ_ h=>?_;refine jH ?_;refine jN Z h (λq16 h=>?_) λq16 h=>?_
 ·refine go h λ_ h=>?_;refine gs h λ_ h=>?_;obtain ⟨Ks18,es18,ws18,h,ks18⟩:=sumL h;refine T.join (S:=(List<|List TW)×(LI)×(LL)×(List TZ)×(List Bool)×Int) (G:=Nat) (λs18=>Ks18 s18=Us ws10) (λs18 gh=>True) (λs18 gh=>[(9,I s18.2.2.2.2.2),(32,I s10.2.2.2.2.2.2),(31,I (v1.length:Int)),(30,eL TZ.c v1),(6,.hp 1 0 6 0 0)]) (λs18 gh=>[bE b13 u12 1 3 (s10.1.map cI),Us ⟨0,6,153,[[eL (cL TW.c) s18.1,eL cI s18.2.1,eL (cL cI) s18.2.2.1,eL TZ.c s18.2.2.2.1,hS b13 0 u12 1 s10.1.length,hS Ur 2 gh 1 s18.2.2.2.2.1.length]]⟩,bE Ur gh 1 4 (s18.2.2.2.2.1.map cB),Us ⟨0,5,75,[(TZ.c<|J v1 s10.2.2.2.2.2.2)]⟩]) (λs18 u23 h hg=>?_) ?_
  ·clear ks18;subst es18;refine gk h λ_ _ h=>?_;obtain rfl:=TV h;exact ⟨((s10.1++[s18.2.2.2.2.2]),s18.1,s18.2.1,s18.2.2.1,s18.2.2.2.1,s18.2.2.2.2.1,(s10.2.2.2.2.2.2+V)),((Ur,u12+1),u23),Z,nofun,Um⟩
  refine gi h (λ_ q19 h=>?_) λ_ q19 h=>?_
  ·refine go h λ_ h=>?_;refine jB h λv20 cv20 h=>?_;refine oW Z Z Z (bH.outAt (yz (⟨s10.2.1,(⟨s10.2.2.1,s10.2.2.2.1⟩:TY),s10.2.2.2.2.1,s10.1,s10.2.2.2.2.2.1⟩:aD) s10.2.2.2.2.2.2 0 u12 u15 b13 n14 cv20) [1,0,2] (by decide) (.cons Z (.rowL<|.cons (ay 9 _ Z)<|.cons (ay 9 _ Z)<|.cons (ay 9 _ Z)<|.cons (ay 9 _ Z)<|.cons (bh Z)<|.cons (bh Z) .nil)<|.bE Z qD<|.cons Z (RenK.bE' qD) .nil) (.cons (.hp Z)<|.cons (ay 9 _ Z) .nil) (G:=λv_=>[Us ⟨0,6,153,[[eL (cL TW.c) v20.1.p,eL cI v20.1.x.From,eL (cL cI) v20.1.x.Order,eL TZ.c v20.1.events,hS b13 0 u12 1 s10.1.length,hS Ur 2 u15 1 v20.1.busy.length]]⟩,bE b13 u12 1 3 (s10.1.map cI),bE Ur u15 1 4 (v20.1.busy.map cB)]) (G':=λv_=>[bE b13 u12 1 3 (s10.1.map cI),Us ⟨0,6,153,[[eL (cL TW.c) v20.1.p,eL cI v20.1.x.From,eL (cL cI) v20.1.x.Order,eL TZ.c v20.1.events,hS b13 0 u12 1 s10.1.length,hS Ur 2 u15 1 v20.1.busy.length]]⟩,bE Ur u15 1 4 (v20.1.busy.map cB),Us ⟨0,5,75,[(TZ.c<|J v1 s10.2.2.2.2.2.2)]⟩]) 4 Z (λv_ => .some (.rowL<|.cons (ay 9 _ Z)<|.cons (ay 9 _ Z)<|.cons (ay 9 _ Z)<|.cons (ay 9 _ Z)<|.cons (bh<|.inl Z)<|.cons (bh<|.inl Z) .nil)<|.bE qD<|.some (RenK.bE' qD) .nil) qD (r:=.tup [I v20.2.1,Bo v20.2.2]) (ay 9 _ Z) qD) λu21=>?_;refine go h λ_ h=>?_;refine Ul h (λ_ q22 h=>?_) λ_ q22 h=>?_
   ·refine go h λ_ h=>?_;obtain rfl:=TV h;replace h:=congrArg Us (show _=_ from ks18);refine lX h λh=>?_;obtain rfl:=TV h;replace h:=congrArg Us (show _=_ from ks3);exact gf h
   refine go h λ_ h=>?_;obtain rfl:=TV h;exact ⟨(v20.1.p,v20.1.x.From,v20.1.x.Order,v20.1.events,v20.1.busy,v20.2.1),u15,ks18,trivial,Um⟩
  refine go h λ_ h=>?_;obtain rfl:=TV h;exact ⟨(s10.2.1,s10.2.2.1,s10.2.2.2.1,s10.2.2.2.2.1,s10.2.2.2.2.2.1,(-1:Int)),u15,ks18,trivial,Um⟩
 refine jM<|lX h λh=>?_;obtain rfl:=TV h;exact ⟨(s10.1,s10.2.1,s10.2.2.1,s10.2.2.2.1,s10.2.2.2.2.1,s10.2.2.2.2.2.1),((b13,u12),u15),ks3,n14,Um⟩
end
end Go.Proofs.YtdmahcaohkplcaaGreatDoor
