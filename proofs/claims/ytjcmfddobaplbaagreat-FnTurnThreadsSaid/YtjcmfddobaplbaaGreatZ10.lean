/- Texts joined. No conditions. -/
import Derived.Deep.RegionWith
import Derived.WalkKit
import Derived.RangeFuncNested
import Derived.RangeFuncBound
import Derived.RangeFuncCalls
import Derived.RangeFuncLeaves
import Derived.RangeFuncBox
import Derived.OwnWalkIn
import Derived.TacticsInMore
import Derived.LoopNIn
import Derived.LoopIn
import Derived.Shelf.Abstract
import Derived.Shelf.RegionOpen
import Derived.Test.YtjcmfddobaplbaaGreatProg
import Derived.Lib.Walk
import Derived.Lib.AppendZerosOnto
import Derived.Lib.Overlaps
import Derived.Laws.CopyRow
import Derived.Laws.NewBlocks
import Derived.Shelf.Spec.SlicesInsert
import Derived.ChangeSame
import Derived.ChangeSlices
import Derived.WideKeyArgs
import Derived.Carry
import Derived.Deep.Slices
import Derived.Deep.Fields
import Derived.ProofKit
import Derived.OpenShut
import Derived.BigRegion
import Derived.Sort.Row
import Derived.Sort.Grow
import Derived.Shelf.SortM.Plain
import Derived.Shelf.SortM.SortNone
import Derived.Shelf.SlSortCmp.NoneTotal
import Derived.Test.YtjcmfddobaplbaaGreatZ9
namespace Go.Proofs.YtjcmfddobaplbaaGreat
noncomputable section
open _root_.List renaming replicate -> SK, size_toArray -> SR, getElem?_map -> SV, length_nil -> SX, getElem?_toArray -> SY, getElem?_drop -> SZ, length_take -> Ta, length_drop -> Tc, append_assoc -> Td, append_toArray -> Te, range -> Tf, getElem?_take -> Ti, push_toArray -> Tt, nil_append -> Tu, cons_append -> Tv, eq_nil_of_length_eq_zero -> Tz, mem_map -> TA, mem_range -> TB, getElem?_of_mem -> TE, drop_eq_getElem_cons -> TG, replicate_succ' -> TI, getElem?_cons_succ -> TJ, length_reverse -> TK, mem_append_left -> TP, mem_append_right -> TQ, drop_eq_nil_of_le -> TV
open _root_.Array renaming length_toList -> SL, getElem?_toList -> SS, size_append -> S0, getElem?_modify -> S5, getElem?_append_left -> Tj, replicate_succ -> Tp, replicate_zero -> Tq, getElem?_eq_some_iff -> TD, getElem?_mapIdx -> TR, getElem?_eq_getElem -> TT, getElem_ofFn -> TW, extract_eq_self_of_le -> TY
open _root_.Nat renaming le_refl -> SN, min -> SU, zero_le -> zZ9, add_zero -> S9, reduceAdd -> Tm, reduceSub -> Tn, mul_one -> Tw, min_def -> Ty, zero_add -> TC, ble_eq_true_of_le -> TH
open _root_.Option renaming map_eq_some_iff -> Tg, map_some -> Tx
open _root_.Int renaming tdiv_eq_ediv_of_nonneg -> TM
open _root_.Bool renaming and_eq_false_iff -> TU
set_option maxHeartbeats 4000000
open Go.RowKit
set_option maxRecDepth 100000
theorem tN (r_:ak) (p:List<|List MI) (bI:Nat) {q} (h:ij r_ p=some q):eX Tryz.prog 84 [.hp 0 bI 2 0 0,eL (cL MI.c) p] [some ⟨bI,2,99,[[eL cY r_.b,I r_.p]]⟩] (eL (cL MI.c) q.2) [some ⟨bI,2,99,[[eL cY q.1.b,I q.1.p]]⟩]:=by
 refine eX.mkT Tryz.func84 Z (by kernel_rfl) Z (by kernel_rfl) (e0:=ax [(0,.hp 0 bI 2 0 0),(1,eL (cL MI.c) p)]) (ME Z<|ME Z MC) ?_;unfold ij at h;obtain ⟨hp,h⟩:=gdL h;obtain ⟨hp1,hp2⟩:=Cz hp;refine jH ?_;refine jC ?_;refine oN (MF.asg (.nil) Z) ?_;refine jA ?_;refine jH ?_;refine jC ?_;refine oN (MF.mv (eL (cL MI.c) p) Z) ?_;refine oGN (m:=1) Z Z Z Z MI.isF ((FQ p hp).ownN Z MI.isF iC 1 Z) λver gh K hN hK=>?_;clear hK;replace hN:NK 2 (some ⟨bI,2,99,[[eL cY r_.b,I r_.p]]⟩::some ⟨ver,1,66,cT gh 4 p⟩::K) gh 4 69 MI.c p:=hN;refine TO.clean (H0:=some ⟨bI,2,99,[[eL cY r_.b,I r_.p]]⟩::some ⟨ver,1,66,cT gh 4 p⟩::K) (e0:=ax [(8,hS false 1 ver 1 p.length),(0,.hp 0 bI 2 0 0)]) Z (ME Z<|ME Z MC) ?_;refine oN (MF.asg (hS false 1 ver 1 p.length) Z) ?_;refine jA ?_;refine jH ?_;refine jH ?_;refine jC ?_;refine oN (MF.mv (hS false 1 ver 1 p.length) Z) ?_;refine oN (MF.lenO (g:=false) kD Z nofun) ?_;refine oN (MF.ieq Z Z) ?_;refine jA ?_;refine T.cond Z (λqz=>?_) λqz=>?_
 ·have h0:p.length=0:=by have := eq_of_beq qz;omega
  replace h:=Ar (show Nat.beq p.length 0=true by rw [h0];rfl) h;refine jH ?_;refine jC ?_;refine oN (MF.mv (hS false 1 ver 1 p.length) Z) ?_;refine oN (MF.asg (hS false 1 ver 1 p.length) Z) ?_;refine jA ?_;refine jK ?_;obtain rfl:=osl h
  repeat first | refine gY ?_ | refine gZ ?_
  exact ⟨ax [(4,eL (cL MI.c) p)],[some ⟨bI,2,99,[[eL cY r_.b,I r_.p]]⟩],p8 Z (.cons (.row<|.cons (.fz<|qC Z)<|.cons (.fz<|qC Z) .nil) .nil)<|ay (.fz<|hN.fzm Z Z Z Z MI.isF) bS,jQ (vs:=[eL (cL MI.c) p]) (.cons (.tmp Z) .nil) ⟨Z,Z⟩⟩
 have h0:p.length≠0:=λh0=>by rw [h0] at qz;exact absurd qz (by decide)
 replace h:=Au (show Nat.beq p.length 0=false by cases hc:p.length with | zero=>exact absurd hc h0 | succ n=>rfl) h;refine jG ?_;refine jH ?_;refine jC ?_;refine oN (MF.mv (.hp 0 bI 2 0 0) Z) ?_;refine oN (MF.mv (hS false 1 ver 1 p.length) Z) ?_;refine oN (MF.lenO (g:=false) kD Z nofun) ?_;obtain ⟨v1,cv1,h⟩:=Aq h;refine oA (EvA.call Z Z Z<|(aT r_ (p.length:Int) bI cv1).one 0 Z (.cons (.hp Z)<|.cons (.pF Z) .nil) (aF Z) (aF Z) Z) ?_;refine oN (MF.asg (I v1.2) Z) ?_;refine jA ?_;refine T.joinF (G:=Unit) (λ_=>True) (λ_=>[(5,eL (cL MI.c) q.2)]) (λ_=>[some ⟨bI,2,99,[[eL cY q.1.b,I q.1.p]]⟩]) (λ_ _=>?_) ?_
 ·clear h;refine jH ?_;refine jC ?_;refine oN (MF.mv (eL (cL MI.c) q.2) Z) ?_;refine oN (MF.asg (eL (cL MI.c) q.2) Z) ?_;refine jA ?_;refine jK ?_
  repeat first | refine gY ?_ | refine gZ ?_
  exact ⟨ax [(4,eL (cL MI.c) q.2)],[some ⟨bI,2,99,[[eL cY q.1.b,I q.1.p]]⟩],CP Z<|ME Z MC,jQ (vs:=[eL (cL MI.c) q.2]) (.cons (.tmp Z) .nil) ⟨Z,Z⟩⟩
 refine jH ?_;refine jC ?_;refine oN (MF.mv (.hp 0 bI 2 0 0) Z) ?_;obtain ⟨v2,cv2,h⟩:=Aq h;refine oA (EvA.call Z Z Z<|(aT v1.1 (40:Int) bI cv2).one 0 Z (.cons (.hp Z)<|.cons (.pF Z) .nil) (aF Z) (aF Z) Z) ?_;refine jA ?_;obtain ⟨hi,h⟩:=gdD h;refine T.clean (H0:=some ⟨bI,2,99,[[eL cY v2.1.b,I v2.1.p]]⟩::some ⟨ver,1,66,cT gh 4 p⟩::K) (e0:=ax [(18,I v2.2),(6,I v1.2),(5,hS false 1 ver 1 p.length),(0,.hp 0 bI 2 0 0)]) Z (ME Z<|ME Z<|ME Z<|ME Z MC) ?_
 replace hN:NK 2 (some ⟨bI,2,99,[[eL cY v2.1.b,I v2.1.p]]⟩::some ⟨ver,1,66,cT gh 4 p⟩::K) gh 4 69 MI.c p:=hN.low λb hb _=>by match b,hb with | b+2,_=>rfl
 have hin:v1.2.toNat<p.length:=by omega
 clear cv1 cv2 hp;refine jE ?_;refine jH ?_;refine jC ?_;refine oN (MF.ieq Z Z) ?_;refine oN (MF.asg (Bo<|v2.2==U) Z) ?_;refine jA ?_;refine T.cond Z (λq0=>?_) λq0=>?_
 ·replace h:=Ar q0 h;obtain ⟨g,k,v,hg,hk,hK,hnil⟩:=hN.row (i:=v1.2.toNat) hin;have hlen:=hp2 v1.2.toNat;unfold FY at h;generalize hrw:p.getD v1.2.toNat []=row at hK hnil h hlen;refine jP (λi=>[([],false),([],false),([],false),([],false),([],false),([1],false),([],false),([],false),([0],true),([],false),([],false),([0],true),([],false),([],false),([k+2],true),([],false),([1],true)].getD i ([],false)) (by kernel_rfl) (by kernel_rfl) ?_;refine fN Z (MF.mv (hS false 1 ver 1 p.length) Z) ?_;refine fN Z (MF.mv (I v1.2) Z) ?_;refine fN Z (MF.mv (hS false 1 ver 1 p.length) Z) ?_;refine fN Z (MF.mv (I v1.2) Z) ?_;refine fN Z (MF.ixO (g:=false) kD Z Z nofun hi) ?_;refine fR [1] Z (λG hG=>EvA.loadhp (hS g (k+2) v 4 row.length) zV Z (hG.a0 Z) Z Z (show (cT gh 4 p)[v1.2.toNat]? = some [hS g (k+2) v 4 row.length] by rw [cV hin,zy,hg,hrw]) Z) ?_;refine fN Z (MF.mv (.hp 0 bI 2 0 0) Z) ?_;refine fN Z (MF.mkF (c:=cI) ([(0:Int),(6:Int),V,(4:Int)]:LI) [[I U],[I (6:Int)],[I V],[I (4:Int)]] j3 Z Z Z qD qD Z) ?_;obtain ⟨a,ca,h⟩:=Aq h;refine fW 0 [] Z Z (λG hG=>EvA.call Z Z Z<|(cG v2.1 ([(0:Int),(6:Int),V,(4:Int)]:LI) bI ca).one 0 (hG.a0 Z) (.cons (.hp Z)<|.cons (.pF Z) .nil) (aF Z) (aF Z) Z) ?_;refine fN Z (MF.mv (.hp 0 bI 2 0 0) Z) ?_;refine fN Z (MF.mkF (c:=cI) ([(0:Int),(3:Int),(-1:Int)]:LI) [[I U],[I (3:Int)],[I (-1:Int)]] j3 Z Z Z qD qD Z) ?_;obtain ⟨b,cb,h⟩:=Aq h;refine fW 0 [] Z Z (λG hG=>EvA.call Z Z Z<|(cG a.1 ([(0:Int),(3:Int),(-1:Int)]:LI) bI cb).one 0 (hG.a0 Z) (.cons (.hp Z)<|.cons (.pF Z) .nil) (aF Z) (aF Z) Z) ?_;refine fN Z (MF.build [I a.2,I b.2,I U,I U] Tryz.underlying69 ul jY Z Z) ?_;refine fN Z (MF.mkF (c:=MI.c) ([(⟨a.2,b.2,U,U⟩:MI)]:List MI) [[I a.2,I b.2,I U,I U]] sD Z Z Z qD MI.isF Z) ?_;refine fW (k+2) [] Z (TH<|by simp;omega) (λG hG=>EvA.app1 (g:=g) (l:=row) (⟨a.2,b.2,(0:Int),(0:Int)⟩:MI) sD (by kernel_rfl) Z Z (hG.a0 hK) hnil (bF.fz (l:=[(⟨a.2,b.2,(0:Int),(0:Int)⟩:MI)]) Z qD)<|xW (by omega) Z) ?_;refine fN Z (MF.ixO (g:=false) kD Z Z nofun hi) ?_;refine fV 1 [] Z Z (λG hG=>EvA.st ⟨ver,1,66,(cT gh 4 p).set v1.2.toNat [hS false (k+2) (v+1) 4 (row++[(⟨a.2,b.2,U,U⟩:MI)]).length]⟩ zV Z Z (hG.a0 Z) Z Z (show (cT gh 4 p)[v1.2.toNat]? = some [hS g (k+2) v 4 row.length] by rw [cV hin,zy,hg,hrw]) Z Z Z) ?_;refine jR ?_;obtain rfl:=osl h;have hN2:=hN.turn (r':=some ⟨bI,2,99,[[eL cY b.1.b,I b.1.p]]⟩) (o':=some ⟨ver,1,66,cT (gh.put v1.2.toNat (false,k+2,v+1)) 4<|p.set v1.2.toNat<|row++[(⟨a.2,b.2,U,U⟩:MI)]⟩) hin hg (g':=false) (v':=v+1) (x:=row++[(⟨a.2,b.2,U,U⟩:MI)]) nofun;rw [<- oQ hin] at hN2;refine ⟨(),trivial,p8 Z (.cons (.row<|.cons (.fz<|qC Z)<|.cons (.fz<|qC Z) .nil) .nil)<|ay (.fz<|hN2.fzm (to:=66) Z Z ?_ (by simp) MI.isF) bS⟩;rw [<- oQ hin]
  rfl
 replace h:=Au q0 h;refine jH ?_;refine jC ?_;refine oN (MF.ieq Z Z) ?_;refine oN (MF.asg (Bo<|v2.2==V) Z) ?_;refine jA ?_;refine T.cond Z (λq1=>?_) λq1=>?_
 ·replace h:=Ar q1 h;obtain ⟨g,k,v,hg,hk,hK,hnil⟩:=hN.row (i:=v1.2.toNat) hin;have hlen:=hp2 v1.2.toNat;unfold FY at h;generalize hrw:p.getD v1.2.toNat []=row at hK hnil h hlen;refine jP (λi=>[([],false),([],false),([],false),([],false),([],false),([1],false),([],false),([],false),([0],true),([],false),([],false),([k+2],true),([],false),([1],true)].getD i ([],false)) (by kernel_rfl) (by kernel_rfl) ?_;refine fN Z (MF.mv (hS false 1 ver 1 p.length) Z) ?_;refine fN Z (MF.mv (I v1.2) Z) ?_;refine fN Z (MF.mv (hS false 1 ver 1 p.length) Z) ?_;refine fN Z (MF.mv (I v1.2) Z) ?_;refine fN Z (MF.ixO (g:=false) kD Z Z nofun hi) ?_;refine fR [1] Z (λG hG=>EvA.loadhp (hS g (k+2) v 4 row.length) zV Z (hG.a0 Z) Z Z (show (cT gh 4 p)[v1.2.toNat]? = some [hS g (k+2) v 4 row.length] by rw [cV hin,zy,hg,hrw]) Z) ?_;refine fN Z (MF.mv (.hp 0 bI 2 0 0) Z) ?_;refine fN Z (MF.mkF (c:=cI) ([(4:Int),(-1:Int),(3:Int)]:LI) [[I (4:Int)],[I (-1:Int)],[I (3:Int)]] j3 Z Z Z qD qD Z) ?_;obtain ⟨a,ca,h⟩:=Aq h;refine fW 0 [] Z Z (λG hG=>EvA.call Z Z Z<|(cG v2.1 ([(4:Int),(-1:Int),(3:Int)]:LI) bI ca).one 0 (hG.a0 Z) (.cons (.hp Z)<|.cons (.pF Z) .nil) (aF Z) (aF Z) Z) ?_;refine fN Z (MF.build [I (2:Int),I U,I U,I a.2] Tryz.underlying69 ul jY Z Z) ?_;refine fN Z (MF.mkF (c:=MI.c) ([(⟨(2:Int),U,U,a.2⟩:MI)]:List MI) [[I (2:Int),I U,I U,I a.2]] sD Z Z Z qD MI.isF Z) ?_;refine fW (k+2) [] Z (TH<|by simp;omega) (λG hG=>EvA.app1 (g:=g) (l:=row) (⟨(2:Int),(0:Int),(0:Int),a.2⟩:MI) sD (by kernel_rfl) Z Z (hG.a0 hK) hnil (bF.fz (l:=[(⟨(2:Int),(0:Int),(0:Int),a.2⟩:MI)]) Z qD)<|xW (by omega) Z) ?_;refine fN Z (MF.ixO (g:=false) kD Z Z nofun hi) ?_;refine fV 1 [] Z Z (λG hG=>EvA.st ⟨ver,1,66,(cT gh 4 p).set v1.2.toNat [hS false (k+2) (v+1) 4 (row++[(⟨(2:Int),U,U,a.2⟩:MI)]).length]⟩ zV Z Z (hG.a0 Z) Z Z (show (cT gh 4 p)[v1.2.toNat]? = some [hS g (k+2) v 4 row.length] by rw [cV hin,zy,hg,hrw]) Z Z Z) ?_;refine jR ?_;obtain rfl:=osl h;have hN2:=hN.turn (r':=some ⟨bI,2,99,[[eL cY a.1.b,I a.1.p]]⟩) (o':=some ⟨ver,1,66,cT (gh.put v1.2.toNat (false,k+2,v+1)) 4<|p.set v1.2.toNat<|row++[(⟨(2:Int),U,U,a.2⟩:MI)]⟩) hin hg (g':=false) (v':=v+1) (x:=row++[(⟨(2:Int),U,U,a.2⟩:MI)]) nofun;rw [<- oQ hin] at hN2;refine ⟨(),trivial,p8 Z (.cons (.row<|.cons (.fz<|qC Z)<|.cons (.fz<|qC Z) .nil) .nil)<|ay (.fz<|hN2.fzm (to:=66) Z Z ?_ (by simp) MI.isF) bS⟩;rw [<- oQ hin]
  rfl
 replace h:=Au q1 h;refine jH ?_;refine jC ?_;refine oN (MF.ieq Z Z) ?_;refine oN (MF.asg (Bo<|v2.2==(2:Int)) Z) ?_;refine jA ?_;refine T.cond Z (λq2=>?_) λq2=>?_
 ·replace h:=Ar q2 h;refine jE ?_;refine jO (S:=Nat) (G:=NG×AH×Nat) (E:=Nat) (x:=4-p.length) (λj=>if p.length+j<=3 then some (.inl<|j+1) else some (.inr j)) (λj g=>j<=4-p.length/\NK 2 (some ⟨bI,2,99,[[eL cY v2.1.b,I v2.1.p]]⟩::some ⟨g.2.2,1,66,cT g.1 4<|p++SK j []⟩::g.2.1) g.1 4 69 MI.c (p++SK j [])) (λj g=>[(5,hS false 1 g.2.2 1 (p++SK j []).length)]) (λj g=>some ⟨bI,2,99,[[eL cY v2.1.b,I v2.1.p]]⟩::some ⟨g.2.2,1,66,cT g.1 4<|p++SK j []⟩::g.2.1) (s0:=0) (gh,K,ver) (rJ (λi=>i) (4-p.length) (λi hi=>by rw [if_pos (by omega)])<|by rw [if_neg (by omega)]) ⟨zZ9 _,by simpa using hN⟩ (CP (by simp)<|ME (by simp;rfl) MC) (λj g z hz hinv=>?_);obtain ⟨gh,K,ver⟩:=g;obtain ⟨hle,hN⟩:=hinv;simp only at hN;have hll:(p++SK j []).length=p.length+j:=by simp
  have htk:p++SK (j+1) []=(p++SK j [])++[([]:List MI)]:=by rw [TI,Td]
  generalize hl:(p++SK j [])=l at hN hll htk ⊢;refine jH ?_;refine jH ?_;refine jC ?_;refine oN (MF.mv (hS false 1 ver 1 l.length) Z) ?_;refine oN (MF.lenO (g:=false) kD Z nofun) ?_;refine oN (MF.ile Z Z) ?_;refine jA ?_;refine T.cond Z (λqa=>?_) λqa=>?_
  ·have hj:p.length+j<=3:=by have := of_decide_eq_true qa;omega
   rw [if_pos hj] at hz;obtain rfl:=osl hz;refine jG ?_;refine jE ?_;refine jC ?_;refine oN (MF.mv (hS false 1 ver 1 l.length) Z) ?_;refine oA (EvA.mkO (c:=MI.c) (b:=K.length+2) ([]:List MI) [] sD Z Z Z qD Z Z) ?_;refine TO.clean (H0:=some ⟨bI,2,99,[[eL cY v2.1.b,I v2.1.p]]⟩::some ⟨ver,1,66,cT gh 4 l⟩::(K++[bE false 0 4 69 (([]:List MI).map MI.c)])) (e0:=ax [(58,hS false (K.length+2) 0 4 0),(57,hS false 1 ver 1 l.length)]) Z (ME Z<|ME Z MC) ?_;refine oA (EvA.mkR (b:=(K++[bE false 0 4 69 (([]:List MI).map MI.c)]).length+2) [[hS false (K.length+2) 0 4 0]] kD Z Z Z Z) ?_;refine oA (EvA.appR (g:=false) (rows:=cT gh 4 l) (rows':=cT gh 4 l++[[hS false (K.length+2) 0 4 0]]) (n':=l.length+1) kD (by kernel_rfl) Z Z (dD gh 4 l).symm nofun (bF.raw (rows:=[[hS false (K.length+2) 0 4 0]]) Z (ym (H:=_::_::(K++[_]))) Z) (xW (by simp;omega) Z) Z Z) ?_;refine oN (MF.asg (hS false 1 (ver+1) 1<|l.length+1) Z) ?_;refine jA ?_;refine ⟨j+1,(gh.put l.length (false,K.length+2,0),K++[bE false 0 4 69 (([]:List MI).map MI.c)]++[some ⟨0,1,66,[[hS false (K.length+2) 0 4 0]]⟩],ver+1),Z,⟨by omega,?_⟩,CP ?_<|ME ?_ MC⟩
   ·rw [htk];refine hN.snoc (id:=K.length+2) (by simp) (by omega) (λb h1 h2=>?_) ?_ qD
    ·match b,h1 with
     | b+2,_=>
      simp only [llc,Nat.add_lt_add_iff_right] at h2;simp only [TJ,Td];exact gal h2
    simp only [TJ];exact zz
   ·show _::some (ABlk.mk _ _ _<|cT _ 4<|p++SK (j+1) [])::_=_;rw [htk,<- xy]
    rfl
   show hS false 1 (ver+1) 1 (l.length+1)=hS false 1 (ver+1) 1 (p++SK (j+1) []).length;rw [htk,lla]
   rfl
  have hj : ¬ p.length+j<=3:=by have := of_decide_eq_false qa;omega
  rw [if_neg hj] at hz;obtain rfl:=osl hz;refine jM ?_;refine ⟨_,Z,λhe=>?_⟩;subst he;obtain rfl:=osl h;subst hl;exact ⟨(),trivial,p8 Z (.cons (.row<|.cons (.fz<|qC Z)<|.cons (.fz<|qC Z) .nil) .nil)<|ay (.fz<|hN.fzm Z Z Z Z MI.isF) bS⟩
 replace h:=Au q2 h;refine jH ?_;refine jC ?_;refine oN (MF.ieq Z Z) ?_;refine oN (MF.asg (Bo<|v2.2==(3:Int)) Z) ?_;refine jA ?_;refine T.cond Z (λq3=>?_) λq3=>?_
 ·replace h:=Ar q3 h;have hlen:=hp2 v1.2.toNat;unfold FY at h;have hset:p.set v1.2.toNat (p.getD v1.2.toNat [])=p:=by simp [hin]
  generalize hrw0:p.getD v1.2.toNat []=row0 at h hlen hset;refine jE ?_;refine jO (S:=Nat) (G:=NG×AH) (E:=Nat) (x:=8-row0.length) (λj=>if row0.length+j<=7 then some (.inl<|j+1) else some (.inr j)) (λj g=>j<=8-row0.length/\NK 2 (some ⟨bI,2,99,[[eL cY v2.1.b,I v2.1.p]]⟩::some ⟨ver,1,66,cT g.1 4<|p.set v1.2.toNat<|row0++SK j (⟨1,0,0,0⟩:MI)⟩::g.2) g.1 4 69 MI.c (p.set v1.2.toNat<|row0++SK j (⟨1,0,0,0⟩:MI))) (λj g=>[(6,I v1.2),(5,hS false 1 ver 1 p.length)]) (λj g=>some ⟨bI,2,99,[[eL cY v2.1.b,I v2.1.p]]⟩::some ⟨ver,1,66,cT g.1 4<|p.set v1.2.toNat<|row0++SK j (⟨1,0,0,0⟩:MI)⟩::g.2) (s0:=0) (gh,K) (rJ (λi=>i) (8-row0.length) (λi hi=>by rw [if_pos (by omega)])<|by rw [if_neg (by omega)]) ⟨zZ9 _,by simpa [hset] using hN⟩ (CP (by simp [hset])<|ME Z<|ME Z MC) λj g z hz hinv=>?_;obtain ⟨gh,K⟩:=g;obtain ⟨hle,hN⟩:=hinv;simp only at hN;have hin2:v1.2.toNat<(p.set v1.2.toNat<|row0++SK j (⟨1,0,0,0⟩:MI)).length:=by simp [hin]
  have hgt:(p.set v1.2.toNat<|row0++SK j (⟨1,0,0,0⟩:MI)).getD v1.2.toNat []=(row0++SK j (⟨1,0,0,0⟩:MI)):=by simp [hin]
  have hrl:(row0++SK j (⟨1,0,0,0⟩:MI)).length=row0.length+j:=by simp
  have hnx:∀ x,((p.set v1.2.toNat<|row0++SK j (⟨1,0,0,0⟩:MI))).set v1.2.toNat x=p.set v1.2.toNat x:=λx=>by simp
  have htk:row0++SK (j+1) (⟨1,0,0,0⟩:MI)=(row0++SK j (⟨1,0,0,0⟩:MI))++[(⟨1,0,0,0⟩:MI)]:=by rw [TI,Td]
  obtain ⟨g,k,v,hg,hk,hK,hnil⟩:=hN.row (i:=v1.2.toNat) hin2;rw [hgt] at hK hnil;have hpl:(p.set v1.2.toNat<|row0++SK j (⟨1,0,0,0⟩:MI)).length=p.length:=by simp
  generalize hrw:(row0++SK j (⟨1,0,0,0⟩:MI))=row at hN hin2 hgt hrl hnx htk hK hnil hpl ⊢;generalize hl:p.set v1.2.toNat row=l at hN hin2 hgt hnx hpl ⊢;refine jH ?_;refine jH ?_;refine jC ?_;refine oN (MF.mv (hS false 1 ver 1 p.length) Z) ?_;refine oN (MF.mv (I v1.2) Z) ?_;refine oN (MF.ixO (g:=false) kD Z Z nofun hi) ?_;refine oA (EvA.loadhp (hS g (k+2) v 4 row.length) zV Z Z Z Z (show (cT gh 4 l)[v1.2.toNat]? = some [hS g (k+2) v 4 row.length] by rw [cV hin2,zy,hg,hgt]) Z) ?_;refine oN (MF.lenO (g:=g) sD Z λx=>by rw [hnil x];rfl) ?_;refine oN (MF.ile Z Z) ?_;refine jA ?_;refine T.cond Z (λqa=>?_) λqa=>?_
  ·have hj:row0.length+j<=7:=by have := of_decide_eq_true qa;omega
   rw [if_pos hj] at hz;obtain rfl:=osl hz;refine jG ?_;refine jE ?_;refine jC ?_;refine oN (MF.mv (hS false 1 ver 1 p.length) Z) ?_;refine oN (MF.mv (I v1.2) Z) ?_;refine oN (MF.mv (hS false 1 ver 1 p.length) Z) ?_;refine oN (MF.mv (I v1.2) Z) ?_;refine oN (MF.ixO (g:=false) kD Z Z nofun hi) ?_;refine oA (EvA.loadhp (hS g (k+2) v 4 row.length) zV Z Z Z Z (show (cT gh 4 l)[v1.2.toNat]? = some [hS g (k+2) v 4 row.length] by rw [cV hin2,zy,hg,hgt]) Z) ?_;refine oN (MF.build [I V,I U,I U,I U] Tryz.underlying69 ul jY Z Z) ?_;refine oN (MF.mkF (c:=MI.c) ([(⟨1,0,0,0⟩:MI)]:List MI) [[I V,I U,I U,I U]] sD Z Z Z qD MI.isF Z) ?_;refine oA (EvA.app1 (g:=g) (l:=row) (⟨1,0,0,0⟩:MI) sD (by kernel_rfl) Z Z hK hnil (bF.fz (l:=[(⟨1,0,0,0⟩:MI)]) Z qD)<|xW (by omega) Z) ?_;refine oN (MF.ixO (g:=false) kD Z Z nofun hi) ?_;refine oV (EvA.st ⟨ver,1,66,(cT gh 4 l).set v1.2.toNat [hS false (k+2) (v+1) 4 (row++[(⟨1,0,0,0⟩:MI)]).length]⟩ zV Z Z Z Z Z (show (cT gh 4 l)[v1.2.toNat]? = some [hS g (k+2) v 4 row.length] by rw [cV hin2,zy,hg,hgt]) Z Z Z) ?_;refine jA ?_;have hN2:=hN.turn (r':=some ⟨bI,2,99,[[eL cY v2.1.b,I v2.1.p]]⟩) (o':=some ⟨ver,1,66,cT (gh.put v1.2.toNat (false,k+2,v+1)) 4<|l.set v1.2.toNat<|row++[(⟨1,0,0,0⟩:MI)]⟩) hin2 hg (g':=false) (v':=v+1) (x:=row++[(⟨1,0,0,0⟩:MI)]) nofun;refine ⟨j+1,(gh.put v1.2.toNat (false,k+2,v+1),K.set k<|bE false (v+1) 4 69<|(row++[(⟨1,0,0,0⟩:MI)]).map MI.c),Z,⟨by omega,?_⟩,CP ?_<|ME Z<|ME Z MC⟩
   ·rw [hnx] at hN2;rw [htk];exact hN2
   show _::some (ABlk.mk _ _ _<|cT _ 4<|p.set v1.2.toNat<|row0++SK (j+1) (⟨1,0,0,0⟩:MI))::_=_;rw [htk,<- hnx,<- oQ hin2]
   rfl
  have hj : ¬ row0.length+j<=7:=by have := of_decide_eq_false qa;omega
  rw [if_neg hj] at hz;obtain rfl:=osl hz;refine jM ?_;refine ⟨_,Z,λhe=>?_⟩;subst he;obtain rfl:=osl h;subst hrw;subst hl;exact ⟨(),trivial,p8 Z (.cons (.row<|.cons (.fz<|qC Z)<|.cons (.fz<|qC Z) .nil) .nil)<|ay (.fz<|hN.fzm Z Z Z (by simp) MI.isF) bS⟩
 replace h:=Au q3 h;refine jH ?_;refine jC ?_;refine oN (MF.ieq Z Z) ?_;refine oN (MF.asg (Bo<|v2.2==(4:Int)) Z) ?_;refine jA ?_;refine T.cond Z (λq4=>?_) λq4=>?_
 ·replace h:=Ar q4 h;refine T.cut (e0:=ax [(5,eL (cL MI.c) p)]) (H0:=[some ⟨bI,2,99,[[eL cY v2.1.b,I v2.1.p]]⟩]) (p8 Z (.cons (.row<|.cons (.fz<|qC Z)<|.cons (.fz<|qC Z) .nil) .nil)<|ay (.fz<|hN.fzm Z Z Z Z MI.isF) bS) ?_;refine jC ?_;refine oN (MF.mv (eL (cL MI.c) p) Z) ?_;refine oN (MF.slL kD Z (.yes Z) .no ⟨by omega,by omega,by omega⟩ qD) ?_;refine oN (MF.asg (eL (cL MI.c)<|(p.drop 1).take<|p.length-1) Z) ?_;refine jA ?_;obtain rfl:=osl h;exact ⟨(),trivial,CP Z<|ME Z MC⟩
 replace h:=Au q4 h;refine jG ?_;obtain rfl:=osl h;exact ⟨(),trivial,p8 Z (.cons (.row<|.cons (.fz<|qC Z)<|.cons (.fz<|qC Z) .nil) .nil)<|ay (.fz<|hN.fzm Z Z Z Z MI.isF) bS⟩
theorem Dz {w:World} {g o:Nat} {sp:Bool} (hc:w.cell? ⟨g,o+16,none⟩=some (.bool sp)) {t l:Int} (ht:0<=t/\t<3) (hl:0<=l/\l<3) :
  Calls Tryz.prog 253 #[.pointer (some ⟨g,o,none⟩),.int .i64 t,.int .i64 l] w λe w'=>e = .returned (.int .i64<|gB sp t l)/\w'=w:=by
 obtain ⟨t1,t2⟩:=ht;obtain ⟨l1,l2⟩:=hl
 cases sp with
 | true=>
  go_enter Tryz.func253,Tryz.ntmps253
  go_wp2
  go_ret
  exact ⟨rfl,rfl⟩
 | false=>
  go_enter Tryz.func253,Tryz.ntmps253
  go_wp2
  go_ret
  exact ⟨rfl,rfl⟩
def Me:Code:=match (Tryz.f252).body with
 | some (.seq _<|.seq (.seq c _) _)=>c
 | _ => .skip
def Mf:Code:=match (Tryz.f252).body with
 | some (.seq _<|.seq _<|.seq c _)=>c
 | _ => .skip
theorem JK {w:World} {g o:Nat} {sp:Bool} (hsp:w.cell? ⟨g,o+16,none⟩=some (.bool sp)) {wb wo wl wc:Nat} (hw:w.cell? ⟨g,o+17,none⟩=some (.slice (some ⟨wb,wo,none⟩) wl wc))
  (hg:g<w.heap.size) (hwb:wb<w.heap.size) {t loc:Int} (ht:0<=t/\t<3) (hl:0<=loc/\loc<3) (hi0:0<=gB sp t loc) (hi:gB sp t loc<(wl:Int)) {A:Option Addr} {n cap:Nat} (hwi:w.cell? ⟨wb,wo+(gB sp t loc).toNat,none⟩=some (.slice A n cap))
  (BK:∀ W:World,Calls Tryz.prog 258 #[.slice A n cap] W λe w'=>e = .returned (.func (.func 260) #[] #[.pointer (some ⟨W.heap.size,0,none⟩)])/\w'=W.alloc (.cells #[.slice A n cap] 22))
  {K:Act->World->Prop} (h:K { tmps := #[.pointer (some ⟨g,o,none⟩),.int .i64 t,.int .i64 loc,undef,undef,.pointer (some ⟨w.heap.size,0,none⟩),.pointer (some ⟨w.heap.size+1,0,none⟩),undef,undef,.pointer (some ⟨g,o,none⟩),.pointer (some ⟨g,o,none⟩),.pointer (some ⟨g,o+17,none⟩),.slice (some ⟨wb,wo,none⟩) wl wc,.pointer (some ⟨g,o,none⟩),.int .i64 t,.int .i64 loc,.int .i64 (gB sp t loc),.pointer (some ⟨wb,wo+(gB sp t loc).toNat,none⟩),.slice A n cap,.func (.func 260) #[] #[.pointer (some ⟨w.heap.size+1+1,0,none⟩)],undef,undef,undef,undef,undef,undef,undef,undef,undef,undef,undef,undef,undef,undef,undef,undef],defers:=[] } (((w.alloc<|.cells #[.int .i64 loc] 3).alloc<|.cells #[.int .u8 0] 5).alloc<|.cells #[.slice A n cap] 22).drew) :
  Me.wp Tryz.prog (Exit.then K λ_ _ _=>False) { tmps := #[.pointer (some ⟨g,o,none⟩),.int .i64 t,.int .i64 loc,undef,undef,.pointer (some ⟨w.heap.size,0,none⟩),.pointer (some ⟨w.heap.size+1,0,none⟩),undef,undef,undef,undef,undef,undef,undef,undef,undef,undef,undef,undef,undef,undef,undef,undef,undef,undef,undef,undef,undef,undef,undef,undef,undef,undef,undef,undef,undef],defers:=[] } ((w.alloc<|.cells #[.int .i64 loc] 3).alloc<|.cells #[.int .u8 0] 5):=by
 obtain ⟨t1,t2⟩:=ht;obtain ⟨l1,l2⟩:=hl;have BU:∀ W:World,W.cell? ⟨g,o+16,none⟩=some (.bool sp)->Calls Tryz.prog 253 #[.pointer (some ⟨g,o,none⟩),.int .i64 t,.int .i64 loc] W λe w'=>e = .returned (.int .i64<|gB sp t loc)/\w'=W:=λW h=>Dz h ⟨t1,t2⟩ ⟨l1,l2⟩;have e:Me=Code.region 1 _ true:=rfl;rw [e]
 go_region_with (first
  | (go_at_call 253;refine (BU _ ?_).mono ?_;(exact (((((Below.refl w.heap.size w).alloc (SN _) _).alloc (by simp) _).drew).cell (p:=⟨g,o+16,none⟩) hg).trans hsp);rintro e w' ⟨rfl,rfl⟩)
  | (go_at_call 258;refine (BK _).mono ?_;rintro e w' ⟨rfl,rfl⟩))
 all_goals exact h
theorem JL {W:World} {g o LB RB:Nat} {t loc m:Int} (hl:0<=loc/\loc<3) (hc5:W.cell? ⟨LB,0,none⟩=some (.int .i64 loc)) (hc6:W.cell? ⟨RB,0,none⟩=some (.int .u8 0)) (hf6:W.frozen? ⟨RB,0,none⟩=false) (hm:W.cell? ⟨g,o+13+loc.toNat,none⟩=some (.int .u8 m)) {ds:List Deferred} {A9 A10 A11 A12 A13 A14 A15 A16 A17 A18 A19:Value}
  {K:Act->World->Prop} (h:K { tmps := #[.pointer (some ⟨g,o,none⟩),.int .i64 t,.int .i64 loc,undef,undef,.pointer (some ⟨LB,0,none⟩),.pointer (some ⟨RB,0,none⟩),undef,undef,A9,A10,A11,A12,A13,A14,A15,A16,A17,A18,A19,undef,undef,undef,undef,undef,undef,undef,undef,undef,.pointer (some ⟨g,o,none⟩),.int .i64 loc,.pointer (some ⟨g,o,none⟩),.pointer (some ⟨g,o,none⟩),.pointer (some ⟨g,o+13,none⟩),.pointer (some ⟨g,o+13+loc.toNat,none⟩),.int .u8 m],defers:=ds } (W.setCell ⟨RB,0,none⟩<|.int .u8 m).drew) :
  Mf.wp Tryz.prog (Exit.then K λ_ _ _=>False) { tmps := #[Value.pointer (some ⟨g,o,none⟩),.int .i64 t,.int .i64 loc,undef,undef,.pointer (some ⟨LB,0,none⟩),.pointer (some ⟨RB,0,none⟩),undef,undef,A9,A10,A11,A12,A13,A14,A15,A16,A17,A18,A19,undef,undef,undef,undef,undef,undef,undef,undef,undef,undef,undef,undef,undef,undef,undef,undef],defers:=ds } W:=by
 obtain ⟨l1,l2⟩:=hl;have e:Mf=Code.region 5 _ true:=rfl;rw [e]
 go_region
 all_goals exact h
open Go.RowKit Go.Shelf
theorem Bp (F:Fence) (n:Nat) (hf:F.fn 258) (hro:F.round=none) (a:Option Addr) (len cap:Nat) (w:World) :
  CallsIn F n Tryz.prog 258 #[.slice a len cap] w λe w'=>e = .returned (.func (.func 260) #[] #[.pointer (some ⟨w.heap.size,0,none⟩)])/\w'=w.alloc (.cells #[.slice a len cap] 22):=by
 refine callsIn_of_wp Tryz.func258 rfl hf ?_ hro;simp only [Tryz.ntmps258,SR,llc,SX,Tm,Tn,Tp,Tq,Tt,Te,Tu,Tv]
 gi_wp2
 go_ret
 exact ⟨rfl,rfl⟩
section
attribute [local go_sem] Oper.semAt_some
def tO {α:Type} (f:Nat->α) (k:Nat):List α:=(Tf k).map f
theorem tP {α:Type} (f:Nat->α) (k:Nat):tO f (k+1)=tO f k++[f k]:=by simp [tO,List.range_succ]
theorem zX {α:Type} (f:Nat->α) (k:Nat):(tO f k).length=k:=by simp [tO]
abbrev BX:={ x:Int×Int // 0<=x.2/\x.2<=255 }
def J1 (zs:LI):Prop:=∀ j:Nat,0<=zs[j]?.getD 0/\zs[j]?.getD 0<=255
def ol (zs:LI) (hz:J1 zs) (len k:Nat):BX:=⟨((len:Int)-1-k,zs[len-1-k]?.getD 0),hz _⟩
set_option maxHeartbeats 2000000 in
theorem Hp (F:Fence) (n:Nat) (h7:F.fn 260) (hro:F.round=none) (hn:1<=n) (l Bs n₀ b off len cap:Nat) (zs:LI) (hz:J1 zs) (hreach:len<=9223372036854775807) (hb:b<n₀) (J Jx:List BX->World->Prop)
  (hY:∀ pre x W,J pre W->pre.length<len->YieldAt F (n-1) Tryz.prog l #[.int .i64 x.1.1,.int .u8 x.1.2] W λe W'=>
   (e = .returned (.bool true)/\J (pre++[x]) W'/\Below n₀ W W')\/(e = .returned (.bool false)/\Jx (pre++[x]) W'))
  (W:World) (hBs:W.cell? ⟨Bs,0,none⟩=some (.slice (some ⟨b,off,none⟩) len cap)) (hBn:Bs<n₀) (hc:∀ j,j<len->W.cell? ⟨b,off+j,none⟩=some (.int .u8<|zs[j]?.getD 0)) (h0:J [] W) :
  CallsIn F n Tryz.prog 260 #[.func (.yield l) #[] #[],.pointer (some ⟨Bs,0,none⟩)] W λe W'=>(∃ v,e = .returned v) /\
   ((∃ ys,ys=tO (ol zs hz len) len/\J ys W')\/(∃ pre,(∃ k,k<=len/\pre=tO (ol zs hz len) k)/\Jx pre W')):=by
 refine callsIn_of_wp Tryz.func260 rfl h7 ?_ hro;simp only [Tryz.ntmps260,SR,llc,SX,Tm,Tn,Tp,Tq,Tt,Te,Tu,Tv]
 gi_wp2
 gi_loopw [3] (λi wr=>∃ k:Nat,k<=len/\i = .int .i64 ((len:Int)-1-k)/\J (tO (ol zs hz len) k) wr/\Below n₀ W wr)
  (λi _=>(intOf i+1).toNat)
 case atStart=>exact ⟨0,zZ9 _,by simp,h0,Below.refl _ _⟩
 case round=>
  obtain ⟨k,hk,rfl,hJs,hnx⟩:=hrel;have hcb:wr.cell? ⟨Bs,0,none⟩=some (.slice (some ⟨b,off,none⟩) len cap):=(hnx.cell (p:=⟨Bs,0,none⟩) hBn).trans hBs;have hcx:k<len->wr.cell? ⟨b,off+(len-1-k),none⟩=some (.int .u8<|zs[len-1-k]?.getD 0):=λh=>(hnx.cell (p:=⟨b,off+(len-1-k),none⟩) hb).trans<|hc _ (by omega)
  by_cases hlt:k<len
  ·obtain ⟨fn,tmps,assign,body,hy,hR⟩:=hY _ (ol zs hz len k) wr hJs (by rw [zX];exact hlt)
   dsimp only [ol] at hy
   have hcx':=hcx hlt;have hix:((len:Int)-1-k).toNat=len-1-k:=by omega
   gi_wp2
   refine hR.mono ?_;rintro e W3 (⟨rfl,hJ3,hk3⟩ | ⟨rfl,hJx3⟩)
   ·gi_wp2
    go_roundw
    case rel=>exact ⟨k+1,by omega,by simp;omega,by rw [tP];exact hJ3,hnx.trans hk3⟩
    case measure=>simp [intOf];omega
   gi_wp2
   refine bodyPost_ret (results_none rfl _ _ _) rfl ?_;exact ⟨⟨_,rfl⟩,.inr ⟨_,⟨k+1,by omega,(tP _ _).symm⟩,hJx3⟩⟩
  obtain rfl:k=len:=by omega
  gi_wp2
  go_end0
  exact ⟨⟨_,rfl⟩,.inl ⟨_,rfl,hJs⟩⟩
set_option maxHeartbeats 2000000 in
theorem Hq (F:Fence) (n:Nat) (h7:F.fn 260) (hro:F.round=none) (l Bs:Nat) (A:Option Addr) (cap:Nat) (J:List BX->World->Prop) (W:World) (hBs:W.cell? ⟨Bs,0,none⟩=some (.slice A 0 cap)) (h0:J [] W) :
  CallsIn F n Tryz.prog 260 #[.func (.yield l) #[] #[],.pointer (some ⟨Bs,0,none⟩)] W λe W'=>(∃ v,e = .returned v)/\J [] W':=by
 refine callsIn_of_wp Tryz.func260 rfl h7 ?_ hro;simp only [Tryz.ntmps260,SR,llc,SX,Tm,Tn,Tp,Tq,Tt,Te,Tu,Tv]
 gi_wp2
 gi_loopw [3] (λi wr=>i = .int .i64 (-1)/\J [] wr) (λ_ _=>0)
 case atStart=>exact ⟨rfl,h0⟩
 case round=>
  obtain ⟨rfl,hJs⟩:=hrel
  gi_wp2
  go_end0
  exact ⟨⟨_,rfl⟩,hJs⟩
end
def xX (n₀:Nat) (W:World) (A:Option Addr) (zs:LI):Prop:=0<zs.length->∃ b off,A=some ⟨b,off,none⟩/\b<n₀/\∀ j,j<zs.length->W.cell? ⟨b,off+j,none⟩=some (.int .u8<|zs[j]?.getD 0)
theorem xX.below {n₀:Nat} {V W:World} (h:Below n₀ V W) {A:Option Addr} {zs:LI} (hb:xX n₀ V A zs):xX n₀ W A zs:=λh0=>by
 obtain ⟨b,off,e,hb,hc⟩:=hb h0;exact ⟨b,off,e,hb,λj hj=>(h.cell (p:=⟨b,off+j,none⟩) hb).trans<|hc j hj⟩
theorem DC {zs:LI} {loc m:Int} (h:∀ z∈zs,z.tdiv 16≠loc):sO zs loc m=m:=by
 unfold sO;have : (zs.reverse.find? λb=>b.tdiv 16==loc)=none:=List.find?_eq_none.2 λz hz=>by
  have := h z<|List.mem_reverse.1 hz;simpa using this
 rw [this]
theorem Hr {zs:LI} {hz:J1 zs} {loc m:Int} {k:Nat} (hk:k+1<=zs.length) (h:(ol zs hz zs.length k).1.2.tdiv 16=loc) (hb:∀ j,j<k->(ol zs hz zs.length j).1.2.tdiv 16≠loc):sO zs loc m=(ol zs hz zs.length k).1.2.tmod 16:=by
 unfold sO;have hat:∀ (j:Nat) (hj:j<zs.reverse.length),zs.reverse[j]=(ol zs hz zs.length j).1.2:=λj hj=>by
  rw [TK] at hj;simp only [ol];rw [List.getElem_reverse,geq (by omega),Option.getD_some]
 have : (zs.reverse.find? λb=>b.tdiv 16==loc)=some (ol zs hz zs.length k).1.2:=by
  refine List.find?_eq_some_iff_getElem.2 ⟨by simpa using h,k,by rw [TK];omega,hat k _,λj hj=>?_⟩;rw [hat j _];simpa using hb j hj
 rw [this]
theorem DD (F:Fence) (n:Nat) (h7:F.fn 260) (hro:F.round=none) (hn:1<=n) (Bs n₀:Nat) (A:Option Addr) (cap:Nat) (zs:LI) (hz:J1 zs) (hreach:zs.length<=9223372036854775807) (w:World) (hBs:Bs<n₀) (hn₀:n₀<=w.heap.size)
  (hc:w.cell? ⟨Bs,0,none⟩=some (.slice A zs.length cap)) (hI:xX n₀ w A zs) :
  SeqStopsK F n Tryz.prog 260 #[.pointer (some ⟨Bs,0,none⟩)] (λx:BX => #[Value.int .i64 x.1.1,Value.int .u8 x.1.2]) (Below n₀) (λys=>ys=tO (ol zs hz zs.length) zs.length) (λpre=>∃ k,k<=zs.length/\pre=tO (ol zs hz zs.length) k) zs.length w:=λl J Jx W hW _ _ hY h0=>by
 have hc':=(hW.cell (p:=⟨Bs,0,none⟩)<|Nat.lt_of_lt_of_le hBs hn₀).trans hc
 by_cases h0l:0<zs.length
 ·obtain ⟨b,off,rfl,hb,hcs⟩:=hI.below (hW.mono hn₀) h0l;exact Hp F n h7 hro hn l Bs n₀ b off zs.length cap zs hz hreach hb J Jx hY W hc' hBs hcs h0
 have : zs=[]:=Tz (by omega);subst this;exact (Hq F n h7 hro l Bs A cap J W hc' h0).mono λe W' ⟨he,hj⟩=>⟨he,.inl ⟨_,rfl,hj⟩⟩
section
attribute [local go_sem] Oper.semAt_some
theorem JM (n:Nat) (hn:3<=n) {w:World} {g o:Nat} {sp:Bool} (hsp:w.cell? ⟨g,o+16,none⟩=some (.bool sp)) {wb wo wl wc:Nat} (hw:w.cell? ⟨g,o+17,none⟩=some (.slice (some ⟨wb,wo,none⟩) wl wc))
  (hg:g<w.heap.size) (hwb:wb<w.heap.size) {t loc:Int} (ht:0<=t/\t<3) (hl:0<=loc/\loc<3) (hi0:0<=gB sp t loc) (hi:gB sp t loc<(wl:Int)) {A:Option Addr} {zs:LI} {cap:Nat} (hwi:w.cell? ⟨wb,wo+(gB sp t loc).toNat,none⟩=some (.slice A zs.length cap))
  (hz:xX w.heap.size w A zs) (hreach:zs.length<=9223372036854775807) (hby:J1 zs) {m:Int} (hm:w.cell? ⟨g,o+13+loc.toNat,none⟩=some (.int .u8 m)) :
  CallsIn Fence.wide n Tryz.prog 252 #[.pointer (some ⟨g,o,none⟩),.int .i64 t,.int .i64 loc] w λe W'=>e = .returned (.int .u8<|sO zs loc m)/\Below w.heap.size w W':=by
 have h1:1<=n:=by omega
 have hro:Fence.wide.round=none:=rfl;have hF:∀ f,Fence.wide.fn f:=λ_=>trivial;have BK:∀ W:World,Calls Tryz.prog 258 #[.slice A zs.length cap] W λe w'=>e = .returned (.func (.func 260) #[] #[.pointer (some ⟨W.heap.size,0,none⟩)])/\w'=W.alloc (.cells #[.slice A zs.length cap] 22):=λW=>(callsIn_wide (n:=n)).1<|Bp Fence.wide n (hF _) rfl _ _ _ _;have bL:=Boxed.new w 3<|.int .i64 loc;have bR:=Boxed.new (w.alloc<|.cells #[.int .i64 loc] 3) 5<|.int .u8 0;have bN:=Boxed.new ((w.alloc<|.cells #[.int .i64 loc] 3).alloc<|.cells #[.int .u8 0] 5) 22<|.slice A zs.length cap;rw [World.size_alloc] at bR;rw [World.size_alloc,World.size_alloc] at bN;have hB0:Below w.heap.size w (((w.alloc<|.cells #[.int .i64 loc] 3).alloc<|.cells #[.int .u8 0] 5).alloc<|.cells #[.slice A zs.length cap] 22).drew:=((((Below.refl _ w).alloc (SN _) _).alloc (by simp) _).alloc (by simp;omega) _).drew;refine callsIn_of_wp_marks Tryz.func252 rfl (hF _) ?_ hro;simp only [Tryz.ntmps252,SR,llc,SX,Tm,Tn,Tp,Tq,Tt,Te,Tu,Tv]
 gi_wp2_with fail
 refine wpIn_wide.2<|wp_mono (JK hsp hw hg hwb ht hl hi0 hi hwi BK (K:=λa W=>a=_/\W=_) ⟨rfl,rfl⟩) ?_;intro e a W h
 cases e with
 | normal=>
  obtain ⟨rfl,rfl⟩:=h
  gi_wp2_with fail
  have hsz:(((w.alloc<|.cells #[.int .i64 loc] 3).alloc<|.cells #[.int .u8 0] 5).alloc<|.cells #[.slice A zs.length cap] 22).drew.heap.size=w.heap.size+1+1+1:=by simp
  have fL:(((w.alloc<|.cells #[.int .i64 loc] 3).alloc<|.cells #[.int .u8 0] 5).alloc<|.cells #[.slice A zs.length cap] 22).drew.cell? ⟨w.heap.size,0,none⟩=some (.int .i64 loc):=((bL.alloc _).alloc _).cell;have fR:(((w.alloc<|.cells #[.int .i64 loc] 3).alloc<|.cells #[.int .u8 0] 5).alloc<|.cells #[.slice A zs.length cap] 22).drew.cell? ⟨w.heap.size+1,0,none⟩=some (.int .u8 0):=(bR.alloc _).cell;have fF:(((w.alloc<|.cells #[.int .i64 loc] 3).alloc<|.cells #[.int .u8 0] 5).alloc<|.cells #[.slice A zs.length cap] 22).drew.frozen? ⟨w.heap.size+1,0,none⟩=false:=(bR.alloc _).frozen;have fN:(((w.alloc<|.cells #[.int .i64 loc] 3).alloc<|.cells #[.int .u8 0] 5).alloc<|.cells #[.slice A zs.length cap] 22).drew.cell? ⟨w.heap.size+1+1,0,none⟩=some (.slice A zs.length cap):=bN.cell;generalize (((w.alloc<|.cells #[.int .i64 loc] 3).alloc<|.cells #[.int .u8 0] 5).alloc<|.cells #[.slice A zs.length cap] 22).drew=W3 at hB0 hsz fL fR fF fN ⊢;refine wpIn_rangeFunc_ownG hro h1 (gf:=260) (lb:=#[.pointer (some ⟨w.heap.size+1+1,0,none⟩)]) rfl (hF _) (enters_of Tryz.func260 (by kernel_rfl) rfl) (DD Fence.wide (n-1) (hF _) hro (by omega) (w.heap.size+1+1) (w.heap.size+1+1+1) A cap zs hby hreach W3 (by omega) (by rw [hsz];exact SN _) fN (λh0=>by obtain ⟨b,off,e,hb,hc⟩:=hz.below hB0 h0;exact ⟨b,off,e,by omega,hc⟩)) belowK_t (belowK_b<|by rw [hsz];exact SN _) (Below.refl _ _) (λ_=>rfl) (λpre W=>((∀ x∈pre,x.1.2.tdiv 16≠loc)/\W.cell? ⟨w.heap.size,0,none⟩=some (.int .i64 loc)/\W.cell? ⟨w.heap.size+1,0,none⟩=some (.int .u8 0)/\W.frozen? ⟨w.heap.size+1,0,none⟩=false)/\Below w.heap.size w W) (λc pre W=>(c = .ret/\∃ ini last,pre=ini++[last]/\(∀ x∈ini,x.1.2.tdiv 16≠loc)/\last.1.2.tdiv 16=loc/\W.cell? ⟨w.heap.size+1,0,none⟩=some (.int .u8<|last.1.2.tmod 16))/\Below w.heap.size w W) (OwnFrom.and (Own.from (λs A B row hs hg hr=>⟨hs.1,cell_kept hs.2.1 hg hr,cell_kept hs.2.2.1 hg hr,(frozen_kept hs.2.2.1 hg hr).trans hs.2.2.2⟩) _)<|ownFrom_below (SN _)<|by rw [hsz];omega) (λc=>OwnFrom.and (Own.from (λs A B row hs hg hr=>by obtain ⟨hc,ini,last,e1,e2,e3,e4⟩:=hs;exact ⟨hc,ini,last,e1,e2,e3,cell_kept e4 hg hr⟩) _)<|ownFrom_below (SN _)<|by rw [hsz];omega) ⟨⟨by simp,fL,fR,fF⟩,hB0⟩ (λx=>{ tmps := #[.pointer (some ⟨g,o,none⟩),.int .i64 t,.int .i64 loc,undef,undef,.pointer (some ⟨w.heap.size,0,none⟩),.pointer (some ⟨w.heap.size+1,0,none⟩),undef,.int .u8 x.1.2,.pointer (some ⟨g,o,none⟩),.pointer (some ⟨g,o,none⟩),.pointer (some ⟨g,o+17,none⟩),.slice (some ⟨wb,wo,none⟩) wl wc,.pointer (some ⟨g,o,none⟩),.int .i64 t,.int .i64 loc,.int .i64 (gB sp t loc),.pointer (some ⟨wb,wo+(gB sp t loc).toNat,none⟩),.slice A zs.length cap,.func (.func 260) #[] #[.pointer (some ⟨w.heap.size+1+1,0,none⟩)],.int .i64 x.1.1,.int .u8 x.1.2,undef,undef,undef,undef,undef,undef,undef,undef,undef,undef,undef,undef,undef,undef],defers:=[] }) ?assign ?body ?done ?stop
  case assign=>
   intro l x W K hK
   gi_wp2
   exact hK
  case body=>
   rintro l pre ⟨⟨xi,xb⟩,hx1,hx2⟩ W ⟨⟨hp,hcl,hcr,hfr⟩,hB⟩ _;simp only at hx1 hx2
   gi_wp2
   ·have hx:(xb / 16==loc)=true:=by assumption
    have e1:xb.tdiv 16=loc:=(TM hx1).trans<|eq_of_beq hx;have e2:xb.tmod 16=xb % 16:=Int.tmod_eq_emod_of_nonneg hx1;exact ⟨(KeepsOthers.setCell _ _ _).from _,⟨rfl,pre,_,rfl,hp,e1,by simp only [e2];exact World.cell?_setCell_same' _ _ _<|by rw [hcr];rfl⟩,hB.setCell (p:=⟨w.heap.size+1,0,none⟩) (by simp) _⟩
   have hx:(xb / 16==loc)=false:=by assumption
   have e1:xb.tdiv 16≠loc:=λe=>by
    rw [TM hx1] at e;rw [e] at hx;simp at hx
   exact ⟨KeepsFrom.refl _ _,Below.refl _ _,⟨λx hx'=>(List.mem_append.1 hx').elim (hp x) (λe=>by rw [List.mem_singleton.1 e];exact e1),hcl,hcr,hfr⟩,hB⟩
  case done=>
   rintro D ys W hD rfl ⟨⟨hne,hcl,hcr,hfr⟩,hB⟩ hK;have hr:sO zs loc m=m:=DC λz hz'=>by
    obtain ⟨j,hj,rfl⟩:=List.getElem_of_mem hz';have := hne (ol zs hby zs.length<|zs.length-1-j) (by unfold tO;exact TA.2 ⟨_,TB.2 (by omega),rfl⟩);simp only [ol] at this
    rwa [show zs.length-1-(zs.length-1-j)=j by omega,geq hj,Option.getD_some] at this
   gi_wp2_with fail
   refine wpIn_wide.2<|wp_mono (JL hl hcl hcr hfr ((hB.cell (p:=⟨g,o+13+loc.toNat,none⟩) hg).trans hm) (K:=λa W=>a=_/\W=_) ⟨rfl,rfl⟩) ?_;intro e a V h
   cases e with
   | normal=>
    obtain ⟨rfl,rfl⟩:=h
    gi_wp2
    have hK':((W.setCell ⟨w.heap.size+1,0,none⟩<|.int .u8 m).drew).heap[D]? = some (.deferred<|some []):=(KeepsOthers.setCell W ⟨w.heap.size+1,0,none⟩<|.int .u8 m).same D _ hK rfl;refine ⟨by simp,.inl ⟨_,_,rfl,run_takeDeferred hK',?_⟩⟩;have hc4:(W.setCell ⟨w.heap.size+1,0,none⟩<|.int .u8 m).drew.cell? ⟨w.heap.size+1,0,none⟩=some (.int .u8 m):=World.cell?_setCell_same' W ⟨w.heap.size+1,0,none⟩ (.int .u8 m) (by rw [hcr];rfl);have hc5:=cell_kept hc4 (grownBy_putObj' _ D<|.deferred none) (λr e=>by cases e;exact ⟨_,hK',rfl⟩);refine ⟨.int .u8 m,?_,by rw [hr],((hB.setCell (p:=⟨w.heap.size+1,0,none⟩) (by simp) _).drew).trans<|belowK_b (w:=w) (SN _) _ D _ _ (by omega) hK' rfl rfl⟩;simp [results,Tryz.f252,go_sem,hc5]
   | _=>exact h.elim
  case stop=>
   rintro D c pre W hD ⟨k,hk,rfl⟩ ⟨⟨rfl,ini,last,e1,e2,e3,hcr⟩,hB⟩ hK
   gi_wp2
   refine ⟨by simp,.inl ⟨_,_,rfl,run_takeDeferred hK,?_⟩⟩;have hc5:=cell_kept hcr (grownBy_putObj' _ D<|.deferred none) (λr e=>by cases e;exact ⟨_,hK,rfl⟩);obtain ⟨k',rfl⟩:∃ k',k=k'+1:=by
    cases k with
    | zero=>simp [tO] at e1
    | succ k'=>exact ⟨k',rfl⟩
   rw [tP] at e1;obtain ⟨rfl,e5⟩:=List.append_inj' e1 rfl;obtain rfl:ol zs hby zs.length k'=last:=by simpa using e5
   have hr:sO zs loc m=((ol zs hby zs.length k').1.2).tmod 16:=Hr hk e3 λj hj=>e2 (ol zs hby zs.length j) (by unfold tO;exact TA.2 ⟨_,TB.2 hj,rfl⟩);refine ⟨.int .u8 _,?_,by rw [hr],hB.trans<|belowK_b (w:=w) (SN _) W D _ _ (by omega) hK rfl rfl⟩;simp [results,Tryz.f252,go_sem,hc5]
 | _=>exact h.elim
end
theorem JN {w:World} {fz:Nat->Prop} {row:List AV} {v:Value} (h:FRel w fz (.fp row 0) v):∃ (g o:Nat) (us:Nat->Value),v = .pointer (some ⟨g,o,none⟩)/\g<w.heap.size/\(∀ (j:Nat) (c:AV),row[j]? = some c->w.cell? ⟨g,o+j,none⟩=some (us j))/\∀ (j:Nat) (c:AV),row[j]? = some c->FRel w fz c (us j):=by
 cases h with
 | @fp _ _ g o us hg hlt hu h1 h=>exact ⟨g,o,us,rfl,hlt,hu,h⟩
theorem gdB {α:Type} {b:Bool} {x:Option α} {r:α} (h:gd b x=some r):b=true/\x=some r:=by
 cases b with
 | true=>exact ⟨rfl,h⟩
 | false=>cases h
theorem pu (s:aj) (t loc:Int) {q} (h:dR s t loc=some q):aW Tryz.prog 252 [.fp (aj.c s) 0,I t,I loc] (Y q):=by
 unfold dR at h;obtain ⟨⟨ht,hl⟩,h⟩:=gdD h;obtain ⟨hi,h⟩:=gdD h;obtain ⟨hby,h⟩:=gdB h;obtain rfl:=osl h;refine ⟨by kernel_rfl,λw fz vs hlt _ hvl hrel=>?_⟩;obtain ⟨u,v,x,rfl⟩:∃ u v x,vs = #[u,v,x]:=by
  obtain ⟨l⟩:=vs
  match l,hvl with
  | [u,v,x],_=>exact ⟨u,v,x,rfl⟩
 obtain ⟨g,o,us,rfl,hg,hu,hr⟩:=JN<|hrel 0 _ u rfl rfl;obtain rfl:v = .int .i64 t:=qB<|hrel 1 _ v rfl rfl;obtain rfl:x = .int .i64 loc:=qB<|hrel 2 _ x rfl rfl;have hsp:w.cell? ⟨g,o+16,none⟩=some (.bool s.split):=by
  have h1:=hu 16 _ rfl;rw [qB (hr 16 _ rfl)] at h1;exact h1
 have hi0:0<=gB s.split t loc:=by
  unfold gB
  cases s.split <;> simp only [cond_true,cond_false] <;> omega
 obtain ⟨xs,hxs,hxl,hxr⟩:=kK (f:=AA) (s:=1) (e:=id) (λ_=>rfl) (λ_=>rfl)<|hr 17 _ rfl;obtain ⟨A,ca,e17,hca,hma,hA⟩:=hxs;rw [llm] at hxl;obtain ⟨i,hie⟩:∃ i:Nat,gB s.split t loc=i:=⟨_,(Int.toNat_of_nonneg hi0).symm⟩;have hin:i<s.waits.length:=by omega
 obtain ⟨wb,wo,rfl,_,_,hwb,hcells⟩:=hA (by omega);have hix:i<xs.length:=by omega
 have hwi:=hcells i hix 0 xs[i] rfl;obtain ⟨A2,c2,e2,hc2,hm2,hA2⟩:=hxr i hix (by rw [llm];exact hin);have hrow:(s.waits.map λr=>r.map id)[i]'(by rw [llm];exact hin)=s.waits.getD i default:=by
  rw [List.getElem_map,List.map_id];simp [List.getD,hin]
 rw [hrow] at e2 hc2 hA2;rw [hie,tnn] at hby ⊢;have hw17:w.cell? ⟨g,o+17,none⟩=some (.slice (some ⟨wb,wo,none⟩) xs.length ca):=by
  rw [<- e17];exact hu 17 _ rfl
 have hm:w.cell? ⟨g,o+13+loc.toNat,none⟩=some (.int .u8<|Z3b.get s.values.mem loc):=by
  have : loc=0\/loc=1\/loc=2:=by omega
  rcases this with rfl | rfl | rfl
  ·have h1:=hu 13 _ rfl;rw [qB (hr 13 _ rfl)] at h1;exact h1
  ·have h1:=hu 14 _ rfl;rw [qB (hr 14 _ rfl)] at h1;exact h1
  have h1:=hu 15 _ rfl;rw [qB (hr 15 _ rfl)] at h1;exact h1
 have hAll:J1 (s.waits.getD i default):=λj=>by
  cases e:(s.waits.getD i default)[j]? with
  | none=>exact ⟨by decide,by decide⟩
  | some b=>exact of_decide_eq_true (List.all_eq_true.1 hby b<|List.mem_of_getElem? e)
 have hB:xX w.heap.size w A2 (s.waits.getD i default):=λh0=>by
  obtain ⟨b,off,e,_,_,hlt',hc⟩:=hA2 h0;refine ⟨b,off,e,hlt',λj hj=>?_⟩;have := hc j hj 0 _ rfl;rw [Tw,S9] at this;rw [this,geq hj]
  rfl
 refine ((callsIn_wide (n:=3)).1<|JM 3 (by omega) hsp hw17 hg hwb ht hl hi0 (by omega) (A:=A2) (zs:=s.waits.getD i default) (cap:=c2) ?_ hB (by omega) hAll hm).mono λe w' ⟨he,hb⟩ => ?_
 ·rw [hie,tnn,<- e2];rw [Tw,S9] at hwi;exact hwi
 exact ⟨_,fz,he,hb,.v Z,λg hg=>hg,λg hg => .inl hg,λg hg=>Nat.lt_of_lt_of_le (hlt g hg) hb.size⟩
section
variable {P:Program}
theorem rU (w:World) (dT sT ty elem:TypeId) {i:TypeInfo} (hi:P.info? elem=some i) (g o dLen dCap:Nat) (a:Addr) (sLen sCap:Nat) (cur:Array Value) (t:TypeId) (fr:Nat×Nat) (cs:List Value)
  (hu:P.underlying dT=some (.slice elem)) (hg:w.heap[g]? = some (.cells cur t fr)) (hfr:∀ i,i<cur.size -> ¬ (fr.1<=i/\i<fr.2)) (hn:cs.length=SU sLen dLen*i.size)
  (hsrc:∀ j v,cs[j]? = some v->w.cell? (a.add j)=some v) (hfit:o+cs.length<=cur.size) (h1:∀ v∈cs,v.oneCell'=true) :
  (Builtin.copy_ #[dT,sT] ty #[.slice (some ⟨g,o,none⟩) dLen dCap,.slice (some a) sLen sCap]).run P w =
   .ok (goInt<|SU sLen dLen) (w.setRow g (cur.toList.take o++cs++cur.toList.drop (o+cs.length)).toArray):=by
 have hl:=run_loadCells_list (P:=P) w a cs hsrc;have hst:=dN (P:=P) g o t fr cs 0 cur w hg hfr (by simpa using hfit) h1;simp [Builtin.copy_,run_underlying hu,Builtin.lenOf,Builtin.firstCells,sizeOf,typeInfo,hi,<- hn,hl,hst]
theorem yM (w:World) (tS tR e:TypeId) (ht:P.underlying tS=some (.slice e)) (size:Nat) (hz:∀ w,(Go.sizeOf e).run P w = .ok size w)
  (a b:Addr) (la ca lb cb:Nat) (hne:a.block≠b.block) (tA tB:TypeId) (kA kB:Nat)
  (hsa:w.shape? a.block=some (tA,kA)) (hsb:w.shape? b.block=some (tB,kB)) (hkA:kA≠0)
  (hfb:w.frozen? b=false) (hfe:w.frozen? { block:=b.block,off:=kB }=false) :
  (Extern.SlicesOverlaps.overlaps #[tS,tS] #[tR] #[.slice (some a) la ca,.slice (some b) lb cb]).run P w = .ok (.bool false) w:=by
 have hnb:(a.block != b.block)=true:=by simpa using hne
 have hnb':(a.block==b.block)=false:=by simpa using hne
 change Sem.run P (α:=Value) (do
  let some t := (#[tS,tS] : Array TypeId)[0]? | stuck "slices.overlaps: no parameter types"
  let .slice elem <- underlying t | stuck "slices.overlaps: slice type expected"
  let size <- sizeOf elem
  match (some a:Option Addr),(some b:Option Addr) with
  | some a,some b=>
   if la=0\/lb=0\/size=0 then pure (Value.bool false)
   else if a.block != b.block&&(<- frozen a)&&(<- frozen b) then unsupported .addressObserved
   else do
    if a.block != b.block then do
     noView a;noView b
     if <- mayBeOne a b then return Value.bool ((<- choose (.extern "sameAddr.stringBytes" 2)) == 1)
    pure (Value.bool<|a.block==b.block&&a.off<b.off+lb*size&&b.off<a.off+la*size)
  | _,_=>pure (Value.bool false)) w=_
 by_cases h0:la=0\/lb=0\/size=0
 ·simp [run_underlying ht,hz,h0]
 cases kA with
 | zero=>exact absurd rfl hkA
 | succ kA=>
  cases hfa:w.frozen? a <;> cases hfk:w.frozen? { block:=a.block,off:=kA+1 } <;>
   simp [run_underlying ht,hz,h0,hnb,hnb',frozen,noView,viewAt,mayBeOne,stringish,shape,Sem.run,hsa,hsb,hfa,hfb,hfe,hfk]
end
theorem Hs:∃ i0:TypeInfo,∃ z:Value,Tryz.prog.info? 134=some i0/\i0.size=5/\i0.bytes=5/\i0.zero=some z/\z.cells.size=5:=by
 have h1:(Tryz.prog.info? 134).map (λi=>(i.size,i.bytes,i.zero.map λz=>z.cells.size))=some (5,5,some 5):=by kernel_rfl
 cases hi:Tryz.prog.info? 134 with
 | none=>simp [hi] at h1
 | some i0=>
  rw [hi] at h1;simp only [Tx,sie,Prod.mk.injEq] at h1;obtain ⟨e1,e2,e3⟩:=h1;obtain ⟨z,hz,hs⟩:=Tg.1 e3;exact ⟨i0,z,rfl,e1,e2,hz,hs⟩
def wu (cs2:Array Value) (o:Nat) (cur:Array Value) (off n i:Nat) (V:List Value):Prop:=
 ∀ q,q<(n+1)*5->cs2[o+q]? = if q<i*5 then cur[off+q]? else if q<i*5+5 then V[q-i*5]? else cur[off+q-5]?
section
variable {w:World} {b off n c vb voff vc:Nat} {cur:Array Value} {fr:Nat×Nat} {V:List Value}
theorem yN (hat:w.heap[b]? = some (.cells cur 134 fr)) (hfr:∀ i,i<=cur.size -> ¬ (fr.1<=i/\i<fr.2)) (hroom:n+1<=c) (hfit:off+c*5<=cur.size) (hbig:n<=1000)
  (hV:V.length=5) (hvs:∀ j v,V[j]? = some v->w.cell? ⟨vb,voff+j,none⟩=some v) (h1v:∀ v∈V,v.oneCell'=true) :
  Calls Tryz.prog 228 #[.slice (some ⟨b,off,none⟩) n c,.int .i64 n,.slice (some ⟨vb,voff,none⟩) 1 vc] w λe w'=>
   e = .returned (.slice (some ⟨b,off,none⟩) (n+1) c)/\∃ cs2:Array Value,cs2.size=cur.size/\wu cs2 off cur off n n V/\w'=w.setRow b cs2:=by
 obtain ⟨i0,z,hi0,hs5,hb5,hz,hz5⟩:=Hs;have hl:=run_loadCells_list (P:=Tryz.prog) w ⟨vb,voff,none⟩ V (λj v hj=>by rw [Addr.add_lit];exact hvs j v hj);have hst:=dN (P:=Tryz.prog) b (off+n*5) 134 fr V 0 cur w hat (λi hi=>hfr i<|Nat.le_of_lt hi) (by omega) h1v;obtain ⟨C,hC⟩:∃ C,C=(cur.toList.take (off+n*5)++V++cur.toList.drop (off+n*5+V.length)).toArray:=⟨_,rfl⟩;rw [S9,<- hC] at hst;have hrun:∀ ty,(Builtin.append_ #[127,127] ty #[.slice (some ⟨b,off,none⟩) n c,.slice (some ⟨vb,voff,none⟩) 1 vc]).run Tryz.prog w = .ok (.slice (some ⟨b,off,none⟩) (n+1) c) (w.setRow b C):=λty=>by
  refine nA (m:=1) (news:=V.toArray) (w':=w.setRow b C) Tryz.underlying127 (.inl ⟨_,Tryz.underlying127⟩) hi0 (by simp [Builtin.lenOf]) ?_ hroom (λh=>nomatch h) λa ha=>?_
  ·rw [hV] at hl;simp [Builtin.firstCells,hs5,hl]
  injection ha with ha;subst ha;rw [hs5,Addr.add_lit];exact hst
 have hle:off+n*5+V.length<=cur.toList.length:=by rw [hV,SL];omega
 have hsz:C.size=cur.size:=by
  have := l8 cur.toList (off+n*5) V hle;rw [hC,SR,this,SL]
 have hIns:wu C off cur off n n V:=by
  intro q hq;have hg:=nz cur.toList (off+n*5) V hle<|off+q;rw [hC,SY,hg,hV]
  by_cases h1:q<n*5
  ·rw [if_neg (by omega),if_pos h1,SS]
  rw [if_pos (by omega),if_neg h1,if_pos (by omega)]
  congr 1
  omega
 clear hC hst hl hle hvs
 go_enter Tryz.func228,Tryz.ntmps228
 go_wp2_with (at_builtin;refine Lib.wpList_append_run _ rfl _ _ _ _ rfl _ _ rfl rfl _ _ (hrun _) ?_)
 go_ret
 exact ⟨rfl,C,hsz,hIns,rfl⟩
theorem yO (hat:w.heap[b]? = some (.cells cur 134 fr)) (j:Nat):w.cell? ⟨b,j,none⟩=cur[j]? := by simp [World.cell?,hat]
theorem yP (hat:w.heap[b]? = some (.cells cur 134 fr)) (hroom:c<n+1) (hnc:n<=c) (hfit:off+c*5<=cur.size) (hbig:n<=1000)
  (hV:V.length=5) (hvs:∀ j v,V[j]? = some v->w.cell? ⟨vb,voff+j,none⟩=some v) :
  Calls Tryz.prog 228 #[.slice (some ⟨b,off,none⟩) n c,.int .i64 n,.slice (some ⟨vb,voff,none⟩) 1 vc] w λe w'=>
   ∃ nc,n+1<=nc/\nc<=9223372036854775807/\e = .returned (.slice (some ⟨w.heap.size,0,none⟩) (n+1) nc)/\∃ cs2:Array Value,nc*5<=cs2.size/\wu cs2 0 cur off n n V/\w'=w.drew.alloc (.cells cs2 134):=by
 obtain ⟨i0,z,hi0,hs5,hb5,hz,hz5⟩:=Hs;have hl:=run_loadCells_list (P:=Tryz.prog) w.drew ⟨vb,voff,none⟩ V (λj v hj=>by rw [Addr.add_lit];exact hvs j v hj);obtain ⟨O,hO⟩:∃ O,O=(cur.toList.drop off).take (n*5):=⟨_,rfl⟩;have hOl:O.length=n*5:=by rw [hO,Ta,Tc,SL];omega
 have hOg:∀ j,j<n*5->O[j]? = cur[off+j]? := λj hj=>by rw [hO,Ti,if_pos hj,SZ,SS]
 have hlo:=run_loadCells_list (P:=Tryz.prog) w.drew ⟨b,off,none⟩ O (λj v hj=>by
  rw [Addr.add_lit];show w.cell? _=_;rw [yO hat,<- hOg j (by rw [<- hOl];exact (ges hj).1),hj])
 rw [hV] at hl;rw [hOl] at hlo;obtain ⟨nc,h1,h2,hrun0⟩:=kr (P:=Tryz.prog) (w:=w) (t:=127) (u:=127) (ty:=127) (e:=134) Tryz.underlying127 (.inl ⟨_,Tryz.underlying127⟩) hi0 hz (A:=some ⟨b,off,none⟩) (n:=n) (cap:=c) (m:=1) (x:=.slice (some ⟨vb,voff,none⟩) 1 vc) (olds:=O.toArray) (news:=V.toArray)
  (by simp [Builtin.lenOf]) (by simp [Builtin.firstCells,hs5,hlo]) (by simp [Builtin.firstCells,hs5,hl]) hroom (by omega) (by rw [hb5];omega)
 obtain ⟨C,hC⟩:∃ C,C=O.toArray++V.toArray++Builtin.zeroCells z.cells (nc-(n+1)):=⟨_,rfl⟩;rw [<- hC] at hrun0;have hsz:nc*5<=C.size:=by
  rw [hC,S0,S0,dQ,hz5,SR,SR,hOl,hV];omega
 have hIns:wu C 0 cur off n n V:=by
  intro q hq;have e:C[0+q]? = (O++V)[q]? := by
   rw [hC,TC,Tj (by simp [hOl,hV];omega),Te,SY]
  rw [e]
  by_cases h3:q<n*5
  ·rw [if_pos h3,gal (by omega),hOg q h3]
  rw [if_neg h3,if_pos (by omega),gar (by omega),hOl]
 have hrun:∀ ty,(Builtin.append_ #[127,127] ty #[.slice (some ⟨b,off,none⟩) n c,.slice (some ⟨vb,voff,none⟩) 1 vc]).run Tryz.prog w = .ok (.slice (some ⟨w.heap.size,0,none⟩) (n+1) nc) (w.drew.alloc<|.cells C 134):=λty=>hrun0;clear hC hl hlo hz hz5 hOg hOl hO hvs hat hrun0
 go_enter Tryz.func228,Tryz.ntmps228
 go_wp2_with (at_builtin;refine Lib.wpList_append_run _ rfl _ _ _ _ rfl _ _ rfl rfl _ _ (hrun _) ?_)
 go_ret
 exact ⟨nc,h1,h2,rfl,C,hsz,hIns,rfl⟩
theorem CB {w:World} {g k:Nat} {v:Value} (h:w.cell? ⟨g,k,none⟩=some v):∃ t n,w.shape? g=some (t,n)/\n≠0:=by
 unfold World.cell? at h;unfold World.shape?
 split at h
 ·rename_i cs t f hh;simp only at hh;rw [hh];refine ⟨_,cs.size,rfl,λe=>?_⟩;have := (TD.1 h).1;omega
 all_goals simp_all
theorem DF {i:Nat} (hat:w.heap[b]? = some (.cells cur 134 fr)) (hfr:∀ i,i<=cur.size -> ¬ (fr.1<=i/\i<fr.2)) (hi:i<n) (hroom:n+1<=c) (hfit:off+c*5<=cur.size) (hc63:c<=9223372036854775807) (hbig:n<=1000) (hvb:vb≠b)
  (h1c:∀ j v,off<=j->j<off+n*5->cur[j]? = some v->v.oneCell'=true)
  (hV:V.length=5) (hvs:∀ j v,V[j]? = some v->w.cell? ⟨vb,voff+j,none⟩=some v) (h1v:∀ v∈V,v.oneCell'=true) :
  Calls Tryz.prog 228 #[.slice (some ⟨b,off,none⟩) n c,.int .i64 i,.slice (some ⟨vb,voff,none⟩) 1 vc] w λe w'=>
   e = .returned (.slice (some ⟨b,off,none⟩) (n+1) c)/\∃ cs2:Array Value,cs2.size=cur.size/\wu cs2 off cur off n i V/\w'=w.drew.setRow b cs2:=by
 obtain ⟨i0,z,hi0,hs5,hb5,hz,hz5⟩:=Hs;obtain ⟨M,hM⟩:∃ M,M=(cur.toList.drop<|off+i*5).take ((n-i)*5):=⟨_,rfl⟩;have hMl:M.length=(n-i)*5:=by rw [hM,Ta,Tc,SL];omega
 have hMg:∀ j,j<(n-i)*5->M[j]? = cur[off+i*5+j]? := λj hj=>by rw [hM,Ti,if_pos hj,SZ,SS]
 have hle1:off+(i+1)*5+M.length<=cur.toList.length:=by rw [hMl,SL];omega
 obtain ⟨C1,hC1⟩:∃ C,C=(cur.toList.take (off+(i+1)*5)++M++cur.toList.drop (off+(i+1)*5+M.length)).toArray:=⟨_,rfl⟩;have hz1:C1.size=cur.size:=by rw [hC1,SR,l8 cur.toList _ M hle1,SL]
 have hg1:∀ q,C1[q]? = if off+(i+1)*5<=q/\q<off+(i+1)*5+M.length then M[q-(off+(i+1)*5)]? else cur[q]? := λq=>by rw [hC1,SY,nz cur.toList _ M hle1 q,SS (xs:=cur)]
 have hle2:off+i*5+V.length<=C1.toList.length:=by rw [hV,SL,hz1];omega
 obtain ⟨C2,hC2⟩:∃ C,C=(C1.toList.take (off+i*5)++V++C1.toList.drop (off+i*5+V.length)).toArray:=⟨_,rfl⟩;have hz2:C2.size=cur.size:=by rw [hC2,SR,l8 C1.toList _ V hle2,SL,hz1]
 have hg2:∀ q,C2[q]? = if off+i*5<=q/\q<off+i*5+V.length then V[q-(off+i*5)]? else C1[q]? := λq=>by rw [hC2,SY,nz C1.toList _ V hle2 q,SS (xs:=C1)]
 have hcp1:∀ ty dc sc,(Builtin.copy_ #[127,127] ty #[.slice (some ⟨b,off+(i+1)*5,none⟩) (n+1-(i+1)) dc,.slice (some ⟨b,off+i*5,none⟩) (n+1-i) sc]).run Tryz.prog w.drew = .ok (goInt<|SU (n+1-i)<|n+1-(i+1)) (w.drew.setRow b C1):=λty dc sc=>by
  rw [hC1];refine rU w.drew _ _ ty 134 hi0 b _ _ _ ⟨b,off+i*5,none⟩ _ _ cur 134 fr M Tryz.underlying127 hat (λi hi=>hfr i<|Nat.le_of_lt hi) ?_ (λj v hj=>?_) (by rw [<- SL];exact hle1) λv hv=>?_
  ·rw [hMl,hs5]
   congr 1
   simp only [Ty]
   split <;> omega
  ·have hj2:=(ges hj).1;rw [Addr.add_lit];show w.cell? _=_;rw [yO hat,<- hMg j (by omega),hj]
  obtain ⟨j,hj⟩:=TE hv;have hj2:=(ges hj).1;rw [hMg j (by omega)] at hj;exact h1c _ v (by omega) (by omega) hj
 obtain ⟨W1,hW1⟩:∃ W1,W1=w.drew.setRow b C1:=⟨_,rfl⟩;have hat1:W1.heap[b]? = some (.cells C1 134 fr):=by rw [hW1];exact setRow_heap w.drew b cur C1 _ fr hat
 have hcp2:∀ ty dc,(Builtin.copy_ #[127,127] ty #[.slice (some ⟨b,off+i*5,none⟩) (n+1-i) dc,.slice (some ⟨vb,voff,none⟩) 1 vc]).run Tryz.prog W1 = .ok (goInt<|SU 1<|n+1-i) (W1.setRow b C2):=λty dc=>by
  rw [hC2];refine rU W1 _ _ ty 134 hi0 b _ _ _ ⟨vb,voff,none⟩ _ _ C1 134 fr V Tryz.underlying127 hat1 (λi hi=>hfr i<|by omega) ?_ (λj v hj=>?_) (by rw [<- SL];exact hle2) h1v
  ·rw [hV,hs5];have : SU 1 (n+1-i)=1:=by simp only [Ty];split <;> omega
   rw [this]
  rw [Addr.add_lit,hW1];have := hvs j v hj;rw [<- this];simp only [World.cell?,World.setRow];rw [S5,if_neg (Ne.symm hvb)]
  rfl
 have hend:W1.setRow b C2=w.drew.setRow b C2:=by rw [hW1,setRow_setRow]
 rw [hend] at hcp2;rw [<- hW1] at hcp1;have hvsh:=CB<|hvs 0 _<|geq (by omega);obtain ⟨tA,kA,hsa,hkA⟩:=hvsh;have hov:∀ lb cb,(callFunc 230 #[.slice (some ⟨vb,voff,none⟩) 1 vc,.slice (some ⟨b,off+(i+1)*5,none⟩) lb cb]).run Tryz.prog w = .ok (.value<|.bool false) w:=λlb cb=>by
  rw [run_callFunc_extern Tryz.func230 (by kernel_rfl) (by kernel_rfl) (by kernel_rfl) (e:=Extern.SlicesOverlaps.overlaps #[127,127] #[4]) (by kernel_rfl),
   yM w 127 4 134 Tryz.underlying127 5 Tryz.sizeOf134 ⟨vb,voff,none⟩ ⟨b,off+(i+1)*5,none⟩ 1 vc lb cb hvb tA 134 kA cur.size hsa (by simp [World.shape?,hat]) hkA (by simp [World.frozen?,hat];have := hfr (off+(i+1)*5) (by omega);omega) (by simp [World.frozen?,hat];have := hfr cur.size (SN _);omega)]
  rfl
 have hIns:wu C2 off cur off n i V:=by
  intro q hq;rw [hg2,hg1,hV,hMl]
  by_cases h1:q<i*5
  ·rw [if_neg (by omega),if_neg (by omega),if_pos h1]
  rw [if_neg h1]
  by_cases h2:q<i*5+5
  ·rw [if_pos (by omega),if_pos h2]
   congr 1
   omega
  rw [if_neg (by omega),if_pos (by omega),if_neg h2,hMg _ (by omega)]
  congr 1
  omega
 clear hend hg2 hg1 hC2 hC1 hat1 hsa hMg hM hvs hat;clear hW1 hle1 hle2;have hi2 : ¬ ((i:Int)=(n:Int)):=by omega
 have hi3 : ¬ ((c:Int)<(n:Int)+1):=by omega
 have mixed:Tryz.prog.follows .mixedOrders=true:=by kernel_rfl
 have hw1:IntKind.i64.wrap ((i:Int)+1)=(i:Int)+1:=by rw [IntKind.wrap_i64];omega
 have hb1:(0:Int)<=(i:Int)+1:=by omega
 have htn:((i:Int)+1).toNat=i+1:=by omega
 have hb2 : ¬ (c=i+1):=by omega
 have hb3:(i:Int)<=(n:Int):=by omega
 have hb4 : ¬ (c=i):=by omega
 have hb5:(i:Int)<=(n:Int)+1:=by omega
 go_enter Tryz.func228,Tryz.ntmps228
 go_wp2_with (simp only [hov])
 go_region_law_o (refine step_copy_runI rfl _ _ 127 127 rfl (.slice (some ⟨b,off+(i+1)*5,none⟩) (n+1-(i+1))<|c-(i+1)) (.slice (some ⟨b,off+i*5,none⟩) (n+1-i)<|c-i) (by simp [Act.eval,Act.put]) (by simp [Act.eval,Act.put]) (hcp1 _ _ _) ?_)
 go_wp2_with (at_builtin;refine wpList_copy_runI _ rfl _ _ 127 127 rfl _ _ rfl rfl (hcp2 _ _) ?_)
 go_ret
 exact ⟨rfl,C2,hz2,hIns,rfl⟩
theorem JO (w:World) (a c:Array Value) (ty:TypeId):(w.alloc<|.cells a ty).setRow w.heap.size c=w.alloc (.cells c ty):=by
 unfold World.setRow World.alloc
 congr 1
 apply Array.ext_getElem?;intro k;rw [S5];simp only [Array.getElem?_push]
 by_cases h:k=w.heap.size
 ·subst h;simp
 rw [if_neg (Ne.symm h),if_neg h,if_neg h]
theorem FR {i:Nat} (hat:w.heap[b]? = some (.cells cur 134 fr)) (hi:i<n) (hnc:n<=c) (hroom:c<n+1) (hfit:off+c*5<=cur.size) (hbig:n<=1000)
  (h1c:∀ j v,off<=j->j<off+n*5->cur[j]? = some v->v.oneCell'=true)
  (hV:V.length=5) (hvs:∀ j v,V[j]? = some v->w.cell? ⟨vb,voff+j,none⟩=some v) (h1v:∀ v∈V,v.oneCell'=true) :
  Calls Tryz.prog 228 #[.slice (some ⟨b,off,none⟩) n c,.int .i64 i,.slice (some ⟨vb,voff,none⟩) 1 vc] w λe w'=>
   ∃ nc,n+1<=nc/\nc<=9223372036854775807/\e = .returned (.slice (some ⟨w.heap.size,0,none⟩) (n+1) nc)/\∃ cs2:Array Value,nc*5<=cs2.size/\wu cs2 0 cur off n i V/\w'=w.drew.drew.alloc (.cells cs2 134):=by
 obtain ⟨i0,z,hi0,hs5,hb5,hz,hz5⟩:=Hs;have hbw:b<w.heap.size:=(TD.1 hat).1;have hvw:vb<w.heap.size:=by
  obtain ⟨_,_,h,_⟩:=CB<|hvs 0 _<|geq (by omega);unfold World.shape? at h
  split at h
  ·rename_i hh;exact (TD.1 hh).1
  cases h
 obtain ⟨O,hO⟩:∃ O,O=(cur.toList.drop off).take (i*5):=⟨_,rfl⟩;have hOl:O.length=i*5:=by rw [hO,Ta,Tc,SL];omega
 have hOg:∀ j,j<i*5->O[j]? = cur[off+j]? := λj hj=>by rw [hO,Ti,if_pos hj,SZ,SS (xs:=cur)]
 have hlo:=run_loadCells_list (P:=Tryz.prog) w.drew ⟨b,off,none⟩ O (λj v hj=>by
  rw [Addr.add_lit];show w.cell? _=_;rw [yO hat,<- hOg j (by rw [<- hOl];exact (ges hj).1),hj])
 rw [hOl] at hlo;have hik:i+(n+1-i)=n+1:=by omega
 have hkk:(n:Int)+1-(i:Int)=((n+1-i:Nat):Int):=by omega
 obtain ⟨G,hG⟩:∃ G,G=grownCap w (n+1) c 134:=⟨_,rfl⟩;have hGn:n+1<=G:=by rw [hG];exact grownCap_ge w _ _ _
 have hG63:G<=9223372036854775807:=by
  have := grownCap_le_maxLen w (n+1) c 134 (by unfold maxLen;omega);rw [<- hG] at this;unfold maxLen at this;omega
 obtain ⟨R,hR⟩:∃ R:Array Value,R=O.toArray++Builtin.zeroCells z.cells (n+1-i)++Builtin.zeroCells z.cells (G-(n+1)):=⟨_,rfl⟩;have hRs:R.size=G*5:=by
  rw [hR,S0,S0,dQ,dQ,hz5,SR,hOl];omega
 have hRg:∀ j,j<i*5->R[j]? = cur[off+j]? := λj hj=>by
  rw [hR,Tj (by simp [hOl];omega),Tj (by simp [hOl];omega),SY,hOg j hj]
 have hrz:∀ ty,(Builtin.append_ #[127,3] ty #[.slice (some ⟨b,off,none⟩) i c,.int .i64 ((n:Int)+1-(i:Int))]).run Tryz.prog w =
   .ok (.slice (some ⟨w.heap.size,0,none⟩) (n+1) G) (w.drew.alloc<|.cells R 134):=λty=>by
  have h:=Lib.run_append_grow_zeros (P:=Tryz.prog) w 127 3 ty 134 i0 z .i64 .i64 Tryz.underlying127 Tryz.underlying3 hi0 hz (some ⟨b,off,none⟩) i c O (by simp [Builtin.firstCells,hs5,hlo]) (n+1-i) (by omega) (by omega) (by omega) (by omega) (by rw [hb5];omega) (by rw [hb5,hik];exact growslice_fits hroom<|by omega);rw [hik,<- hG,<- hR] at h;rw [hkk];exact h
 obtain ⟨M,hM⟩:∃ M,M=(cur.toList.drop<|off+i*5).take ((n-i)*5):=⟨_,rfl⟩;have hMl:M.length=(n-i)*5:=by rw [hM,Ta,Tc,SL];omega
 have hMg:∀ j,j<(n-i)*5->M[j]? = cur[off+i*5+j]? := λj hj=>by rw [hM,Ti,if_pos hj,SZ,SS (xs:=cur)]
 have hle1:i*5+V.length<=R.toList.length:=by rw [hV,SL,hRs];omega
 obtain ⟨C1,hC1⟩:∃ C,C=(R.toList.take (i*5)++V++R.toList.drop (i*5+V.length)).toArray:=⟨_,rfl⟩;have hz1:C1.size=R.size:=by rw [hC1,SR,l8 R.toList _ V hle1,SL]
 have hg1:∀ q,C1[q]? = if i*5<=q/\q<i*5+V.length then V[q-i*5]? else R[q]? := λq=>by rw [hC1,SY,nz R.toList _ V hle1 q,SS (xs:=R)]
 have hle2:(i+1)*5+M.length<=C1.toList.length:=by rw [hMl,SL,hz1,hRs];omega
 obtain ⟨C2,hC2⟩:∃ C,C=(C1.toList.take ((i+1)*5)++M++C1.toList.drop ((i+1)*5+M.length)).toArray:=⟨_,rfl⟩;have hz2:C2.size=R.size:=by rw [hC2,SR,l8 C1.toList _ M hle2,SL,hz1]
 have hg2:∀ q,C2[q]? = if (i+1)*5<=q/\q<(i+1)*5+M.length then M[q-(i+1)*5]? else C1[q]? := λq=>by rw [hC2,SY,nz C1.toList _ M hle2 q,SS (xs:=C1)]
 obtain ⟨W1,hW1⟩:∃ W1,W1=w.drew.alloc (.cells R 134):=⟨_,rfl⟩;rw [<- hW1] at hrz;have hN:w.heap.size=w.drew.heap.size:=rfl;have hat1:W1.heap[w.heap.size]? = some (.cells R 134 (0,0)):=by rw [hW1];exact heap_alloc_new w.drew _
 have hOld:∀ g j,g<w.heap.size->W1.cell? ⟨g,j,none⟩=w.cell? ⟨g,j,none⟩:=λg j hg=>by
  rw [hW1,World.cell?_alloc_past (w:=w.drew) _ g j hg]
  rfl
 have hcp1:∀ ty dc,(Builtin.copy_ #[127,127] ty #[.slice (some ⟨w.heap.size,i*5,none⟩) (n+1-i) dc,.slice (some ⟨vb,voff,none⟩) 1 vc]).run Tryz.prog W1 = .ok (goInt<|SU 1<|n+1-i) (W1.setRow w.heap.size C1):=λty dc=>by
  rw [hC1];refine rU W1 _ _ ty 134 hi0 _ _ _ _ ⟨vb,voff,none⟩ _ _ R 134 (0,0) V Tryz.underlying127 hat1 (λi _=>by omega) ?_ (λj v hj=>?_) (by rw [<- SL];exact hle1) h1v
  ·rw [hV,hs5];have : SU 1 (n+1-i)=1:=by simp only [Ty];split <;> omega
   rw [this]
  rw [Addr.add_lit,hOld _ _ hvw];exact hvs j v hj
 obtain ⟨W2,hW2⟩:∃ W2,W2=W1.setRow w.heap.size C1:=⟨_,rfl⟩;rw [<- hW2] at hcp1;have hat2:W2.drew.heap[w.heap.size]? = some (.cells C1 134 (0,0)):=by rw [hW2];exact setRow_heap W1 _ R C1 _ _ hat1
 have hOld2:∀ g j,g<w.heap.size->W2.drew.cell? ⟨g,j,none⟩=w.cell? ⟨g,j,none⟩:=λg j hg=>by
  rw [<- hOld g j hg,hW2];show World.cell? (W1.setRow w.heap.size C1) _=_;simp only [World.cell?,World.setRow];rw [S5,if_neg (by omega)]
 have hcp2:∀ ty dc sc,(Builtin.copy_ #[127,127] ty #[.slice (some ⟨w.heap.size,(i+1)*5,none⟩) (n+1-(i+1)) dc,.slice (some ⟨b,off+i*5,none⟩) (n-i) sc]).run Tryz.prog W2.drew = .ok (goInt<|SU (n-i)<|n+1-(i+1)) (W2.drew.setRow w.heap.size C2):=λty dc sc=>by
  rw [hC2];refine rU W2.drew _ _ ty 134 hi0 _ _ _ _ ⟨b,off+i*5,none⟩ _ _ C1 134 (0,0) M Tryz.underlying127 hat2 (λi _=>by omega) ?_ (λj v hj=>?_) (by rw [<- SL];exact hle2) λv hv=>?_
  ·rw [hMl,hs5]
   congr 1
   simp only [Ty]
   split <;> omega
  ·have hj2:=(ges hj).1;rw [Addr.add_lit,hOld2 _ _ hbw,yO hat,<- hMg j (by omega),hj]
  obtain ⟨j,hj⟩:=TE hv;have hj2:=(ges hj).1;rw [hMg j (by omega)] at hj;exact h1c _ v (by omega) (by omega) hj
 have hend:W2.drew.setRow w.heap.size C2=w.drew.drew.alloc (.cells C2 134):=by
  rw [hW2];show (((W1.setRow w.heap.size C1).setRow w.heap.size C2).drew)=_;rw [setRow_setRow,hW1];exact congrArg World.drew<|JO w.drew R C2 134
 rw [hend] at hcp2;have hsz:G*5<=C2.size:=by rw [hz2,hRs];exact SN _
 have hIns:wu C2 0 cur off n i V:=by
  intro q hq;rw [TC,hg2,hg1,hV,hMl]
  by_cases h1:q<i*5
  ·rw [if_neg (by omega),if_neg (by omega),if_pos h1,hRg q h1]
  rw [if_neg h1]
  by_cases h2:q<i*5+5
  ·rw [if_neg (by omega),if_pos (by omega),if_pos h2]
  rw [if_pos (by omega),if_neg h2,hMg _ (by omega)]
  congr 1
  omega
 have hGi : ¬ (G=i):=by omega
 have hGim : ¬ (G=i+1):=by omega
 have hci : ¬ (c=i):=by omega
 clear hend hg2 hg1 hC2 hC1 hat1 hat2 hMg hM hvs hat hW1 hW2 hOld hOld2 hlo hO hOg hOl hG hR hRg hRs hz1 hz2 hle1 hle2 hN hkk hik hi0 hz hz5 hs5 hb5;have hi2 : ¬ ((i:Int)=(n:Int)):=by omega
 have hi3:(c:Int)<(n:Int)+1:=by omega
 have mixed:Tryz.prog.follows .mixedOrders=true:=by kernel_rfl
 have hw1:IntKind.i64.wrap ((i:Int)+1)=(i:Int)+1:=by rw [IntKind.wrap_i64];omega
 have hb1:(0:Int)<=(i:Int)+1:=by omega
 have htn:((i:Int)+1).toNat=i+1:=by omega
 have hb3:(i:Int)<=(n:Int):=by omega
 have hb5':(i:Int)<=(n:Int)+1:=by omega
 go_enter Tryz.func228,Tryz.ntmps228
 go_wp2_with (first
  | (at_builtin;refine Lib.wpList_append_run _ rfl _ _ _ _ rfl _ _ rfl rfl _ _ (hrz _) ?_)
  | (at_builtin;refine wpList_copy_runI _ rfl _ _ 127 127 rfl _ _ rfl rfl (hcp1 _ _) ?_))
 go_region_law_o (refine step_copy_runI rfl _ _ 127 127 rfl (.slice (some ⟨w.heap.size,(i+1)*5,none⟩) (n+1-(i+1))<|G-(i+1)) (.slice (some ⟨b,off+i*5,none⟩) (n-i)<|c-i) (by simp [Act.eval,Act.put]) (by simp [Act.eval,Act.put]) (hcp2 _ _ _) ?_)
 go_wp2
 go_ret
 exact ⟨G,hGn,hG63,rfl,C2,hsz,hIns,rfl⟩
end
def Cx.dr (c:Cx) (m:Nat):Cx:={ c with w:={ c.w with drawn:=m } }
theorem Cx.dr_ext (c:Cx) (m:Nat):Ext c (c.dr m):=⟨rfl,rfl,rfl,SN _,λ_ _ _=>rfl,λ_ h=>h,λ_ h => .inl h,SN _,λ_ _ h=>h,λ_ _ _ _ h=>h,λb k h => .inr ⟨b,k,h,rfl⟩⟩
theorem Cx.dr_rel {c:Cx} (h:HRel c) (m:Nat):HRel (c.dr m) where
 gl:=h.glx<|c.dr_ext m
 lt:=h.lt
 blk:=λb k hl=>by
  obtain ⟨cs,fr,hB⟩:=h.blk b k hl;exact ⟨cs,fr,⟨hB.at_,hB.nf,hB.pos,hB.free,hB.fits,hB.len,λi row j a h1 h2=>by
   obtain ⟨u,g1,g2,g3⟩:=hB.rel i row j a h1 h2;exact ⟨u,g1,g2,g3.ext h (c.dr_ext m)⟩⟩⟩
 inj:=h.inj
theorem BRel.dr {c:Cx} (h:HRel c) {b:Nat} {k:ABlk} {cs:Array Value} {fr:Option (Nat×Nat)} (hB:BRel c b k cs fr) (m:Nat):BRel (c.dr m) b k cs fr:=
 ⟨hB.at_,hB.nf,hB.pos,hB.free,hB.fits,hB.len,λi row j a h1 h2=>by
  obtain ⟨u,g1,g2,g3⟩:=hB.rel i row j a h1 h2;exact ⟨u,g1,g2,g3.ext h (c.dr_ext m)⟩⟩
theorem zY {c:Cx} {b:Nat} {s:List ai} {x:ai} {m ver:Nat} {cur cs2:Array Value} {fr:Option (Nat×Nat)} {V:List Value} {o:Nat} (hB:BRel c b ⟨ver,5,134,s.map ai.c⟩ cur fr) (hm:m<=s.length)
  (hx:∀ (j:Nat) (a:AV),(ai.c x)[j]? = some a->∃ u,V[j]? = some u/\u.oneCell'=true/\c.rel a u) (hI:wu cs2 o cur (c.φ b).2 s.length m V) :
  ∀ (i:Nat) (row:List AV) (j:Nat) (a:AV),((s.take m++[x]++s.drop m).map ai.c)[i]? = some row->row[j]? = some a->∃ u,cs2[o+i*5+j]? = some u/\u.oneCell'=true/\c.rel a u:=by
 intro i row j a hi hj;have hl:(s.take m).length=m:=by rw [Ta];omega
 have hil:i<s.length+1:=by
  have := (ges hi).1;simp only [llm,lla,llc,SX,Tc,hl] at this;omega
 have hr5:∀ {y:ai},(ai.c y)[j]? = some a->j<5:=λ{y} h=>by
  have := (ges h).1;rw [ai.len] at this;exact this
 obtain ⟨y,hy,rfl⟩:∃ y,(s.take m++[x]++s.drop m)[i]? = some y/\ai.c y=row:=by
  rw [SV] at hi;exact Tg.1 hi
 have h5:=hr5 hj;have hq:=hI (i*5+j) (by omega);rw [<- Nat.add_assoc] at hq;rw [hq]
 by_cases h1:i<m
 ·rw [if_pos (by omega)];rw [Td,gal (by omega),Ti,if_pos h1] at hy;have := hB.rel i (ai.c y) j a (by simp only [SV,hy,Tx]) hj;rw [<- Nat.add_assoc];exact this
 rw [if_neg (by omega)]
 by_cases h2:i=m
 ·subst h2;rw [if_pos (by omega),show i*5+j-i*5=j by omega];rw [Td,gar (by omega),hl,Nat.sub_self] at hy;obtain rfl:x=y:=by simpa using hy
  exact hx j a hj
 rw [if_neg (by omega)];rw [gar (by rw [lla,hl];simp;omega),lla,hl,SZ] at hy;simp only [llc,SX] at hy;have := hB.rel (i-1) (ai.c y) j a (by rw [SV,show i-1=m+(i-(m+(0+1))) by omega,hy];rfl) hj;rw [show (c.φ b).2+(i*5+j)-5=(c.φ b).2+(i-1)*5+j by omega];exact this
theorem Ht {s:List ai} {x:ai} {m:Nat} (hm:m<=s.length):(s.take m++[x]++s.drop m).length=s.length+1:=by
 simp only [lla,Ta,llc,SX,Tc];omega
theorem dB (s:List ai) (i:Int) (v:List ai) (gw:Bool) (bI:Nat) (hgw:gw=true->s=[]) {q} (h:cK s i v=some q) :
  cQ Tryz.prog 228 [hS gw 0 bI 5 s.length,I i,eL ai.c v] [bE gw bI 5 134 (s.map ai.c)] (zx 5 134 (λx=>x) q.length (q.map ai.c) 0 []):=by
 obtain ⟨⟨⟨hi0,hin⟩,hn,hbig,hv1⟩,h⟩:=gdD h;obtain rfl:=osl h;obtain rfl:gw=false:=by
  cases gw with
  | false=>rfl
  | true=>rw [hgw rfl] at hn;exact absurd hn (by simp)
 obtain ⟨x,rfl⟩:∃ x,v=[x]:=List.length_eq_one_iff.1 hv1;obtain ⟨m,rfl⟩:=Int.eq_ofNat_of_zero_le hi0;have hm:m<=s.length:=by omega
 refine ⟨by kernel_rfl,λc vs hH hr hall=>?_⟩;obtain ⟨hsz,hrel⟩:=hall;obtain ⟨u,k,y,rfl⟩:∃ u k y,vs = #[u,k,y]:=by
  match vs,hsz with
  | ⟨[u,k,y]⟩,_=>exact ⟨u,k,y,rfl⟩
 have hu:c.rel (.hs 0 bI 5 0 s.length) u:=hrel 0 _ u rfl rfl;have hk:=hrel 1 _ k rfl rfl;have hy:=hrel 2 _ y rfl rfl;obtain ⟨rfl,_⟩:=eu hk;have hH:c.H=[some ⟨bI,5,134,s.map ai.c⟩]:=hH;have hlv:c.live 0 ⟨bI,5,134,s.map ai.c⟩:=by
  unfold Cx.live;rw [hH]
  rfl
 obtain ⟨cur,fr0,hB⟩:=hr.blk 0 _ hlv
 cases hu with
 | fr h=>cases h
 | @hs _ _ _ _ _ cap A hb hc hmx h0 h=>
 obtain ⟨f,rfl,hat,hhd⟩:=hB.cells hlv λx hx=>(h x hx).1;obtain ⟨_,_,h3,h4⟩:=h _ hhd;have hA:=h3 (by omega);simp only [Nat.zero_mul,S9] at hA h4;subst hA;have hy:=nT hy
 cases hy with
 | @sl _ vc sx vb vo _ yA us hyc hym hya hys hyu hy1 hyr=>
 obtain ⟨rfl,hfz,hlt⟩:=hya (by simp);obtain rfl:sx=5:=(hys 0<|by simp).symm;have hvb:vb≠(c.φ 0).1:=λe=>hB.nf<|e ▸ hfz;have hget:∀ j,j<5->∃ a,(ai.c x)[j]? = some a:=λj hj=>⟨_,geq<|by rw [ai.len];exact hj⟩;obtain ⟨V,hV⟩:∃ V,V=(Tf 5).map (us 0):=⟨_,rfl⟩;have hVl:V.length=5:=by rw [hV];simp
 have hVg:∀ j,j<5->V[j]? = some (us 0 j):=λj hj=>by rw [hV,SV,List.getElem?_range hj];rfl
 have hVi:∀ j v,V[j]? = some v->j<5/\v=us 0 j:=λj v hj=>by
  have h5:j<5:=by rw [<- hVl];exact (ges hj).1
  rw [hVg j h5] at hj;exact ⟨h5,(osl hj).symm⟩
 have hvs:∀ j v,V[j]? = some v->c.w.cell? ⟨vb,vo+j,none⟩=some v:=λj v hj=>by
  obtain ⟨h5,rfl⟩:=hVi j v hj;obtain ⟨a,ha⟩:=hget j h5;have := hyu 0 j a (by simp) ha;simpa using this
 have h1v:∀ v∈V,v.oneCell'=true:=λv hv=>by
  obtain ⟨j,hj⟩:=TE hv;obtain ⟨h5,rfl⟩:=hVi j v hj;obtain ⟨a,ha⟩:=hget j h5;exact hy1 0 j a (by simp) ha
 have hxr:∀ (j:Nat) (a:AV),(ai.c x)[j]? = some a->∃ u,V[j]? = some u/\u.oneCell'=true/\c.rel a u:=λj a ha=>by
  have h5:j<5:=by
   have := (ges ha).1
   rwa [ai.len] at this
  exact ⟨_,hVg j h5,hy1 0 j a (by simp) ha,.fr<|hyr 0 j a (by simp) ha⟩
 have hfr:∀ i,i<=cur.size -> ¬ (f.1<=i/\i<f.2):=λi hi=>hB.free f rfl i (by simp only;omega);have h1c:∀ j v,(c.φ 0).2<=j->j<(c.φ 0).2+s.length*5->cur[j]? = some v->v.oneCell'=true:=λj v hj1 hj2 hj=>by
  obtain ⟨p,r,hp,hr5,rfl⟩:∃ p r,p<s.length/\r<5/\j=(c.φ 0).2+p*5+r:=⟨(j-(c.φ 0).2) / 5,(j-(c.φ 0).2) % 5,by omega,by omega,by omega⟩;obtain ⟨a,ha⟩:∃ a,(ai.c s[p])[r]? = some a:=⟨_,geq (show r<(ai.c s[p]).length by have := ai.len s[p];omega)⟩;obtain ⟨u,g1,g2,_⟩:=hB.rel p _ r a (by rw [SV,geq hp];rfl) ha;simp only at g1;rw [hj] at g1;exact osl g1 ▸ g2
 have hlen:=Ht (x:=x) hm;have hrl:∀ (i:Nat) (row:List AV),((s.take m++[x]++s.drop m).map ai.c)[i]? = some row->row.length=5:=λi row hi=>by
  rw [SV] at hi;obtain ⟨y,_,rfl⟩:=Tg.1 hi;exact ai.len y
 have stay:∀ (d:Nat) (cs2:Array Value),s.length+1<=cap->cs2.size=cur.size->wu cs2 (c.φ 0).2 cur (c.φ 0).2 s.length m V->∃ c' r,c'.w={ c.w with drawn:=d }.setRow (c.φ 0).1 cs2/\zx 5 134 (λx=>x) (s.take m++[x]++s.drop m).length ((s.take m++[x]++s.drop m).map ai.c) 0 [] r c'.H/\HRel c'/\Ext c c'/\c'.rel r (.slice (some ⟨(c.φ 0).1,(c.φ 0).2,none⟩) (s.length+1) cap):=by
  intro d cs2 hroom hsz2 hI;have hr1:=Cx.dr_rel hr d;have hB1:=BRel.dr hr hB d;have hlv1:(c.dr d).live 0 ⟨bI,5,134,s.map ai.c⟩:=hlv;have hext:=Cx.upd_ext (k:=⟨bI+1,5,134,(s.take m++[x]++s.drop m).map ai.c⟩) (o:=((c.dr d).φ 0).2) (cs:=cs2) hr1 hlv1 hB1 hsz2<|.inr (by simp);have hfit2:((c.dr d).φ 0).2+((s.take m++[x]++s.drop m).map ai.c).length*5<=cs2.size:=by
   rw [llm,hlen,hsz2];show (c.φ 0).2+_<=_;omega
  have hrel2:=Cx.upd_rel (k:=⟨bI+1,5,134,(s.take m++[x]++s.drop m).map ai.c⟩) (o:=((c.dr d).φ 0).2) (cs:=cs2) hr1 hlv1 hB1 hsz2 rfl hext (by simp) hfit2 hrl (λi row j a h1 h2=>by
   obtain ⟨u,g1,g2,g3⟩:=zY hB hm hxr hI i row j a h1 h2;exact ⟨u,g1,g2,g3.ext hr (c.dr_ext d)⟩)
  refine ⟨_,.hs 0 (bI+1) 5 0<|s.length+1,Z,⟨false,bI+1,nofun,by rw [hlen];rfl,?_⟩,hrel2,(c.dr_ext d).trans hext,?_⟩
  ·show c.H.set 0 _=_;rw [hH]
   rfl
  have hl2:=Cx.upd_live_self (k:=⟨bI+1,5,134,(s.take m++[x]++s.drop m).map ai.c⟩) (p:=(((c.dr d).φ 0).1,((c.dr d).φ 0).2)) (cs:=cs2) hlv1;exact F8 (k:=⟨bI+1,5,134,(s.take m++[x]++s.drop m).map ai.c⟩) hl2 (cs:=cs2) (t:=134) (fr:=f) (by
   rw [Cx.upd_φ_self];exact setRow_heap _ _ cur cs2 _ f hat) (by simp only [llm,hlen];exact SN _) hroom hmx (λ_=>by rw [Cx.upd_φ_self];rfl) (by
   rw [Cx.upd_φ_self,hsz2];exact h4)
 have move:∀ (d nc:Nat) (cs2:Array Value),s.length+1<=nc->nc<=9223372036854775807->nc*5<=cs2.size->wu cs2 0 cur (c.φ 0).2 s.length m V->∃ c' r,c'.w={ c.w with drawn:=d }.alloc (.cells cs2 134)/\zx 5 134 (λx=>x) (s.take m++[x]++s.drop m).length ((s.take m++[x]++s.drop m).map ai.c) 0 [] r c'.H/\HRel c'/\Ext c c'/\c'.rel r (.slice (some ⟨c.w.heap.size,0,none⟩) (s.length+1) nc):=by
  intro d nc cs2 hnc hnc2 hsz2 hI;have hr1:=Cx.dr_rel hr d;have hlv1:(c.dr d).live 0 ⟨bI,5,134,s.map ai.c⟩:=hlv;have hext:=Cx.mov_ext (k:=⟨bI+1,5,134,(s.take m++[x]++s.drop m).map ai.c⟩) (cs:=cs2) hr1 hlv1 (by simp);have hrel2:=Cx.mov_rel (k:=⟨bI+1,5,134,(s.take m++[x]++s.drop m).map ai.c⟩) (cs:=cs2) hr1 hlv1 (by simp) (by simp) (by rw [llm,hlen];show _*5<=_;omega) hrl (λi row j a h1 h2=>by
   obtain ⟨u,g1,g2,g3⟩:=zY hB hm hxr hI i row j a h1 h2;rw [TC] at g1;exact ⟨u,g1,g2,g3.ext hr (c.dr_ext d)⟩)
  refine ⟨_,.hs 0 (bI+1) 5 0<|s.length+1,Z,⟨false,bI+1,nofun,by rw [hlen];rfl,?_⟩,hrel2,(c.dr_ext d).trans hext,?_⟩
  ·show c.H.set 0 _=_;rw [hH]
   rfl
  have hl2:=Cx.mov_live_self (k:=⟨bI+1,5,134,(s.take m++[x]++s.drop m).map ai.c⟩) (cs:=cs2) hlv1;exact F8 (k:=⟨bI+1,5,134,(s.take m++[x]++s.drop m).map ai.c⟩) hl2 (cs:=cs2) (t:=134) (fr:=(0,0)) (by
   rw [Cx.mov_φ_self];exact heap_alloc_new (c.dr d).w _) (by simp only [llm,hlen];exact SN _) hnc hnc2 (λ_=>by rw [Cx.mov_φ_self];rfl) (by
   rw [Cx.mov_φ_self];simpa using hsz2)
 by_cases hroom:s.length+1<=cap
 ·by_cases he:m=s.length
  ·subst he;refine (yN hat hfr hroom h4 hbig hVl hvs h1v).mono ?_;rintro e w' ⟨rfl,cs2,h5,h6,rfl⟩;obtain ⟨c',r,e1,e2,e3,e4,e5⟩:=stay c.w.drawn cs2 hroom h5 h6;exact ⟨_,c',r,Z,e1,e2,e3,e4,e5⟩
  refine (DF hat hfr (by omega) hroom h4 hmx hbig hvb h1c hVl hvs h1v).mono ?_;rintro e w' ⟨rfl,cs2,h5,h6,rfl⟩;obtain ⟨c',r,e1,e2,e3,e4,e5⟩:=stay (c.w.drawn+1) cs2 hroom h5 h6;exact ⟨_,c',r,Z,e1,e2,e3,e4,e5⟩
 by_cases he:m=s.length
 ·subst he;refine (yP hat (by omega) hc h4 hbig hVl hvs).mono ?_;rintro e w' ⟨nc,h5,h6,rfl,cs2,h7,h8,rfl⟩;obtain ⟨c',r,e1,e2,e3,e4,e5⟩:=move (c.w.drawn+1) nc cs2 h5 h6 h7 h8;exact ⟨_,c',r,Z,e1,e2,e3,e4,e5⟩
 refine (FR hat (by omega) hc (by omega) h4 hbig h1c hVl hvs h1v).mono ?_;rintro e w' ⟨nc,h5,h6,rfl,cs2,h7,h8,rfl⟩;obtain ⟨c',r,e1,e2,e3,e4,e5⟩:=move (c.w.drawn+1+1) nc cs2 h5 h6 h7 h8;exact ⟨_,c',r,Z,e1,e2,e3,e4,e5⟩
open Go.RowKit Go.WideShapes Go.ChangeShapes Go.Deep
section
variable {H:Type} {enc:TypeId×Value->H} {P:Program}
theorem yQ {f:Func} {s:ChangeSpec} {apart fresh handsOn again:Bool} {W W':World} {args:Array Value} {v:Value} {ds gs:List (DataW H)} {before pa pv:List MemPlace}
  (hW:DataW.Whole enc P f.params.toList s.vars apart W args.toList ds gs before)
  (hres:∀ (b:Nat) (sp:Nat->Bool) (hd:Bool),DataW.TrodAll enc P W' b sp hd f.resultTypes.toList (v.resultList f.resultTypes.size) (s.fn H<|ds++gs).results [])
  (hargs:∀ sp:Nat->Bool,(∀ p∈before,sp p.block=true)->DataW.TrodAll enc P W' 0 sp true f.params.toList args.toList (s.fn H<|ds++gs).args pa)
  (hvars:∀ sp:Nat->Bool,(∀ p∈before,sp p.block=true)->DataW.TrodVars enc P W' sp s.vars (s.fn H<|ds++gs).vars pv)
  (hps:before=pa++pv) (hb:Below W.heap.size W W')
  (hok:∀ (j:Nat) (t:TypeId) (r:Value),f.resultTypes[j]? = some t->(v.resultList f.resultTypes.size)[j]? = some r->Value.okWide P W' .any 0 t r) :
  s.post enc P f apart fresh handsOn again W args v W':=by
 have hlt:∀ p∈before,p.block<W.heap.size:=λp hp=>hW.lt p hp;have hold:∀ p∈before,(λb=>decide<|b<W.heap.size) p.block=true:=λp hp=>by simpa using hlt p hp
 refine ⟨ds,gs,before,[],pa,pv,hW,hres _ _ _,hargs _ hold,hvars _ hold,World.keptBut_mono (λp hp=>⟨hp,?_⟩) (hb.frame (· ∈ before)),λ_=>?_⟩
 ·rw [hps,List.mem_append] at hp;exact Or.inr hp
 obtain ⟨_,_,_,_,_,hz,hn⟩:=hW;refine ⟨hok,_,_,([]++pa)++pv,⟨[]++pa,pv,trodAll_append (hargs _ λ_ _=>rfl)<|hres _ _ _,hvars _ λ_ _=>rfl,rfl,?_,?_⟩,?_⟩
 ·intro b off hp;have hin:MemPlace.cell b off∈before:=by rw [hps];simpa using hp
  rw [hb.frozen (hlt _ hin)];exact hz b off hin
 ·intro ha;have := hn ha;rw [hps] at this;simpa using this
 intro p hp _;rw [hps];simpa using hp
theorem rV (hl:laidOutB P=true) {W W':World} (hb:Below W.heap.size W W') {sp:Nat->Bool}:∀ (ts:List TypeId) (vs:List Value) (ds:List<|DataW H) (ps:List MemPlace),
  (∀ t∈ts,P.readableRec t=true/\t<P.types.size)->DataW.TrodAll enc P W 0 (λ_=>true) true ts vs ds ps->(∀ x∈ps,x.block<W.heap.size)->(∀ x∈ps,sp x.block=true) ->
  DataW.TrodAll enc P W' 0 sp true ts vs ds ps
 | [],[],[],_,_,h,_,_=>h
 | t::ts,v::vs,d::ds,ps,hr,⟨p,q,h1,h2,hpq⟩,hlt,hs=>by
  subst hpq;have hp:∀ x∈p,x.block<W.heap.size:=λx hx=>hlt x (TP _ hx);exact ⟨p,q,WideElems.Trod_stays hl (hr t (by simp)).1 (hr t (by simp)).2 h1 (λx hx=>hb.same (hp x hx)) (λx hx=>hs x (TP _ hx)),
   rV hl hb ts vs ds q (λt ht=>hr t (List.mem_cons_of_mem _ ht)) h2 (λx hx=>hlt x (TQ _ hx)) (λx hx=>hs x (TQ _ hx)),rfl⟩
 | [],_::_,_,_,_,h,_,_=>(by cases h)
 | [],[],_::_,_,_,h,_,_=>(by cases h)
 | _::_,[],_,_,_,h,_,_=>(by cases h)
 | _::_,_::_,[],_,_,h,_,_=>(by cases h)
variable {w:World} {spare:Nat->Bool} {held:Bool}
theorem Hu {α:Type} {f:α->List Value} {s:Nat} {t e:TypeId} (hs:P.cellsOf e=s) (hs0:0<s) (ht:P.underlying t=some (.slice e)) {Good:α->Prop}
  (hel:∀ (fuel:Nat) (cs:List Value) (x:DataW H×List MemPlace),DataW.trod enc P w 0 spare held fuel e cs=some x->∃ a,cs=f a/\Good a) {fuel:Nat} {cs:List Value} {x:DataW H×List MemPlace}
  (h:DataW.trod enc P w 0 spare held fuel t cs=some x):∃ v,cs=[v]/\∃ xs:List α,Sl f s w 0 w.heap.size v xs/\∀ y∈xs,Good y:=by
 rcases open_slice ht h with ⟨rfl,_⟩ | ⟨a,len,cap,m,n,D,Pl,rfl,_,hl,hm,hmm,_,hi⟩
 ·exact ⟨_,rfl,[],Sl.uW _ _ (by omega),λy hy=>absurd hy<|by simp⟩
 refine ⟨_,rfl,?_⟩;have hlm:len<=m:=by rw [hmm];split <;> omega
 have key:∀ i,i<len->∃ y:α,Good y/\∀ (j:Nat) (u:Value),(f y)[j]? = some u->w.cell? ((a.add<|i*s).add j)=some u:=by
  intro i hil;obtain ⟨cs',hc,ht'⟩:=hi i (by omega);obtain ⟨y,rfl,hg⟩:=hel _ _ _ ht';obtain ⟨_,hcl,hat⟩:=World.cells?_some hc;rw [hs] at hat hcl;exact ⟨y,hg,λj u hu=>by
   have hj:j<s:=by
    have := (ges hu).1;omega
   rw [hat j hj];exact hu⟩
 have key2:∀ i,i<len->∃ cs',w.cells? 0 (a.add<|i*s) s=some cs':=by
  intro i hil;obtain ⟨cs',hc,_⟩:=hi i (by omega);rw [hs] at hc;exact ⟨cs',hc⟩
 clear hi;simp only [maxLen] at hm
 by_cases hn:0<len
 ·obtain ⟨cs0,hc0⟩:=key2 0 hn;obtain ⟨_,hcl,hat⟩:=World.cells?_some hc0;have h00:=hat 0 hs0;rw [geq (by omega)] at h00;have hspot:=World.cell?_spot h00;obtain ⟨b,o,sp⟩:=a;have hsp:sp=none:=by simpa [Addr.add] using hspot
  subst hsp;have hb:b<w.heap.size:=by
   have := World.block_lt_of_cell? w _ h00;simpa [mO] using this
  have hch:∃ F:Nat->α,∀ i,i<len->Good (F i)/\∀ (j:Nat) (u:Value),(f<|F i)[j]? = some u->w.cell? (((⟨b,o,none⟩:Addr).add<|i*s).add j)=some u:=by
   obtain ⟨y0,_⟩:=key 0 hn;refine ⟨λi=>if h:i<len then (key i h).choose else y0,λi hil=>?_⟩;simp only [dif_pos hil];exact (key i hil).choose_spec
  obtain ⟨F,hF⟩:=hch;refine ⟨(Tf len).map F,⟨_,cap,by simp,by simpa using hl,by omega,λ_=>⟨b,o,rfl,zZ9 _,hb,hb,λk hk j u hu=>?_⟩⟩,λy hy=>?_⟩
  ·have hk':k<len:=by simpa using hk
   have := (hF k hk').2 j u (by simpa using hu)
   rwa [mO,mO] at this
  rw [TA] at hy;obtain ⟨i,hi,rfl⟩:=hy;exact (hF i<|by simpa using hi).1
 have h0:len=0:=by omega
 subst h0;exact ⟨[],Sl.uW _ _ (by omega),λy hy=>absurd hy<|by simp⟩
theorem Lb {t:TypeId} {k:IntKind} (ht:P.underlying t=some (.int k)) (fuel:Nat) (cs:List Value) (x:DataW H×List MemPlace) (h:DataW.trod enc P w 0 spare held fuel t cs=some x) :
  ∃ a:Int,cs=[.int k a]/\(Lit.int k a).wf=true:=by
 obtain ⟨n,h1,_,h3⟩:=DataW.trod_int ht h;exact ⟨n,h1,h3⟩
end
theorem one_cell {v u:Value} (h:v.cells.toList=[u]) (hv:∃ a len cap,v = .slice a len cap):v=u:=by
 obtain ⟨a,len,cap,rfl⟩:=hv;simpa [Value.cells] using h
open Go.ChangeShapes Go.WideShapes Go.ChangeAt Go.RowKit Go.Sort
theorem ww {w:World} {blk off g:Nat} {d:Array Int} (h:g≠blk):(putRow (Value.int .i64) w blk off d).heap[g]? = w.heap[g]? := by
 show (w.heap.modify blk _)[g]? = _;rw [S5,if_neg (Ne.symm h)]
theorem wy {w:World} {blk off:Nat} {d:Array Int} {cs:Array Value} {t:TypeId} {fr:Nat×Nat} (h:w.heap[blk]? = some (.cells cs t fr)):(putRow (Value.int .i64) w blk off d).heap[blk]? = some (.cells (putCells (Value.int .i64) off d cs) t fr):=by
 show (w.heap.modify blk _)[blk]? = _;rw [S5,if_pos rfl,h]
 rfl
theorem mJ {off:Nat} {d:Array Int} {cs:Array Value}:(putCells (Value.int .i64) off d cs).size=cs.size:=by simp [putCells]
theorem yR {off:Nat} {d:Array Int} {cs:Array Value} {k:Nat} (h:off+d.size<=cs.size) (hk:k<d.size):(putCells (Value.int .i64) off d cs)[off+k]? = some (.int .i64 d[k]!):=by
 unfold putCells;rw [TR,TT (by omega)];simp only [Tx];rw [if_pos (by omega),show off+k-off=k by omega]
theorem Hv {c:Cx} (hr:HRel c) {l q:LI} {ver oH:Nat} (hH:c.H=[some ⟨ver,1,3,l.map cI⟩]) {cs:Array Value} {fr0:Nat×Nat} (hB:BRel c 0 ⟨ver,1,3,l.map cI⟩ cs<|some fr0) {d':Array Int} (hd:d'.size=l.length) (hq:q.length<=d'.size)
  (hqe:∀ i (h:i<q.length),d'[i]! = q[i]) {m:Nat} {os:Array Obj} (hv:(oH=ver/\q.length=l.length)\/ver<oH) :
  ∃ c',c'.w=grow (putRow (Value.int .i64) (Sort.ahead c.w m) (c.φ 0).1 (c.φ 0).2 d') os/\c'.H=[some ⟨oH,1,3,q.map cI⟩]/\HRel c'/\Ext c c'/\c'.φ 0=c.φ 0/\c'.w.heap[(c.φ 0).1]? = some (.cells (putCells (Value.int .i64) (c.φ 0).2 d' cs) 3 fr0):=by
 have hlv:c.live 0 ⟨ver,1,3,l.map cI⟩:=by
  unfold Cx.live;rw [hH]
  rfl
 have hat:c.w.heap[(c.φ 0).1]? = some (.cells cs 3 fr0):=hB.at_;have hblk:(c.φ 0).1<c.w.heap.size:=hr.live_lt hlv;have hfit:(c.φ 0).2+l.length<=cs.size:=by
  have := hB.fits;simpa using this
 have he1:Ext c (c.upd 0 ⟨oH,1,3,q.map cI⟩ ((c.φ 0).1,(c.φ 0).2) (putCells (Value.int .i64) (c.φ 0).2 d' cs)):=Cx.upd_ext hr hlv hB mJ (by
  rcases hv with ⟨h1,h2⟩ | h
  ·exact .inl ⟨h1,rfl,by simp [h2],rfl⟩
  exact .inr h)
 have hr1:=Cx.upd_rel hr hlv hB (k:=⟨oH,1,3,q.map cI⟩) (o:=(c.φ 0).2) (cs:=putCells (Value.int .i64) (c.φ 0).2 d' cs) mJ rfl he1 Nat.one_pos (by rw [mJ];simp;omega) (λi row h=>by
  obtain ⟨x,_,rfl⟩:=by simpa [SV,Tg] using h
  rfl) (λi row j a h1 h2=>by
  have hi:i<q.length:=by simpa using (ges h1).1
  have hrw:row=cI q[i]:=by
   have := (ges h1).2;rw [<- this];simp
  subst hrw
  match j,h2 with
  | 0,h2=>
   obtain rfl:=osl h2;refine ⟨.int .i64 d'[i]!,?_,rfl,?_⟩
   ·have := yR (off:=(c.φ 0).2) (d:=d') (cs:=cs) (k:=i) (by omega) (by omega);simpa using this
   rw [hqe i hi];exact .fr<|.v rfl
  | j+1,h2=>simp [cI] at h2)
 have hbl:Below (c.upd 0 ⟨oH,1,3,q.map cI⟩ ((c.φ 0).1,(c.φ 0).2)<|putCells (Value.int .i64) (c.φ 0).2 d' cs).w.heap.size (c.upd 0 ⟨oH,1,3,q.map cI⟩ ((c.φ 0).1,(c.φ 0).2)<|putCells (Value.int .i64) (c.φ 0).2 d' cs).w (grow (putRow (Value.int .i64) (Sort.ahead c.w m) (c.φ 0).1 (c.φ 0).2 d') os):=by
  have hz:(c.upd 0 ⟨oH,1,3,q.map cI⟩ ((c.φ 0).1,(c.φ 0).2)<|putCells (Value.int .i64) (c.φ 0).2 d' cs).w.heap.size=c.w.heap.size:=by simp [Cx.upd]
  have hs:(putRow (Value.int .i64) (Sort.ahead c.w m) (c.φ 0).1 (c.φ 0).2 d').heap.size=c.w.heap.size:=by rw [size_putRow];rfl
  refine ⟨rfl,rfl,rfl,?_,λg hg=>?_⟩
  ·rw [hz];show _<=((putRow (Value.int .i64) (Sort.ahead c.w m) (c.φ 0).1 (c.φ 0).2 d').heap++os).size;rw [S0,hs];omega
  rw [hz] at hg;show ((putRow (Value.int .i64) (Sort.ahead c.w m) (c.φ 0).1 (c.φ 0).2 d').heap++os)[g]? = (c.w.setRow (c.φ 0).1<|putCells (Value.int .i64) (c.φ 0).2 d' cs).heap[g]?;rw [Tj (by rw [hs];exact hg)]
  by_cases e:g=(c.φ 0).1
  ·subst e;rw [wy (w:=Sort.ahead c.w m) hat,setRow_heap _ _ _ _ _ _ hat]
  rw [ww e,setRow_other _ _ _ _ e]
  rfl
 obtain ⟨g1,g2⟩:=rG hr1 hbl (fz':=λ_=>False) (λ_ h=>h.elim) (λ_ h=>h.elim) λ_ _ _ h=>h;refine ⟨_,rfl,?_,g1,he1.trans g2,?_,?_⟩
 ·show c.H.set 0 _=_;rw [hH]
  rfl
 ·rfl
 have hz:(c.upd 0 ⟨oH,1,3,q.map cI⟩ ((c.φ 0).1,(c.φ 0).2)<|putCells (Value.int .i64) (c.φ 0).2 d' cs).w.heap.size=c.w.heap.size:=by simp [Cx.upd]
 have := hbl.block (c.φ 0).1 (by rw [hz];exact hblk);refine this.trans ?_;show (c.w.setRow (c.φ 0).1<|putCells (Value.int .i64) (c.φ 0).2 d' cs).heap[_]? = _;exact setRow_heap _ _ _ _ _ _ hat
theorem Hw {c:Cx} (hr:HRel c) {l:LI} {ver:Nat} (hH:c.H=[some ⟨ver,1,3,l.map cI⟩]) {u:Value} (hu:c.rel (.hs 0 ver 1 0 l.length) u) (hn:0<l.length) :
  ∃ cs fr0 cap,BRel c 0 ⟨ver,1,3,l.map cI⟩ cs (some fr0)/\u = .slice (some ⟨(c.φ 0).1,(c.φ 0).2,none⟩) l.length cap/\l.length<=cap/\cap<=9223372036854775807/\(c.φ 0).2+cap<=cs.size/\Holds (Value.int .i64) c.w (c.φ 0).1 (c.φ 0).2 l.toArray/\(c.φ 0).1<c.w.heap.size:=by
 have hlv:c.live 0 ⟨ver,1,3,l.map cI⟩:=by
  unfold Cx.live;rw [hH]
  rfl
 obtain ⟨cs,fr0,hB⟩:=hr.blk 0 _ hlv
 cases hu with
 | fr h=>cases h
 | @hs _ _ _ _ _ cap A hb hc hm h0 h=>
 obtain ⟨f,rfl,hat,hhd⟩:=hB.cells hlv λx hx=>(h x hx).1;obtain ⟨_,_,h3,h4⟩:=h _ hhd;have hA:=h3 (by omega);simp only [Nat.zero_mul,S9,Tw] at hA h4;refine ⟨cs,f,cap,hB,by rw [hA],hc,hm,h4,λj hj=>?_,hr.live_lt hlv⟩;have hj:j<l.length:=by simpa using hj
 have hj2:(c.φ 0).2+j<cs.size:=by omega
 obtain ⟨u,g1,g2,g3⟩:=hB.rel j (cI l[j]) 0 (I l[j]) (by simp [hj]) rfl;refine ⟨?_,?_⟩
 ·simp only [World.cell?,hat];have := eu g3;simp only [Tw,S9] at g1;rw [g1];obtain ⟨rfl,_⟩:=this;simp [hj]
 have := hB.fre f rfl _ hj2;obtain ⟨lo,hi'⟩:=f;simp only [World.frozen?,hat,TU,decide_eq_false_iff_not];simp only at this;omega
open Go.Shelf Go.RowKit Go.Lib Go.Sort
def Lc:Go.Shelf.Ren:=⟨λ| 5=>226 | 8=>137 | 7=>229 | 19=>168 | 20=>169 | 10=>232 | 11=>233 | 12=>234 | 13=>235 | 14=>236 | 15=>237 | 16=>238 | 17=>239 | 18=>240 | 30=>242 | 31=>187 | 32=>188 | 33=>243 | 34=>244 | 35=>170 | 40=>246 | n=>n,λ| 23=>41 | 25=>3 | 3=>3 | 32=>155 | 22=>41 | 0=>0 | 44=>192 | 46=>194 | 4=>4 | 36=>186 | 35=>185 | 41=>55 | 5=>5 | 9=>9 | 53=>212 | 57=>216 | 63=>218 | 64=>219 | n=>n,λ| n=>n⟩
theorem Iz:Go.Proofs.SlLaysM.n5 Tryz.prog Lc where
 mixed:=by kernel_rfl
 f5 := ⟨"slices.Sort[[]int,int]",by decide,Tryz.func226.trans (congrArg some (by kernel_rfl))⟩
 f7 := ⟨"slices.pdqsortOrdered[int]",by decide,Tryz.func229.trans (congrArg some (by kernel_rfl))⟩
 f8:=Tryz.func137.trans<|congrArg some (by kernel_rfl)
 f10 := ⟨"slices.insertionSortOrdered[int]",by decide,Tryz.func232.trans (congrArg some (by kernel_rfl))⟩
 f11 := ⟨"slices.heapSortOrdered[int]",by decide,Tryz.func233.trans (congrArg some (by kernel_rfl))⟩
 f12 := ⟨"slices.breakPatternsOrdered[int]",by decide,Tryz.func234.trans (congrArg some (by kernel_rfl))⟩
 f13 := ⟨"slices.choosePivotOrdered[int]",by decide,Tryz.func235.trans (congrArg some (by kernel_rfl))⟩
 f14 := ⟨"slices.reverseRangeOrdered[int]",by decide,Tryz.func236.trans (congrArg some (by kernel_rfl))⟩
 f15 := ⟨"slices.partialInsertionSortOrdered[int]",by decide,Tryz.func237.trans (congrArg some (by kernel_rfl))⟩
 f16 := ⟨"cmp.Less[int]",by decide,Tryz.func238.trans (congrArg some (by kernel_rfl))⟩
 f17 := ⟨"slices.partitionEqualOrdered[int]",by decide,Tryz.func239.trans (congrArg some (by kernel_rfl))⟩
 f18 := ⟨"slices.partitionOrdered[int]",by decide,Tryz.func240.trans (congrArg some (by kernel_rfl))⟩
 f19:=Tryz.func168.trans<|congrArg some (by kernel_rfl)
 f20:=Tryz.func169.trans<|congrArg some (by kernel_rfl)
 f30 := ⟨"slices.siftDownOrdered[int]",by decide,Tryz.func242.trans (congrArg some (by kernel_rfl))⟩
 f31:=Tryz.func187.trans<|congrArg some (by kernel_rfl)
 f32:=Tryz.func188.trans<|congrArg some (by kernel_rfl)
 f33 := ⟨"slices.medianAdjacentOrdered[int]",by decide,Tryz.func243.trans (congrArg some (by kernel_rfl))⟩
 f34 := ⟨"slices.medianOrdered[int]",by decide,Tryz.func244.trans (congrArg some (by kernel_rfl))⟩
 f35 := ⟨"cmp.isNaN[int]",by decide,Tryz.func170.trans (congrArg some (by kernel_rfl))⟩
 f40 := ⟨"slices.order2Ordered[int]",by decide,Tryz.func246.trans (congrArg some (by kernel_rfl))⟩
 t0:=Tryz.underlying0
 a0:=Tryz.isAgg0
 z0:=Tryz.sizeOf0
 v0:=Tryz.zeroValue0
 t3:=Tryz.underlying3
 a3:=Tryz.isAgg3
 z3:=Tryz.sizeOf3
 v3:=Tryz.zeroValue3
 t4:=Tryz.underlying4
 a4:=Tryz.isAgg4
 z4:=Tryz.sizeOf4
 v4:=Tryz.zeroValue4
 t5:=Tryz.underlying5
 a5:=Tryz.isAgg5
 z5:=Tryz.sizeOf5
 v5:=Tryz.zeroValue5
 t9:=Tryz.underlying9
 a9:=Tryz.isAgg9
 z9:=Tryz.sizeOf9
 v9:=Tryz.zeroValue9
 t22:=Tryz.underlying41
 a22:=Tryz.isAgg41
 z22:=Tryz.sizeOf41
 v22:=Tryz.zeroValue41
 t23:=Tryz.underlying41
 a23:=Tryz.isAgg41
 z23:=Tryz.sizeOf41
 v23:=Tryz.zeroValue41
 t25:=Tryz.underlying3
 a25:=Tryz.isAgg3
 z25:=Tryz.sizeOf3
 v25:=Tryz.zeroValue3
 t32:=Tryz.underlying155
 a32:=Tryz.isAgg155
 z32:=Tryz.sizeOf155
 v32:=Tryz.zeroValue155
 t35:=Tryz.underlying185
 a35:=Tryz.isAgg185
 z35:=Tryz.sizeOf185
 v35:=Tryz.zeroValue185
 t36:=Tryz.underlying186
 a36:=Tryz.isAgg186
 z36:=Tryz.sizeOf186
 v36:=Tryz.zeroValue186
 t41:=Tryz.underlying55
 a41:=Tryz.isAgg55
 z41:=Tryz.sizeOf55
 v41:=Tryz.zeroValue55
 t44:=Tryz.underlying192
 a44:=Tryz.isAgg192
 z44:=Tryz.sizeOf192
 v44:=Tryz.zeroValue192
 t46:=Tryz.underlying194
 a46:=Tryz.isAgg194
 z46:=Tryz.sizeOf194
 v46:=Tryz.zeroValue194
 t53:=Tryz.underlying212
 a53:=Tryz.isAgg212
 z53:=Tryz.sizeOf212
 v53:=Tryz.zeroValue212
 t57:=Tryz.underlying216
 a57:=Tryz.isAgg216
 z57:=Tryz.sizeOf216
 v57:=Tryz.zeroValue216
 t63:=Tryz.underlying218
 a63:=Tryz.isAgg218
 z63:=Tryz.sizeOf218
 v63:=Tryz.zeroValue218
 t64:=Tryz.underlying219
 a64:=Tryz.isAgg219
 z64:=Tryz.sizeOf219
 v64:=Tryz.zeroValue219
open Go.ChangeShapes Go.WideShapes Go.ChangeAt Go.RowKit Go.Shelf Go.Sort
theorem wz (l:LI) (g:Bool) (ver:Nat) (hg:g=true->l=[]) {q} (h:lc l=some q) :
  eX Tryz.prog 226 [hS g 0 ver 1 l.length] [bE g ver 1 3 (l.map cI)] (.tup []) [bE g ver 1 3 (q.map cI)]:=by
 obtain ⟨hl,h⟩:=gdD h;obtain rfl:=osl h;refine ⟨by kernel_rfl,λc vs hH hr hall=>?_⟩;obtain ⟨hsz,hrel⟩:=hall;obtain ⟨u,rfl⟩:∃ u,vs = #[u]:=by
  match vs,hsz with
  | ⟨[u]⟩,_=>exact ⟨u,rfl⟩
 have hu:=hrel 0 _ u rfl rfl
 by_cases hn:0<l.length
 ·obtain rfl:g=false:=by
   cases g with
   | false=>rfl
   | true=>
    rw [hg rfl] at hn;exact absurd hn (by simp)
  have hH:c.H=[some ⟨ver,1,3,l.map cI⟩]:=hH;obtain ⟨cs,fr0,cap,hB,rfl,hc,hm,hcs,hHo,hblk⟩:=Hw hr hH hu hn;have hcon:=AnyM.slices_Sort_int Iz (c.φ 0).1 (c.φ 0).2 cap l c.w hHo hblk hl;refine (show Calls Tryz.prog 226 _ _ _ from hcon).mono ?_;rintro e w' ⟨rfl,m,os,rfl⟩;have hll:(JY l).length=l.length:=(mP l).length_eq;obtain ⟨c',w1,w2,w3,w4,w5,w6⟩:=Hv hr hH hB (q:=JY l) (oH:=ver) (d':=(JY l).toArray) (by simpa using hll) (by simp) (λk hk=>by
   rw [getElem!_pos _ k (by simpa using hk)];simp) (m:=m) (os:=os) (.inl ⟨rfl,hll⟩)
  exact ⟨_,c',Z,w1,w2,w3,w4,.tup Z λi x y hx=>by simp at hx⟩
 obtain rfl:l=[]:=Tz (by omega);obtain ⟨A,cap,rfl⟩:∃ A cap,u = .slice A 0 cap:=by
  cases g with
  | true=>
   cases hu with
   | fr h=>cases h;exact ⟨_,_,rfl⟩
  | false=>
   obtain ⟨A,cap,h6,_⟩:=iX hu;exact ⟨A,cap,h6⟩
 refine (show Calls Tryz.prog 226 _ _ _ from AnyM.slices_Sort_int_none Iz A cap c.w).mono ?_;rintro e w' ⟨rfl,rfl⟩;refine ⟨_,c,Z,Z,?_,hr,Ext.refl c,.tup Z λi x y hx=>by simp at hx⟩;rw [hH,(mP []).eq_nil]
def Ld:Go.Shelf.Ren:=⟨λ| 6=>122 | 15=>137 | 14=>136 | 28=>168 | 29=>169 | 20=>160 | 21=>161 | 22=>162 | 23=>163 | 24=>164 | 25=>165 | 26=>166 | 27=>167 | 46=>186 | 47=>187 | 48=>188 | 49=>189 | 50=>190 | 57=>191 | n=>n,λ| 22=>34 | 24=>41 | 25=>138 | 3=>3 | 39=>155 | 0=>0 | 53=>192 | 55=>194 | 4=>4 | 46=>186 | 45=>185 | 50=>55 | 5=>5 | 9=>9 | 66=>212 | 70=>216 | 76=>218 | 77=>219 | n=>n,λ| n=>n⟩
theorem IA:Go.Proofs.SlLaysF.n6 Tryz.prog Ld where
 mixed:=by kernel_rfl
 f6 := ⟨"slices.SortFunc[[][]int,[]int]",by decide,Tryz.func122.trans (congrArg some (by kernel_rfl))⟩
 f14 := ⟨"slices.pdqsortCmpFunc[[]int]",by decide,Tryz.func136.trans (congrArg some (by kernel_rfl))⟩
 f15:=Tryz.func137.trans<|congrArg some (by kernel_rfl)
 f20 := ⟨"slices.insertionSortCmpFunc[[]int]",by decide,Tryz.func160.trans (congrArg some (by kernel_rfl))⟩
 f21 := ⟨"slices.heapSortCmpFunc[[]int]",by decide,Tryz.func161.trans (congrArg some (by kernel_rfl))⟩
 f22 := ⟨"slices.breakPatternsCmpFunc[[]int]",by decide,Tryz.func162.trans (congrArg some (by kernel_rfl))⟩
 f23 := ⟨"slices.choosePivotCmpFunc[[]int]",by decide,Tryz.func163.trans (congrArg some (by kernel_rfl))⟩
 f24 := ⟨"slices.reverseRangeCmpFunc[[]int]",by decide,Tryz.func164.trans (congrArg some (by kernel_rfl))⟩
 f25 := ⟨"slices.partialInsertionSortCmpFunc[[]int]",by decide,Tryz.func165.trans (congrArg some (by kernel_rfl))⟩
 f26 := ⟨"slices.partitionEqualCmpFunc[[]int]",by decide,Tryz.func166.trans (congrArg some (by kernel_rfl))⟩
 f27 := ⟨"slices.partitionCmpFunc[[]int]",by decide,Tryz.func167.trans (congrArg some (by kernel_rfl))⟩
 f28:=Tryz.func168.trans<|congrArg some (by kernel_rfl)
 f29:=Tryz.func169.trans<|congrArg some (by kernel_rfl)
 f46 := ⟨"slices.siftDownCmpFunc[[]int]",by decide,Tryz.func186.trans (congrArg some (by kernel_rfl))⟩
 f47:=Tryz.func187.trans<|congrArg some (by kernel_rfl)
 f48:=Tryz.func188.trans<|congrArg some (by kernel_rfl)
 f49 := ⟨"slices.medianAdjacentCmpFunc[[]int]",by decide,Tryz.func189.trans (congrArg some (by kernel_rfl))⟩
 f50 := ⟨"slices.medianCmpFunc[[]int]",by decide,Tryz.func190.trans (congrArg some (by kernel_rfl))⟩
 f57 := ⟨"slices.order2CmpFunc[[]int]",by decide,Tryz.func191.trans (congrArg some (by kernel_rfl))⟩
 t0:=Tryz.underlying0
 a0:=Tryz.isAgg0
 z0:=Tryz.sizeOf0
 v0:=Tryz.zeroValue0
 t3:=Tryz.underlying3
 a3:=Tryz.isAgg3
 z3:=Tryz.sizeOf3
 v3:=Tryz.zeroValue3
 t4:=Tryz.underlying4
 a4:=Tryz.isAgg4
 z4:=Tryz.sizeOf4
 v4:=Tryz.zeroValue4
 t5:=Tryz.underlying5
 a5:=Tryz.isAgg5
 z5:=Tryz.sizeOf5
 v5:=Tryz.zeroValue5
 t9:=Tryz.underlying9
 a9:=Tryz.isAgg9
 z9:=Tryz.sizeOf9
 v9:=Tryz.zeroValue9
 t22:=Tryz.underlying34
 a22:=Tryz.isAgg34
 z22:=Tryz.sizeOf34
 v22:=Tryz.zeroValue34
 a24:=Tryz.isAgg41
 z24:=Tryz.sizeOf41
 t25:=Tryz.underlying138
 a25:=Tryz.isAgg138
 z25:=Tryz.sizeOf138
 v25:=Tryz.zeroValue138
 t39:=Tryz.underlying155
 a39:=Tryz.isAgg155
 z39:=Tryz.sizeOf155
 v39:=Tryz.zeroValue155
 t45:=Tryz.underlying185
 a45:=Tryz.isAgg185
 z45:=Tryz.sizeOf185
 v45:=Tryz.zeroValue185
 t46:=Tryz.underlying186
 a46:=Tryz.isAgg186
 z46:=Tryz.sizeOf186
 v46:=Tryz.zeroValue186
 t50:=Tryz.underlying55
 a50:=Tryz.isAgg55
 z50:=Tryz.sizeOf55
 v50:=Tryz.zeroValue55
 t53:=Tryz.underlying192
 a53:=Tryz.isAgg192
 z53:=Tryz.sizeOf192
 v53:=Tryz.zeroValue192
 t55:=Tryz.underlying194
 a55:=Tryz.isAgg194
 z55:=Tryz.sizeOf194
 v55:=Tryz.zeroValue194
 t66:=Tryz.underlying212
 a66:=Tryz.isAgg212
 z66:=Tryz.sizeOf212
 v66:=Tryz.zeroValue212
 t70:=Tryz.underlying216
 a70:=Tryz.isAgg216
 z70:=Tryz.sizeOf216
 v70:=Tryz.zeroValue216
 t76:=Tryz.underlying218
 a76:=Tryz.isAgg218
 z76:=Tryz.sizeOf218
 v76:=Tryz.zeroValue218
 t77:=Tryz.underlying219
 a77:=Tryz.isAgg219
 z77:=Tryz.sizeOf219
 v77:=Tryz.zeroValue219
theorem Hy {α:Type} (f:α->LI):SWO (ltOf λx y=>cmpL (f x)<|f y) where
 irrefl x:=by simp [ltOf,mQ]
 trans x y z h1 h2:=by
  simp only [ltOf,dte] at *;exact pY h1 h2
 ntrans x y z h1 h2:=by
  simp only [ltOf,decide_eq_false_iff_not] at *;intro h;rcases p5 (f x) (f y) with g | g | g
  ·exact h1 g
  ·rw [g] at h;exact h2 h
  exact h2<|pY g h
theorem wZ (x y:Int) (w:World) :
  Calls Tryz.prog 138 #[.int .i64 x,.int .i64 y] w λe w'=>e = .returned (.int .i64<|if x<y then -1 else if y<x then 1 else 0)/\w'=w:=by
 go_enter Tryz.func138,Tryz.ntmps138
 by_cases h1:x<y
 ·rw [if_pos h1]
  go_wp2
  go_ret
  exact ⟨rfl,rfl⟩
 rw [if_neg h1]
 by_cases h2:y<x
 ·rw [if_pos h2]
  go_wp2
  go_ret
  exact ⟨rfl,rfl⟩
 rw [if_neg h2]
 go_wp2
 go_ret
 exact ⟨rfl,rfl⟩
theorem Bq {lo hi lo' hi':Nat} {u v:Value} {xs ys:LI} {w:World} (hu:Sl Ki 1 w lo hi u xs) (hv:Sl Ki 1 w lo' hi' v ys) :
  Calls Tryz.prog 123 #[u,v] w λe w'=>e = .returned (.int .i64<|cmpL xs ys)/\w'=w:=by
 obtain ⟨A,ca,rfl,hca,hma,hA⟩:=hu.ints;obtain ⟨B,cb,rfl,hcb,hmb,hB⟩:=hv.ints;have HAA:=Lib.hid hA;clear hA;have HBB:=Lib.hid hB;clear hB
 go_enter Tryz.func123,Tryz.ntmps123
 go_wp2_with fail
 go_loopw [11] (λi wr=>∃ k:Nat,k<=xs.length/\k<=ys.length/\i = .int .i64 k/\wr=w/\cmpL xs ys=cmpL (xs.drop k) (ys.drop k)) (λi _=>xs.length-(intOf i).toNat)
 case atStart=>exact ⟨0,zZ9 _,zZ9 _,rfl,rfl,rfl⟩
 case round=>
  obtain ⟨k,hk,hk2,rfl,rfl,he⟩:=hrel;have HE:=Lib.hid he;clear he
  by_cases hlt:k<xs.length
  ·obtain ⟨ba,oa,rfl,_,_,hba,hA⟩:=HAA.out (by omega);have ca1:=hA k hlt;clear hA;have i1:(0:Int)<=(k:Int):=by omega
   have i2:(k:Int)<(xs.length:Int):=by omega
   have HX:=Lib.hid<|TG hlt
   by_cases hlt2:k<ys.length
   ·obtain ⟨bb,ob,rfl,_,_,hbb,hB⟩:=HBB.out (by omega);have cb1:=hB k hlt2;clear hB;have i3:(k:Int)<(ys.length:Int):=by omega
    have HY:=Lib.hid<|TG hlt2;generalize xs[k]=x at *;generalize ys[k]=y at *;have hc:=wZ x y wr
    by_cases h1:x<y
    ·rw [if_pos h1] at hc;have HR:=Lib.hid (show cmpL xs ys = -1 by rw [HE.out,HX.out,HY.out,cmpL,if_pos h1])
     go_wp2_with (go_at_call 138;refine hc.mono ?_;rintro e w' ⟨rfl,rfl⟩)
     go_ret
     exact ⟨by rw [HR.out];rfl,rfl⟩
    rw [if_neg h1] at hc
    by_cases h2:y<x
    ·rw [if_pos h2] at hc;have HR:=Lib.hid (show cmpL xs ys=1 by rw [HE.out,HX.out,HY.out,cmpL,if_neg h1,if_pos h2])
     go_wp2_with (go_at_call 138;refine hc.mono ?_;rintro e w' ⟨rfl,rfl⟩)
     go_ret
     exact ⟨by rw [HR.out];rfl,rfl⟩
    rw [if_neg h2] at hc;have HR:=Lib.hid (show cmpL xs ys=cmpL (xs.drop<|k+1) (ys.drop<|k+1) by rw [HE.out,HX.out,HY.out,cmpL,if_neg h1,if_neg h2])
    go_wp2_with (go_at_call 138;refine hc.mono ?_;rintro e w' ⟨rfl,rfl⟩)
    go_roundw
    case rel=>exact ⟨k+1,by omega,by omega,by go_num,by first | rfl | trivial,HR.out⟩
    case measure=>simp [intOf];omega
   have hky:k=ys.length:=by omega
   have i3:((ys.length:Int)<=(k:Int)):=by omega
   have HR:=Lib.hid (show cmpL xs ys=1 by rw [HE.out,HX.out,TV (show ys.length<=k by omega)];rfl);clear hky
   go_wp2_with fail
   go_ret
   exact ⟨by rw [HR.out];rfl,rfl⟩
  have hkx:k=xs.length:=by omega
  have HF:=Lib.hid (show cmpL xs ys=cmpL [] (ys.drop xs.length) by rw [HE.out,hkx,List.drop_length]);clear HE;subst hkx
  by_cases hl:xs.length<ys.length
  ·have i3:((xs.length:Int)<(ys.length:Int)):=by omega
   go_wp2_with fail
   go_ret
   exact ⟨by rw [HF.out,TG hl];rfl,rfl⟩
  have i3 : ¬ ((xs.length:Int)<(ys.length:Int)):=by omega
  go_wp2_with fail
  go_ret
  exact ⟨by rw [HF.out,TV (by omega)];rfl,rfl⟩
theorem rW {w:World} {fz:Nat->Prop} {v:Value} {l:LI} (h:FRel w fz (eL cI l) v):Sl Ki 1 w 0 w.heap.size v l:=by
 have := xQ (f:=Ki) (s:=1) (c:=cI) (e:=id) (λ_=>rfl) (λ_=>rfl) h
 rwa [List.map_id] at this
def Rd1 (w:World) (fz:Nat->Prop):Type:={ p:Value×LI // p.1.oneCell'=true/\FRel w fz (eL cI p.2) p.1 }
theorem FT (w:World) (fz:Nat->Prop):FRel w fz (eL cI ([]:LI)) (.slice none 0 0):=
 .sl (s:=1) (g:=0) (o:=0) (λ_ _ => .bool false) (SN _) (by decide) (λh=>absurd h<|by simp) (λi h=>absurd h<|by simp) (λi j a h=>absurd h<|by simp) (λi j a h=>absurd h<|by simp) λi j a h=>absurd h (by simp)
instance {w:World} {fz:Nat->Prop}:Inhabited (Rd1 w fz):=⟨⟨(.slice none 0 0,[]),rfl,FT w fz⟩⟩
def yU {w:World} {fz:Nat->Prop} (x:Rd1 w fz):Value:=x.1.1
def FU {w:World} {fz:Nat->Prop} (x:Rd1 w fz):LI:=x.1.2
theorem qE {α:Type} [Inhabited α] {enc:α->Value} {w:World} {blk off g:Nat} {d:Array α} (h:g≠blk):(putRow enc w blk off d).heap[g]? = w.heap[g]? := by
 show (w.heap.modify blk _)[g]? = _;rw [S5,if_neg (Ne.symm h)]
theorem w9 {α:Type} [Inhabited α] {enc:α->Value} {w:World} {blk off:Nat} {d:Array α} {cs:Array Value} {t:TypeId} {fr:Nat×Nat} (h:w.heap[blk]? = some (.cells cs t fr)):(putRow enc w blk off d).heap[blk]? = some (.cells (putCells enc off d cs) t fr):=by
 show (w.heap.modify blk _)[blk]? = _;rw [S5,if_pos rfl,h]
 rfl
theorem qF {α:Type} [Inhabited α] {enc:α->Value} {w:World} {blk off m g:Nat} {d:Array α} {os:Array Obj} (hg:g<w.heap.size):(sortWorld enc w blk off m d os).heap[g]? = (putRow enc w blk off d).heap[g]? := by
 show ((putRow enc (Sort.ahead w m) blk off d).heap++os)[g]? = _;have hs:(putRow enc (Sort.ahead w m) blk off d).heap.size=w.heap.size:=by rw [size_putRow];rfl
 rw [Tj (by rw [hs];exact hg)]
 rfl
theorem nN {α:Type} [Inhabited α] {enc:α->Value} {off:Nat} {d:Array α} {cs:Array Value}:(putCells enc off d cs).size=cs.size:=by simp [putCells]
theorem zZ {α:Type} [Inhabited α] {enc:α->Value} {off:Nat} {d:Array α} {cs:Array Value} {k:Nat} (h:off+d.size<=cs.size) (hk:k<d.size):(putCells enc off d cs)[off+k]? = some (enc d[k]!):=by
 unfold putCells;rw [TR,TT (by omega)];simp only [Tx];rw [if_pos (by omega),show off+k-off=k by omega]
theorem JP {c:Cx} {blk off size:Nat} (hnf : ¬ c.fz blk) (hlt:∀ g,c.fz g->g<c.w.heap.size):CmpLays1 Tryz.prog 123 #[] (yU (w:=c.w) (fz:=c.fz)) (λx y=>cmpL (FU x)<|FU y) blk off size c.w:=by
 intro m os dk hs x y;have hW:∀ g,c.fz g->g<c.w.heap.size->(sortWorld yU c.w blk off m dk os).heap[g]? = c.w.heap[g]? /\ c.fz g:=λg hg hl=>by
  rw [qF hl,qE (by rintro rfl;exact hnf hg)];exact ⟨rfl,hg⟩
 have hsz:c.w.heap.size<=(sortWorld yU c.w blk off m dk os).heap.size:=by
  show _<=((putRow yU (Sort.ahead c.w m) blk off dk).heap++os).size;rw [S0,size_putRow];show c.w.heap.size<=c.w.heap.size+os.size;omega
 have hx:=rW<|x.2.2.mono hsz hW;have hy:=rW<|y.2.2.mono hsz hW;refine (Bq hx hy).mono λe w' ⟨he,hw⟩=>⟨he,0,#[],?_⟩;rw [hw,grow_empty]
 rfl
theorem Hz {c:Cx} (hr:HRel c) {l:LL} {ver:Nat} (hH:c.H=[some ⟨ver,1,41,l.map<|cL cI⟩]) {u:Value} (hu:c.rel (.hs 0 ver 1 0 l.length) u) (hl:l.length<4611686018427387904) (hn:0<l.length) :
  Calls Tryz.prog 122 #[u,.func (.func 123) #[] #[]] c.w λe w'=>∃ c',e = .returned (.tuple #[])/\c'.w=w'/\c'.H=[some ⟨ver,1,41,(zE l).map<|cL cI⟩]/\HRel c'/\Ext c c':=by
 have hlv:c.live 0 ⟨ver,1,41,l.map<|cL cI⟩:=by
  unfold Cx.live;rw [hH]
  rfl
 obtain ⟨cs,fr0,hB⟩:=hr.blk 0 _ hlv
 cases hu with
 | fr h=>cases h
 | @hs _ _ _ _ _ cap A hb hc hm h0 h=>
 obtain ⟨f,rfl,hat,hhd⟩:=hB.cells hlv λx hx=>(h x hx).1;obtain ⟨_,_,h3,_⟩:=h _ hhd;have hA:=h3 (by omega);have hfit:(c.φ 0).2+l.length<=cs.size:=by
  have := hB.fits;simpa using this
 have hrow:∀ i (hi:i<l.length),∃ p:Rd1 c.w c.fz,cs[(c.φ 0).2+i]? = some (yU p)/\FU p=l[i]:=λi hi=>by
  obtain ⟨u,g1,g2,g3⟩:=hB.rel i (cL cI l[i]) 0 (eL cI l[i]) (by simp [hi]) rfl;refine ⟨⟨(u,l[i]),g2,qH 1 _ _ rfl g3⟩,?_,rfl⟩;show _=some u;simpa using g1
 obtain ⟨d,hds,hd1,hd2⟩:∃ d:Array (Rd1 c.w c.fz),d.size=l.length/\(∀ i,i<l.length->cs[(c.φ 0).2+i]? = some (yU d[i]!))/\d.toList.map FU=l:=by
  refine ⟨Array.ofFn (λi:_root_.Fin l.length=>(hrow i.1 i.2).choose),by simp,λi hi=>?_,?_⟩
  ·rw [getElem!_pos _ i (by simpa using hi),TW];exact (hrow i hi).choose_spec.1
  apply List.ext_getElem
  ·simp
  intro i h1 h2;simp only [List.getElem_map,Array.getElem_toList,TW];exact (hrow i h2).choose_spec.2
 have hblk:(c.φ 0).1<c.w.heap.size:=hr.live_lt hlv;have hH2:Holds (yU (w:=c.w) (fz:=c.fz)) c.w (c.φ 0).1 (c.φ 0).2 d:=λj hj=>by
  have hj2:(c.φ 0).2+j<cs.size:=by omega
  refine ⟨?_,?_⟩
  ·simp only [World.cell?,hat];exact hd1 j (by omega)
  have := hB.fre f rfl _ hj2;obtain ⟨lo,hi'⟩:=f;simp only [World.frozen?,hat,TU,decide_eq_false_iff_not];simp only at this;omega
 have eg:∀ args w,(callFunc 123 args).run Tryz.prog w = .ok (.enter 123 args) w:=enters_of Tryz.func123 (by kernel_rfl) rfl;have hcon:=Any.slices_SortFunc IA (yU (w:=c.w) (fz:=c.fz)) (λx=>x.2.1) (λx y=>cmpL (FU x)<|FU y) (Hy FU) 123 #[] (c.φ 0).1 (c.φ 0).2 cap d c.w eg (JP (hr.not_fz hlv) hr.lt) hH2 hblk (by omega);rw [hA,show (c.φ 0).2+0*1=(c.φ 0).2 by omega,<- hds];refine (show Calls Tryz.prog 122 _ _ _ from hcon).mono ?_;rintro e w' ⟨rfl,d',m,os,hp,hs,rfl⟩;have hds':d'.size=l.length:=hp.1.trans hds;have hpl:d'.toList.Perm d.toList:=by
  have := hp.2.2
  rwa [TY (by omega),TY (by omega)] at this
 have hsl:d'.toList.map FU=zE l:=by
  refine vO ((hpl.map FU).trans<|hd2 ▸ (lL l).symm) ?_<|vN l;rw [List.pairwise_map,List.pairwise_iff_getElem];intro i j h1 h2 hij;have := hs i j (zZ9 _) hij (by rw [hds,<- hds'];simpa using h2);rw [getElem!_pos d' j (by simpa using h2),getElem!_pos d' i (by simpa using h1)] at this;unfold ltOf at this;unfold leL;rw [dte];simpa using this
 have hat':∀ i (hi:i<(zE l).length),FU d'[i]! = (zE l)[i]:=λi hi=>by
  have hi2:i<d'.size:=by
   rw [(lL l).length_eq] at hi;omega
  rw [getElem!_pos d' i hi2];have : (d'.toList.map FU)[i]? = (zE l)[i]? := by rw [hsl]
  rw [geq (by simpa using hi2),geq hi] at this;simpa using this
 have hll:(zE l).length=l.length:=(lL l).length_eq;have he1:Ext c (c.upd 0 ⟨ver,1,41,(zE l).map (cL cI)⟩ ((c.φ 0).1,(c.φ 0).2) (putCells yU (c.φ 0).2 d' cs)):=Cx.upd_ext hr hlv hB nN (.inl ⟨rfl,rfl,by simp [hll],rfl⟩);have hr1:=Cx.upd_rel hr hlv hB (k:=⟨ver,1,41,(zE l).map (cL cI)⟩) (o:=(c.φ 0).2) (cs:=putCells yU (c.φ 0).2 d' cs) nN rfl he1 Nat.one_pos (by rw [nN];simpa [hll] using hfit) (λi row h=>by
  obtain ⟨x,_,rfl⟩:=by simpa [SV,Tg] using h
  rfl) (λi row j a h1 h2=>by
  have hi:i<(zE l).length:=by simpa using (ges h1).1
  have hrw:row=cL cI (zE l)[i]:=by
   have := (ges h1).2;rw [<- this];simp
  subst hrw
  match j,h2 with
  | 0,h2=>
   obtain rfl:=osl h2;refine ⟨yU d'[i]!,?_,d'[i]!.2.1,?_⟩
   ·have := zZ (enc:=yU) (off:=(c.φ 0).2) (d:=d') (cs:=cs) (k:=i) (by omega) (by omega);simpa using this
   rw [<- hat' i hi];exact .fr d'[i]!.2.2
  | j+1,h2=>simp [cL] at h2)
 have hbl:Below (c.upd 0 ⟨ver,1,41,(zE l).map<|cL cI⟩ ((c.φ 0).1,(c.φ 0).2)<|putCells yU (c.φ 0).2 d' cs).w.heap.size (c.upd 0 ⟨ver,1,41,(zE l).map<|cL cI⟩ ((c.φ 0).1,(c.φ 0).2)<|putCells yU (c.φ 0).2 d' cs).w (sortWorld yU c.w (c.φ 0).1 (c.φ 0).2 m d' os):=by
  have hz:(c.upd 0 ⟨ver,1,41,(zE l).map<|cL cI⟩ ((c.φ 0).1,(c.φ 0).2)<|putCells yU (c.φ 0).2 d' cs).w.heap.size=c.w.heap.size:=by simp [Cx.upd]
  refine ⟨rfl,rfl,rfl,?_,λg hg=>?_⟩
  ·rw [hz];show _<=((putRow yU (Sort.ahead c.w m) (c.φ 0).1 (c.φ 0).2 d').heap++os).size;rw [S0,size_putRow];show c.w.heap.size<=c.w.heap.size+os.size;omega
  rw [hz] at hg;rw [qF hg];show _=(c.w.setRow (c.φ 0).1<|putCells yU (c.φ 0).2 d' cs).heap[g]?
  by_cases e:g=(c.φ 0).1
  ·subst e;rw [w9 hat,setRow_heap _ _ _ _ _ _ hat]
  rw [qE e,setRow_other _ _ _ _ e]
 obtain ⟨g1,g2⟩:=rG hr1 hbl (fz':=λ_=>False) (λ_ h=>h.elim) (λ_ h=>h.elim) λ_ _ _ h=>h;refine ⟨_,rfl,rfl,?_,g1,he1.trans g2⟩;show c.H.set 0 _=_;rw [hH]
 rfl
theorem qV (l:LL) (g:Bool) (ver:Nat) (hg:g=true->l=[]) {q} (h:fo l=some q) :
  eX Tryz.prog 122 [hS g 0 ver 1 l.length,.fn (.func 123) []] [bE g ver 1 41 (l.map<|cL cI)] (.tup []) [bE g ver 1 41 (q.map<|cL cI)]:=by
 obtain ⟨hl,h⟩:=gdD h;obtain rfl:=osl h;refine ⟨by kernel_rfl,λc vs hH hr hall=>?_⟩;obtain ⟨hsz,hrel⟩:=hall;obtain ⟨u,f,rfl⟩:∃ u f,vs = #[u,f]:=by
  match vs,hsz with
  | ⟨[u,f]⟩,_=>exact ⟨u,f,rfl⟩
 have hu:=hrel 0 _ u rfl rfl;obtain ⟨vs2,rfl,h5,_⟩:=tZ<|hrel 1 _ f rfl rfl;obtain rfl:vs2 = #[]:=Array.eq_empty_of_size_eq_zero h5
 by_cases hn:0<l.length
 ·obtain rfl:g=false:=by
   cases g with
   | false=>rfl
   | true=>
    rw [hg rfl] at hn;exact absurd hn (by simp)
  refine (Hz hr hH hu hl hn).mono ?_;rintro e w' ⟨c',rfl,hw,hH',h1,h2⟩;exact ⟨_,c',Z,hw,hH',h1,h2,.tup Z λi x y hx=>by simp at hx⟩
 obtain rfl:l=[]:=Tz (by omega);obtain ⟨A,cap,rfl⟩:∃ A cap,u = .slice A 0 cap:=by
  cases g with
  | true=>
   cases hu with
   | fr h=>cases h;exact ⟨_,_,rfl⟩
  | false=>
   obtain ⟨A,cap,h6,_⟩:=iX hu;exact ⟨A,cap,h6⟩
 refine (show Calls Tryz.prog 122 _ _ _ from AnyF.slices_SortFunc_none { IA with } A cap _ c.w).mono ?_;rintro e w' ⟨rfl,rfl⟩;refine ⟨_,c,Z,Z,?_,hr,Ext.refl c,.tup Z λi x y hx=>by simp at hx⟩;rw [hH,(lL []).eq_nil]
section
variable {P:Program} {nt b0:Nat} {Q:Exit->Env->AH->Prop} {e:Env} {H:AH}
def Bt (P:Program) (c:Code) (Q:Exit->Act->World->Prop) (a:Act) (w:World):Prop:=∀ (b:Frame) (k:List Item) (cs),∃ e a' w',Q e a' w'/\Arrives P (lone (b.at a (.code c :: .inLoop c::k)) cs w) b k cs e a' w'
theorem Bt.loop {c:Code} {Q:Exit->Act->World->Prop} {a:Act} {w:World} (h:Bt P c Q a w):(Code.loop c).wp P Q a w:=by
 intro b k cs;obtain ⟨e',a',w',hq',harr'⟩:=h b k cs;exact ⟨e',a',w',hq',.of_steps (.one step_loop) harr'⟩
theorem Bt.mk {c:Code} {Q:Exit->Act->World->Prop} {a:Act} {w:World} (h:c.wp P (Exit.then (λa w=>Bt P c Q a w) Q) a w):Bt P c Q a w:=by
 intro b k cs;obtain ⟨e,a₁,w₁,hq,harr⟩:=h b (.inLoop c::k) cs
 cases e with
 | normal=>
  obtain ⟨e₂,a₂,w₂,hq₂,harr₂⟩:=hq b k cs;exact ⟨e₂,a₂,w₂,hq₂,.of_steps (Steps.trans harr<|.one step_inLoop) harr₂⟩
 | exit id=>exact ⟨_,a₁,w₁,hq,.pass (x:=.inLoop c) rfl (λ_ _ => .inl<|by simp) harr⟩
 | goto l=>exact ⟨_,a₁,w₁,hq,.pass (x:=.inLoop c) rfl (λ_ _ => .inl<|by simp) harr⟩
 | ret=>exact ⟨_,a₁,w₁,hq,.pass (x:=.inLoop c) rfl (λ_ _ => .inl<|by simp) harr⟩
 | panic ch=>exact ⟨_,a₁,w₁,hq,.pass (x:=.inLoop c) rfl (λ_ _ => .inl<|by simp) harr⟩
 | outgrown=>exact ⟨_,a₁,w₁,hq,.pass (x:=.inLoop c) rfl (λ_ _ => .inl<|by simp) harr⟩
def TLp (P:Program) (nt b0:Nat) (x:Code) (Q:Exit->Env->AH->Prop) (e:Env) (H:AH):Prop:=
 codeOk nt x=true->∀ (c c0:Cx) (a:Act),c.H=H->c0.H.length<=b0->Ext c0 c->SRel c nt e a->Bt P x (J7 nt c0 Q) a c.w
theorem T.ofL {x:Code} (h:TLp P nt b0 x Q e H):T P nt b0 (.loop x) Q e H:=λhok c c0 a hH hb hx hr=>(h hok c c0 a hH hb hx hr).loop
theorem TLp.unr {x:Code} (h:T P nt b0 x (Ek (TLp P nt b0 x Q) Q) e H):TLp P nt b0 x Q e H:=by
 intro hok c c0 a hH hb hx hr;refine Bt.mk<|wp_mono (h hok c c0 a hH hb hx hr) λex a' w' hl=>?_;obtain ⟨hg,c',e',rfl,hx',hs',hq⟩:=hl
 cases ex with
 | normal=>exact hq hok c' c0 a' rfl hb hx' hs'
 | exit i=>exact ⟨hg,c',e',rfl,hx',hs',hq⟩
 | ret=>exact ⟨hg,c',e',rfl,hx',hs',hq⟩
 | _=>exact hg.elim
variable {en:List (Nat×AV)} {ops:Array Oper} {l:List Oper} {d:Tmp} {t:TypeId} {pos:String} {af:Array Edge}
theorem oI {fn:Func} {body:Code} {e0:Env} {cl:Call} {f:Operand} {g:FuncId} {kE MU:List AV} (hfn:P.funcs[g]? = some fn) (hbd:fn.body=some body) (hcall:eG P g=true) (hn:Nat.ble MU.length fn.ntmps=true) (hok:codeOk fn.ntmps body=true)
  (hc:cl.callee = .value f) (hf:rho (ax en) f = .fn (.func g) kE) (ha:cl.args.toList.map (rho<|ax en)++kE=MU) (hw:wL (Ed MU) e0)
  (h:T P fn.ntmps H.length body (SQ H.length<|Fin P fn λr G=>TO P nt b0 ops l Q (ax ((d,r)::en)) G) e0 H):TO P nt b0 ops (⟨some d,.call cl,t,pos,af,none⟩::l) Q (ax en) H:=by
 subst ha;exact TO.runG (.free rfl) (nD rfl hc hf<|cQ.mkS hfn hbd hcall hn hok hw h) λr' H' hk=>hk
variable {cls:Nat->Xc} {i:Nat} {K:Env->AH->Prop} {li:List Nat} {op:Op}
theorem Lf {W:List Nat} {H G:AH} (n:Nat) (h:(Tf n).all (W.contains ·)=true) (hd:G.drop n=H.drop n):qU W H G:=λb _ hn=>by
 rcases Nat.lt_or_ge b n with hb | hb
 ·have := List.all_eq_true.1 h b<|TB.2 hb;simp at this;exact absurd this hn
 obtain ⟨k,rfl⟩:∃ k,b=n+k:=⟨b-n,by omega⟩;rw [<- SZ,hd,SZ]
theorem xI {W:List Nat} (n:Nat) {fn:Func} {body:Code} {e0:Env} {cl:Call} {f:Operand} {g:FuncId} {kE MU:List AV} (h0:ops[i]? = some ⟨some d,.call cl,t,pos,af,none⟩) (hci:cls i=(true,W)) (hkw:(Tf n).all (W.contains ·)=true)
  (hfn:P.funcs[g]? = some fn) (hbd:fn.body=some body) (hcall:eG P g=true) (hn:Nat.ble MU.length fn.ntmps=true) (hok:codeOk fn.ntmps body=true)
  (hc:cl.callee = .value f) (hf:rho (ax en) f = .fn (.func g) kE) (ha:cl.args.toList.map (rho<|ax en)++kE=MU) (hw:wL (Ed MU) e0)
  (h:T P fn.ntmps H.length body (SQ H.length<|Fin P fn λr G=>G.drop n=H.drop n/\TX P ops cls li K (ax ((d,r)::en)) G) e0 H):TX P ops cls (i::li) K (ax en) H:=by
 subst ha;exact xT h0 hci (nD rfl hc hf<|cQ.mkS hfn hbd hcall hn hok hw h) λr' G hk=>⟨Lf n hkw hk.1,hk.2⟩
end
end
end Go.Proofs.YtjcmfddobaplbaaGreat
