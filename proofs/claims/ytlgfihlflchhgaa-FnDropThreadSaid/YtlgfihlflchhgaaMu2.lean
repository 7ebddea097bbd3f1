/-
 PROVED: spec.l1Mutate computes the function over plain values. No conditions.
-/
import Derived.Test.YtlgfihlflchhgaaMu
import Derived.Test.YtlgfihlflchhgaaMud
import Derived.Test.YtlgfihlflchhgaaSQ1
namespace Go.Proofs.Ytlgfihlflchhgaa
open Go.RowKit
set_option maxRecDepth 100000
theorem F_spec_l1Mutate_P (r_:Xspec_l17Rd) (p:List (List ZIn)) (ver0:Nat) {q:Xspec_l17Rd×List (List ZIn)} (h:F_spec_l1Mutate r_ p=some q):ACall Try.prog 34 [.hp 0 ver0 2 0 0,eL (cL ZIn.c) p] [some ⟨ver0,2,86,[[eL cY r_.b,I r_.p]]⟩] (eL (cL ZIn.c) q.2) [some ⟨ver0,2,86,[[eL cY q.1.b,I q.1.p]]⟩]:=by
 refine ACall.mkT Try.func34 rfl (by kernel_rfl) rfl (by kernel_rfl) (e0:=envOf [(0,.hp 0 ver0 2 0 0),(1,eL (cL ZIn.c) p)]) (wkC rfl (wkC rfl wkN)) ?_
 unfold F_spec_l1Mutate at h
 obtain ⟨hp,h⟩:=gdL h
 obtain ⟨hp1,hp2⟩:=fits_row hp
 refine T.seq ?_
 refine T.region ?_
 refine oN (EvN.asg (.nil) rfl) ?_
 refine TO.nil ?_
 refine T.seq ?_
 refine T.region ?_
 refine oN (EvN.mv (eL (cL ZIn.c) p) rfl) ?_
 refine oGN (m:=1) rfl rfl rfl rfl ZIn.isF ((l1Copy_ON p hp).ownN rfl ZIn.isF ren_id 1 rfl) (fun ver gh K hN hK => ?_)
 clear hK
 replace hN:NK 2 (some ⟨ver0,2,86,[[eL cY r_.b,I r_.p]]⟩::some ⟨ver,1,31,nrows gh 4 p⟩::K) gh 4 33 ZIn.c p:=hN
 refine TO.clean (H0:=some ⟨ver0,2,86,[[eL cY r_.b,I r_.p]]⟩::some ⟨ver,1,31,nrows gh 4 p⟩::K) (e0:=envOf [(8,hS false 1 ver 1 p.length),(0,.hp 0 ver0 2 0 0)]) rfl (wkC rfl (wkC rfl wkN)) ?_
 refine oN (EvN.asg (hS false 1 ver 1 p.length) rfl) ?_
 refine TO.nil ?_
 refine T.seq ?_
 refine T.seq ?_
 refine T.region ?_
 refine oN (EvN.mv (hS false 1 ver 1 p.length) rfl) ?_
 refine oN (EvN.lenO (g:=false) sl23 rfl nofun) ?_
 refine oN (EvN.ieq rfl rfl) ?_
 refine TO.nil ?_
 refine T.cond rfl (fun qz => ?_) (fun qz => ?_)
 ·have h0:p.length=0:=by have := eq_of_beq qz;omega
  replace h:=condT (show Nat.beq p.length 0=true by rw [h0];rfl) h
  refine T.seq ?_
  refine T.region ?_
  refine oN (EvN.mv (hS false 1 ver 1 p.length) rfl) ?_
  refine oN (EvN.asg (hS false 1 ver 1 p.length) rfl) ?_
  refine TO.nil ?_
  refine T.ret ?_
  obtain rfl:=Option.some.inj h
  repeat first | refine retS ?_ | refine retB ?_
  exact ⟨envOf [(4,eL (cL ZIn.c) p)],[some ⟨ver0,2,86,[[eL cY r_.b,I r_.p]]⟩],cutS rfl (.cons (.row (.cons (.fz (.of_isF 9 _ rfl)) (.cons (.fz (.of_isF 9 _ rfl)) .nil))) .nil) (stl_cons (.fz (hN.fzm rfl rfl rfl rfl ZIn.isF)) stl_nil),Fin.ret (vs:=[eL (cL ZIn.c) p]) (.cons (.tmp rfl) .nil) ⟨rfl,rfl⟩⟩
 ·have h0:p.length≠0:=fun h0=>by rw [h0] at qz;exact absurd qz (by decide)
  replace h:=condF (show Nat.beq p.length 0=false by cases hc:p.length with | zero=>exact absurd hc h0 | succ n=>rfl) h
  refine T.skip ?_
  refine T.seq ?_
  refine T.region ?_
  refine oN (EvN.mv (.hp 0 ver0 2 0 0) rfl) ?_
  refine oN (EvN.mv (hS false 1 ver 1 p.length) rfl) ?_
  refine oN (EvN.lenO (g:=false) sl23 rfl nofun) ?_
  obtain ⟨v1,cv1,h⟩:=bindL h
  refine oA (EvA.call rfl rfl rfl ((F_spec_l17Rd_pick_P r_ (p.length:Int) ver0 cv1).one 0 rfl (.cons (.hp rfl) (.cons (.pF rfl) .nil)) (rowsF_row rfl) (rowsF_row rfl) rfl)) ?_
  refine oN (EvN.asg (I v1.2) rfl) ?_
  refine TO.nil ?_
  refine T.joinF (G:=Unit) (fun _=>True) (fun _=>[(5,eL (cL ZIn.c) q.2)]) (fun _=>[some ⟨ver0,2,86,[[eL cY q.1.b,I q.1.p]]⟩]) (fun _ _ => ?_) ?_
  ·clear h
   refine T.seq ?_
   refine T.region ?_
   refine oN (EvN.mv (eL (cL ZIn.c) q.2) rfl) ?_
   refine oN (EvN.asg (eL (cL ZIn.c) q.2) rfl) ?_
   refine TO.nil ?_
   refine T.ret ?_
   repeat first | refine retS ?_ | refine retB ?_
   exact ⟨envOf [(4,eL (cL ZIn.c) q.2)],[some ⟨ver0,2,86,[[eL cY q.1.b,I q.1.p]]⟩],cutW rfl (wkC rfl wkN),Fin.ret (vs:=[eL (cL ZIn.c) q.2]) (.cons (.tmp rfl) .nil) ⟨rfl,rfl⟩⟩
  ·refine T.seq ?_
   refine T.region ?_
   refine oN (EvN.mv (.hp 0 ver0 2 0 0) rfl) ?_
   obtain ⟨v2,cv2,h⟩:=bindL h
   refine oA (EvA.call rfl rfl rfl ((F_spec_l17Rd_pick_P v1.1 (40:Int) ver0 cv2).one 0 rfl (.cons (.hp rfl) (.cons (.pF rfl) .nil)) (rowsF_row rfl) (rowsF_row rfl) rfl)) ?_
   refine TO.nil ?_
   obtain ⟨hi,h⟩:=gdD h
   refine T.clean (H0:=some ⟨ver0,2,86,[[eL cY v2.1.b,I v2.1.p]]⟩::some ⟨ver,1,31,nrows gh 4 p⟩::K) (e0:=envOf [(18,I v2.2),(6,I v1.2),(5,hS false 1 ver 1 p.length),(0,.hp 0 ver0 2 0 0)]) rfl (wkC rfl (wkC rfl (wkC rfl (wkC rfl wkN)))) ?_
   replace hN:NK 2 (some ⟨ver0,2,86,[[eL cY v2.1.b,I v2.1.p]]⟩::some ⟨ver,1,31,nrows gh 4 p⟩::K) gh 4 33 ZIn.c p:=hN.low fun b hb _=>by match b,hb with | b+2,_=>rfl
   have hin:v1.2.toNat<p.length:=by omega
   clear cv1 cv2 hp
   refine T.block ?_
   refine T.seq ?_
   refine T.region ?_
   refine oN (EvN.ieq rfl rfl) ?_
   refine oN (EvN.asg (Bo (v2.2==(0:Int))) rfl) ?_
   refine TO.nil ?_
   refine T.cond rfl (fun q0 => ?_) (fun q0 => ?_)
   ·replace h:=condT q0 h
    obtain ⟨g,k,v,hg,hk,hK,hnil⟩:=hN.row (i:=v1.2.toNat) hin
    have hlen:=hp2 v1.2.toNat
    unfold putP at h
    generalize hrw:p.getD v1.2.toNat []=row at hK hnil h hlen
    refine T.drawF (fun i=>[([],false),([],false),([],false),([],false),([],false),([1],false),([],false),([],false),([0],true),([],false),([],false),([0],true),([],false),([],false),([k+2],true),([],false),([1],true)].getD i ([],false)) (by kernel_rfl) (by kernel_rfl) ?_
    refine fN rfl (EvN.mv (hS false 1 ver 1 p.length) rfl) ?_
    refine fN rfl (EvN.mv (I v1.2) rfl) ?_
    refine fN rfl (EvN.mv (hS false 1 ver 1 p.length) rfl) ?_
    refine fN rfl (EvN.mv (I v1.2) rfl) ?_
    refine fN rfl (EvN.ixO (g:=false) sl23 rfl rfl nofun hi) ?_
    refine fR [1] rfl (fun G hG=>EvA.loadhp (hS g (k+2) v 4 row.length) ty31 rfl (hG.a0 rfl) rfl rfl (show (nrows gh 4 p)[v1.2.toNat]? = some [hS g (k+2) v 4 row.length] by rw [nrows_get hin,nrow,hg,hrw]) rfl) ?_
    refine fN rfl (EvN.mv (.hp 0 ver0 2 0 0) rfl) ?_
    refine fN rfl (EvN.mkF (c:=cI) ([(0:Int),(6:Int),(1:Int),(4:Int)]:List Int) [[I (0:Int)],[I (6:Int)],[I (1:Int)],[I (4:Int)]] sl63 rfl rfl rfl (fun _=>rfl) (fun _=>rfl) rfl) ?_
    obtain ⟨a,ca,h⟩:=bindL h
    refine fW 0 [] rfl rfl (fun G hG=>EvA.call rfl rfl rfl ((F_spec_l17Rd_num_P v2.1 ([(0:Int),(6:Int),(1:Int),(4:Int)]:List Int) ver0 ca).one 0 (hG.a0 rfl) (.cons (.hp rfl) (.cons (.pF rfl) .nil)) (rowsF_row rfl) (rowsF_row rfl) rfl)) ?_
    refine fN rfl (EvN.mv (.hp 0 ver0 2 0 0) rfl) ?_
    refine fN rfl (EvN.mkF (c:=cI) ([(0:Int),(3:Int),(-1:Int)]:List Int) [[I (0:Int)],[I (3:Int)],[I (-1:Int)]] sl63 rfl rfl rfl (fun _=>rfl) (fun _=>rfl) rfl) ?_
    obtain ⟨b,cb,h⟩:=bindL h
    refine fW 0 [] rfl rfl (fun G hG=>EvA.call rfl rfl rfl ((F_spec_l17Rd_num_P a.1 ([(0:Int),(3:Int),(-1:Int)]:List Int) ver0 cb).one 0 (hG.a0 rfl) (.cons (.hp rfl) (.cons (.pF rfl) .nil)) (rowsF_row rfl) (rowsF_row rfl) rfl)) ?_
    refine fN rfl (EvN.build [I a.2,I b.2,I (0:Int),I (0:Int)] Try.underlying33 zs33 fs33 rfl rfl) ?_
    refine fN rfl (EvN.mkF (c:=ZIn.c) ([(⟨a.2,b.2,(0:Int),(0:Int)⟩:ZIn)]:List ZIn) [[I a.2,I b.2,I (0:Int),I (0:Int)]] sl31 rfl rfl rfl (fun _=>rfl) ZIn.isF rfl) ?_
    refine fW (k+2) [] rfl (Nat.ble_eq_true_of_le (by simp;omega)) (fun G hG=>EvA.app1 (g:=g) (l:=row) (⟨a.2,b.2,(0:Int),(0:Int)⟩:ZIn) sl31 (by kernel_rfl) rfl rfl (hG.a0 hK) hnil (SrcOk.fz (l:=[(⟨a.2,b.2,(0:Int),(0:Int)⟩:ZIn)]) rfl (fun _=>rfl)) (cap_ok (by omega) rfl)) ?_
    refine fN rfl (EvN.ixO (g:=false) sl23 rfl rfl nofun hi) ?_
    refine fV 1 [] rfl rfl (fun G hG=>EvA.st ⟨ver,1,31,(nrows gh 4 p).set v1.2.toNat [hS false (k+2) (v+1) 4 (row++[(⟨a.2,b.2,(0:Int),(0:Int)⟩:ZIn)]).length]⟩ ty31 rfl rfl (hG.a0 rfl) rfl rfl (show (nrows gh 4 p)[v1.2.toNat]? = some [hS g (k+2) v 4 row.length] by rw [nrows_get hin,nrow,hg,hrw]) rfl rfl rfl) ?_
    refine TF.nil ?_
    obtain rfl:=Option.some.inj h
    have hN2:=hN.turn (r':=some ⟨ver0,2,86,[[eL cY b.1.b,I b.1.p]]⟩) (o':=some ⟨ver,1,31,nrows (gh.put v1.2.toNat (false,k+2,v+1)) 4 (p.set v1.2.toNat (row++[(⟨a.2,b.2,(0:Int),(0:Int)⟩:ZIn)]))⟩) hin hg (g':=false) (v':=v+1) (x:=row++[(⟨a.2,b.2,(0:Int),(0:Int)⟩:ZIn)]) nofun
    rw [<- nrows_set hin] at hN2
    refine ⟨(),trivial,cutS rfl (.cons (.row (.cons (.fz (.of_isF 9 _ rfl)) (.cons (.fz (.of_isF 9 _ rfl)) .nil))) .nil) (stl_cons (.fz (hN2.fzm (to:=31) rfl rfl ?_ (by simp) ZIn.isF)) stl_nil)⟩
    rw [<- nrows_set hin]
    rfl
   ·replace h:=condF q0 h
    refine T.seq ?_
    refine T.region ?_
    refine oN (EvN.ieq rfl rfl) ?_
    refine oN (EvN.asg (Bo (v2.2==(1:Int))) rfl) ?_
    refine TO.nil ?_
    refine T.cond rfl (fun q1 => ?_) (fun q1 => ?_)
    ·replace h:=condT q1 h
     obtain ⟨g,k,v,hg,hk,hK,hnil⟩:=hN.row (i:=v1.2.toNat) hin
     have hlen:=hp2 v1.2.toNat
     unfold putP at h
     generalize hrw:p.getD v1.2.toNat []=row at hK hnil h hlen
     refine T.drawF (fun i=>[([],false),([],false),([],false),([],false),([],false),([1],false),([],false),([],false),([0],true),([],false),([],false),([k+2],true),([],false),([1],true)].getD i ([],false)) (by kernel_rfl) (by kernel_rfl) ?_
     refine fN rfl (EvN.mv (hS false 1 ver 1 p.length) rfl) ?_
     refine fN rfl (EvN.mv (I v1.2) rfl) ?_
     refine fN rfl (EvN.mv (hS false 1 ver 1 p.length) rfl) ?_
     refine fN rfl (EvN.mv (I v1.2) rfl) ?_
     refine fN rfl (EvN.ixO (g:=false) sl23 rfl rfl nofun hi) ?_
     refine fR [1] rfl (fun G hG=>EvA.loadhp (hS g (k+2) v 4 row.length) ty31 rfl (hG.a0 rfl) rfl rfl (show (nrows gh 4 p)[v1.2.toNat]? = some [hS g (k+2) v 4 row.length] by rw [nrows_get hin,nrow,hg,hrw]) rfl) ?_
     refine fN rfl (EvN.mv (.hp 0 ver0 2 0 0) rfl) ?_
     refine fN rfl (EvN.mkF (c:=cI) ([(4:Int),(-1:Int),(3:Int)]:List Int) [[I (4:Int)],[I (-1:Int)],[I (3:Int)]] sl63 rfl rfl rfl (fun _=>rfl) (fun _=>rfl) rfl) ?_
     obtain ⟨a,ca,h⟩:=bindL h
     refine fW 0 [] rfl rfl (fun G hG=>EvA.call rfl rfl rfl ((F_spec_l17Rd_num_P v2.1 ([(4:Int),(-1:Int),(3:Int)]:List Int) ver0 ca).one 0 (hG.a0 rfl) (.cons (.hp rfl) (.cons (.pF rfl) .nil)) (rowsF_row rfl) (rowsF_row rfl) rfl)) ?_
     refine fN rfl (EvN.build [I (2:Int),I (0:Int),I (0:Int),I a.2] Try.underlying33 zs33 fs33 rfl rfl) ?_
     refine fN rfl (EvN.mkF (c:=ZIn.c) ([(⟨(2:Int),(0:Int),(0:Int),a.2⟩:ZIn)]:List ZIn) [[I (2:Int),I (0:Int),I (0:Int),I a.2]] sl31 rfl rfl rfl (fun _=>rfl) ZIn.isF rfl) ?_
     refine fW (k+2) [] rfl (Nat.ble_eq_true_of_le (by simp;omega)) (fun G hG=>EvA.app1 (g:=g) (l:=row) (⟨(2:Int),(0:Int),(0:Int),a.2⟩:ZIn) sl31 (by kernel_rfl) rfl rfl (hG.a0 hK) hnil (SrcOk.fz (l:=[(⟨(2:Int),(0:Int),(0:Int),a.2⟩:ZIn)]) rfl (fun _=>rfl)) (cap_ok (by omega) rfl)) ?_
     refine fN rfl (EvN.ixO (g:=false) sl23 rfl rfl nofun hi) ?_
     refine fV 1 [] rfl rfl (fun G hG=>EvA.st ⟨ver,1,31,(nrows gh 4 p).set v1.2.toNat [hS false (k+2) (v+1) 4 (row++[(⟨(2:Int),(0:Int),(0:Int),a.2⟩:ZIn)]).length]⟩ ty31 rfl rfl (hG.a0 rfl) rfl rfl (show (nrows gh 4 p)[v1.2.toNat]? = some [hS g (k+2) v 4 row.length] by rw [nrows_get hin,nrow,hg,hrw]) rfl rfl rfl) ?_
     refine TF.nil ?_
     obtain rfl:=Option.some.inj h
     have hN2:=hN.turn (r':=some ⟨ver0,2,86,[[eL cY a.1.b,I a.1.p]]⟩) (o':=some ⟨ver,1,31,nrows (gh.put v1.2.toNat (false,k+2,v+1)) 4 (p.set v1.2.toNat (row++[(⟨(2:Int),(0:Int),(0:Int),a.2⟩:ZIn)]))⟩) hin hg (g':=false) (v':=v+1) (x:=row++[(⟨(2:Int),(0:Int),(0:Int),a.2⟩:ZIn)]) nofun
     rw [<- nrows_set hin] at hN2
     refine ⟨(),trivial,cutS rfl (.cons (.row (.cons (.fz (.of_isF 9 _ rfl)) (.cons (.fz (.of_isF 9 _ rfl)) .nil))) .nil) (stl_cons (.fz (hN2.fzm (to:=31) rfl rfl ?_ (by simp) ZIn.isF)) stl_nil)⟩
     rw [<- nrows_set hin]
     rfl
    ·replace h:=condF q1 h
     refine T.seq ?_
     refine T.region ?_
     refine oN (EvN.ieq rfl rfl) ?_
     refine oN (EvN.asg (Bo (v2.2==(2:Int))) rfl) ?_
     refine TO.nil ?_
     refine T.cond rfl (fun q2 => ?_) (fun q2 => ?_)
     ·replace h:=condT q2 h
      refine T.block ?_
      refine T.loop (S:=Nat) (G:=NG×AH×Nat) (E:=Nat) (x:=4-p.length) (fun j=>if p.length+j<=3 then some (.inl (j+1)) else some (.inr j)) (fun j g=>j<=4-p.length/\NK 2 (some ⟨ver0,2,86,[[eL cY v2.1.b,I v2.1.p]]⟩::some ⟨g.2.2,1,31,nrows g.1 4 (p++List.replicate j [])⟩::g.2.1) g.1 4 33 ZIn.c (p++List.replicate j [])) (fun j g=>[(5,hS false 1 g.2.2 1 (p++List.replicate j []).length)]) (fun j g=>some ⟨ver0,2,86,[[eL cY v2.1.b,I v2.1.p]]⟩::some ⟨g.2.2,1,31,nrows g.1 4 (p++List.replicate j [])⟩::g.2.1) (s0:=0) (gh,K,ver) (loopO_run (fun i=>i) (4-p.length) (fun i hi=>by rw [if_pos (by omega)]) (by rw [if_neg (by omega)])) ⟨Nat.zero_le _,by simpa using hN⟩ (cutW (by simp) (wkC (by simp;rfl) wkN)) (fun j g z hz hinv => ?_)
      obtain ⟨gh,K,ver⟩:=g
      obtain ⟨hle,hN⟩:=hinv
      simp only at hN
      have hll:(p++List.replicate j []).length=p.length+j:=by simp
      have htk:p++List.replicate (j+1) []=(p++List.replicate j [])++[([]:List ZIn)]:=by rw [List.replicate_succ',List.append_assoc]
      generalize hl:(p++List.replicate j [])=l at hN hll htk ⊢
      refine T.seq ?_
      refine T.seq ?_
      refine T.region ?_
      refine oN (EvN.mv (hS false 1 ver 1 l.length) rfl) ?_
      refine oN (EvN.lenO (g:=false) sl23 rfl nofun) ?_
      refine oN (EvN.ile rfl rfl) ?_
      refine TO.nil ?_
      refine T.cond rfl (fun qa => ?_) (fun qa => ?_)
      ·have hj:p.length+j<=3:=by have := of_decide_eq_true qa;omega
       rw [if_pos hj] at hz
       obtain rfl:=Option.some.inj hz
       refine T.skip ?_
       refine T.block ?_
       refine T.region ?_
       refine oN (EvN.mv (hS false 1 ver 1 l.length) rfl) ?_
       refine oA (EvA.mkO (c:=ZIn.c) (b:=K.length+2) ([]:List ZIn) [] sl31 rfl rfl rfl (fun _=>rfl) rfl rfl) ?_
       refine TO.clean (H0:=some ⟨ver0,2,86,[[eL cY v2.1.b,I v2.1.p]]⟩::some ⟨ver,1,31,nrows gh 4 l⟩::(K++[bE false 0 4 33 (([]:List ZIn).map ZIn.c)])) (e0:=envOf [(58,hS false (K.length+2) 0 4 0),(57,hS false 1 ver 1 l.length)]) rfl (wkC rfl (wkC rfl wkN)) ?_
       refine oA (EvA.mkR (b:=(K++[bE false 0 4 33 (([]:List ZIn).map ZIn.c)]).length+2) [[hS false (K.length+2) 0 4 0]] sl23 rfl rfl rfl rfl) ?_
       refine oA (EvA.appR (g:=false) (rows:=nrows gh 4 l) (rows':=nrows gh 4 l++[[hS false (K.length+2) 0 4 0]]) (n':=l.length+1) sl23 (by kernel_rfl) rfl rfl (nrows_len gh 4 l).symm nofun (SrcOk.raw (rows:=[[hS false (K.length+2) 0 4 0]]) rfl (snoc_get (H:=_::_::(K++[_]))) rfl) (cap_ok (by simp;omega) rfl) rfl rfl) ?_
       refine oN (EvN.asg (hS false 1 (ver+1) 1 (l.length+1)) rfl) ?_
       refine TO.nil ?_
       refine ⟨j+1,(gh.put l.length (false,K.length+2,0),K++[bE false 0 4 33 (([]:List ZIn).map ZIn.c)]++[some ⟨0,1,31,[[hS false (K.length+2) 0 4 0]]⟩],ver+1),rfl,⟨by omega,?_⟩,cutW ?_ (wkC ?_ wkN)⟩
       ·rw [htk]
        refine hN.snoc (id:=K.length+2) (by simp) (by omega) (fun b h1 h2 => ?_) ?_ (fun _=>rfl)
        ·match b,h1 with
         | b+2,_=>
          simp only [List.length_cons,Nat.add_lt_add_iff_right] at h2
          simp only [List.getElem?_cons_succ,List.append_assoc]
          exact List.getElem?_append_left h2
        ·simp only [List.getElem?_cons_succ]
         exact snoc2_get
       ·show _::some (ABlk.mk _ _ _ (nrows _ 4 (p++List.replicate (j+1) [])))::_=_
        rw [htk,<- nrows_snoc]
        rfl
       ·show hS false 1 (ver+1) 1 (l.length+1)=hS false 1 (ver+1) 1 (p++List.replicate (j+1) []).length
        rw [htk,List.length_append]
        rfl
      ·have hj : ¬ p.length+j<=3:=by have := of_decide_eq_false qa;omega
       rw [if_neg hj] at hz
       obtain rfl:=Option.some.inj hz
       refine T.exit ?_
       refine ⟨_,rfl,fun he => ?_⟩
       subst he
       obtain rfl:=Option.some.inj h
       subst hl
       exact ⟨(),trivial,cutS rfl (.cons (.row (.cons (.fz (.of_isF 9 _ rfl)) (.cons (.fz (.of_isF 9 _ rfl)) .nil))) .nil) (stl_cons (.fz (hN.fzm rfl rfl rfl rfl ZIn.isF)) stl_nil)⟩
     ·replace h:=condF q2 h
      refine T.seq ?_
      refine T.region ?_
      refine oN (EvN.ieq rfl rfl) ?_
      refine oN (EvN.asg (Bo (v2.2==(3:Int))) rfl) ?_
      refine TO.nil ?_
      refine T.cond rfl (fun q3 => ?_) (fun q3 => ?_)
      ·replace h:=condT q3 h
       have hlen:=hp2 v1.2.toNat
       unfold putP at h
       have hset:p.set v1.2.toNat (p.getD v1.2.toNat [])=p:=by simp [hin]
       generalize hrw0:p.getD v1.2.toNat []=row0 at h hlen hset
       refine T.block ?_
       refine T.loop (S:=Nat) (G:=NG×AH) (E:=Nat) (x:=8-row0.length) (fun j=>if row0.length+j<=7 then some (.inl (j+1)) else some (.inr j)) (fun j g=>j<=8-row0.length/\NK 2 (some ⟨ver0,2,86,[[eL cY v2.1.b,I v2.1.p]]⟩::some ⟨ver,1,31,nrows g.1 4 (p.set v1.2.toNat (row0++List.replicate j (⟨1,0,0,0⟩:ZIn)))⟩::g.2) g.1 4 33 ZIn.c (p.set v1.2.toNat (row0++List.replicate j (⟨1,0,0,0⟩:ZIn)))) (fun j g=>[(6,I v1.2),(5,hS false 1 ver 1 p.length)]) (fun j g=>some ⟨ver0,2,86,[[eL cY v2.1.b,I v2.1.p]]⟩::some ⟨ver,1,31,nrows g.1 4 (p.set v1.2.toNat (row0++List.replicate j (⟨1,0,0,0⟩:ZIn)))⟩::g.2) (s0:=0) (gh,K) (loopO_run (fun i=>i) (8-row0.length) (fun i hi=>by rw [if_pos (by omega)]) (by rw [if_neg (by omega)])) ⟨Nat.zero_le _,by simpa [hset] using hN⟩ (cutW (by simp [hset]) (wkC rfl (wkC rfl wkN))) (fun j g z hz hinv => ?_)
       obtain ⟨gh,K⟩:=g
       obtain ⟨hle,hN⟩:=hinv
       simp only at hN
       have hin2:v1.2.toNat<(p.set v1.2.toNat (row0++List.replicate j (⟨1,0,0,0⟩:ZIn))).length:=by simp [hin]
       have hgt:(p.set v1.2.toNat (row0++List.replicate j (⟨1,0,0,0⟩:ZIn))).getD v1.2.toNat []=(row0++List.replicate j (⟨1,0,0,0⟩:ZIn)):=by simp [hin]
       have hrl:(row0++List.replicate j (⟨1,0,0,0⟩:ZIn)).length=row0.length+j:=by simp
       have hnx:∀ x,((p.set v1.2.toNat (row0++List.replicate j (⟨1,0,0,0⟩:ZIn)))).set v1.2.toNat x=p.set v1.2.toNat x:=fun x=>by simp
       have htk:row0++List.replicate (j+1) (⟨1,0,0,0⟩:ZIn)=(row0++List.replicate j (⟨1,0,0,0⟩:ZIn))++[(⟨1,0,0,0⟩:ZIn)]:=by rw [List.replicate_succ',List.append_assoc]
       obtain ⟨g,k,v,hg,hk,hK,hnil⟩:=hN.row (i:=v1.2.toNat) hin2
       rw [hgt] at hK hnil
       have hpl:(p.set v1.2.toNat (row0++List.replicate j (⟨1,0,0,0⟩:ZIn))).length=p.length:=by simp
       generalize hrw:(row0++List.replicate j (⟨1,0,0,0⟩:ZIn))=row at hN hin2 hgt hrl hnx htk hK hnil hpl ⊢
       generalize hl:p.set v1.2.toNat row=l at hN hin2 hgt hnx hpl ⊢
       refine T.seq ?_
       refine T.seq ?_
       refine T.region ?_
       refine oN (EvN.mv (hS false 1 ver 1 p.length) rfl) ?_
       refine oN (EvN.mv (I v1.2) rfl) ?_
       refine oN (EvN.ixO (g:=false) sl23 rfl rfl nofun hi) ?_
       refine oA (EvA.loadhp (hS g (k+2) v 4 row.length) ty31 rfl rfl rfl rfl (show (nrows gh 4 l)[v1.2.toNat]? = some [hS g (k+2) v 4 row.length] by rw [nrows_get hin2,nrow,hg,hgt]) rfl) ?_
       refine oN (EvN.lenO (g:=g) sl31 rfl (fun x=>by rw [hnil x];rfl)) ?_
       refine oN (EvN.ile rfl rfl) ?_
       refine TO.nil ?_
       refine T.cond rfl (fun qa => ?_) (fun qa => ?_)
       ·have hj:row0.length+j<=7:=by have := of_decide_eq_true qa;omega
        rw [if_pos hj] at hz
        obtain rfl:=Option.some.inj hz
        refine T.skip ?_
        refine T.block ?_
        refine T.region ?_
        refine oN (EvN.mv (hS false 1 ver 1 p.length) rfl) ?_
        refine oN (EvN.mv (I v1.2) rfl) ?_
        refine oN (EvN.mv (hS false 1 ver 1 p.length) rfl) ?_
        refine oN (EvN.mv (I v1.2) rfl) ?_
        refine oN (EvN.ixO (g:=false) sl23 rfl rfl nofun hi) ?_
        refine oA (EvA.loadhp (hS g (k+2) v 4 row.length) ty31 rfl rfl rfl rfl (show (nrows gh 4 l)[v1.2.toNat]? = some [hS g (k+2) v 4 row.length] by rw [nrows_get hin2,nrow,hg,hgt]) rfl) ?_
        refine oN (EvN.build [I (1:Int),I (0:Int),I (0:Int),I (0:Int)] Try.underlying33 zs33 fs33 rfl rfl) ?_
        refine oN (EvN.mkF (c:=ZIn.c) ([(⟨1,0,0,0⟩:ZIn)]:List ZIn) [[I (1:Int),I (0:Int),I (0:Int),I (0:Int)]] sl31 rfl rfl rfl (fun _=>rfl) ZIn.isF rfl) ?_
        refine oA (EvA.app1 (g:=g) (l:=row) (⟨1,0,0,0⟩:ZIn) sl31 (by kernel_rfl) rfl rfl hK hnil (SrcOk.fz (l:=[(⟨1,0,0,0⟩:ZIn)]) rfl (fun _=>rfl)) (cap_ok (by omega) rfl)) ?_
        refine oN (EvN.ixO (g:=false) sl23 rfl rfl nofun hi) ?_
        refine oV (EvA.st ⟨ver,1,31,(nrows gh 4 l).set v1.2.toNat [hS false (k+2) (v+1) 4 (row++[(⟨1,0,0,0⟩:ZIn)]).length]⟩ ty31 rfl rfl rfl rfl rfl (show (nrows gh 4 l)[v1.2.toNat]? = some [hS g (k+2) v 4 row.length] by rw [nrows_get hin2,nrow,hg,hgt]) rfl rfl rfl) ?_
        refine TO.nil ?_
        have hN2:=hN.turn (r':=some ⟨ver0,2,86,[[eL cY v2.1.b,I v2.1.p]]⟩) (o':=some ⟨ver,1,31,nrows (gh.put v1.2.toNat (false,k+2,v+1)) 4 (l.set v1.2.toNat (row++[(⟨1,0,0,0⟩:ZIn)]))⟩) hin2 hg (g':=false) (v':=v+1) (x:=row++[(⟨1,0,0,0⟩:ZIn)]) nofun
        refine ⟨j+1,(gh.put v1.2.toNat (false,k+2,v+1),K.set k (bE false (v+1) 4 33 ((row++[(⟨1,0,0,0⟩:ZIn)]).map ZIn.c))),rfl,⟨by omega,?_⟩,cutW ?_ (wkC rfl (wkC rfl wkN))⟩
        ·rw [hnx] at hN2
         rw [htk]
         exact hN2
        ·show _::some (ABlk.mk _ _ _ (nrows _ 4 (p.set v1.2.toNat (row0++List.replicate (j+1) (⟨1,0,0,0⟩:ZIn)))))::_=_
         rw [htk,<- hnx,<- nrows_set hin2]
         rfl
       ·have hj : ¬ row0.length+j<=7:=by have := of_decide_eq_false qa;omega
        rw [if_neg hj] at hz
        obtain rfl:=Option.some.inj hz
        refine T.exit ?_
        refine ⟨_,rfl,fun he => ?_⟩
        subst he
        obtain rfl:=Option.some.inj h
        subst hrw
        subst hl
        exact ⟨(),trivial,cutS rfl (.cons (.row (.cons (.fz (.of_isF 9 _ rfl)) (.cons (.fz (.of_isF 9 _ rfl)) .nil))) .nil) (stl_cons (.fz (hN.fzm rfl rfl rfl (by simp) ZIn.isF)) stl_nil)⟩
      ·replace h:=condF q3 h
       refine T.seq ?_
       refine T.region ?_
       refine oN (EvN.ieq rfl rfl) ?_
       refine oN (EvN.asg (Bo (v2.2==(4:Int))) rfl) ?_
       refine TO.nil ?_
       refine T.cond rfl (fun q4 => ?_) (fun q4 => ?_)
       ·replace h:=condT q4 h
        refine T.cut (e0:=envOf [(5,eL (cL ZIn.c) p)]) (H0:=[some ⟨ver0,2,86,[[eL cY v2.1.b,I v2.1.p]]⟩]) (cutS rfl (.cons (.row (.cons (.fz (.of_isF 9 _ rfl)) (.cons (.fz (.of_isF 9 _ rfl)) .nil))) .nil) (stl_cons (.fz (hN.fzm rfl rfl rfl rfl ZIn.isF)) stl_nil)) ?_
        refine T.region ?_
        refine oN (EvN.mv (eL (cL ZIn.c) p) rfl) ?_
        refine oN (EvN.slL sl23 rfl (.yes rfl) .no ⟨by omega,by omega,by omega⟩ (fun _=>rfl)) ?_
        refine oN (EvN.asg (eL (cL ZIn.c) ((p.drop 1).take (p.length-1))) rfl) ?_
        refine TO.nil ?_
        obtain rfl:=Option.some.inj h
        exact ⟨(),trivial,cutW rfl (wkC rfl wkN)⟩
       ·replace h:=condF q4 h
        refine T.skip ?_
        obtain rfl:=Option.some.inj h
        exact ⟨(),trivial,cutS rfl (.cons (.row (.cons (.fz (.of_isF 9 _ rfl)) (.cons (.fz (.of_isF 9 _ rfl)) .nil))) .nil) (stl_cons (.fz (hN.fzm rfl rfl rfl rfl ZIn.isF)) stl_nil)⟩
end Go.Proofs.Ytlgfihlflchhgaa
