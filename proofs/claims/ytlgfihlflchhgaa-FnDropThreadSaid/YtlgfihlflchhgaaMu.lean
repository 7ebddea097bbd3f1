/-
 PROVED: spec.l1Copy hands back its argument in memory of its own. No conditions.
-/
import Derived.Test.YtlgfihlflchhgaaCpd
import Derived.Test.YtlgfihlflchhgaaSf
import Derived.Test.YtlgfihlflchhgaaGC
namespace Go.Proofs.Ytlgfihlflchhgaa
open Go.RowKit
set_option maxRecDepth 100000
theorem fits_row {p:List (List ZIn)} (h:fitsP p=true):p.length<=1048576/\∀ i,(p.getD i []).length<=1048576:=by
 simp only [fitsP,Bool.and_eq_true,decide_eq_true_eq,List.all_eq_true] at h
 refine ⟨h.1,fun i => ?_⟩
 by_cases hi:i<p.length
 ·simpa [hi] using h.2 _ (List.getElem_mem hi)
 ·simp [hi]
theorem cap_ok {n m:Nat} (hn:n<=2097152) (hm:Nat.ble m 1000=true):capOK n m=true:=by
 have h1:=Nat.le_of_ble_eq_true hm
 have h2:n*m<=2097152*1000:=Nat.mul_le_mul hn h1
 exact decide_eq_true ⟨by omega,by omega⟩
theorem take_snoc (p:List (List ZIn)) {i:Nat} (h:i<p.length):p.take (i+1)=p.take i++[p.getD i []]:=by
 have e:p.getD i []=p[i]:=by rw [List.getD_eq_getElem?_getD,List.getElem?_eq_getElem h];rfl
 rw [e]
 exact (List.take_append_getElem h).symm
theorem l1Copy_ON (p:List (List ZIn)) (hp:fitsP p=true):BCall Try.prog 21 [eL (cL ZIn.c) p] [] (OwnNR 4 33 31 ZIn.c (fun x=>x) p 0 []):=by
 obtain ⟨hp1,hp2⟩:=fits_row hp
 refine BCall.mkON Try.func21 rfl (by kernel_rfl) rfl (by kernel_rfl) (e0:=envOf [(0,eL (cL ZIn.c) p)]) (wkC rfl wkN) ren_id ZIn.isF ?_
 refine T.seq ?_
 refine T.region ?_
 refine oN (EvN.asg (.nil) rfl) ?_
 refine TO.nil ?_
 refine T.seq ?_
 refine T.region ?_
 refine oA (EvA.mkR ([]:List (List AV)) sl23 rfl rfl rfl rfl) ?_
 refine oN (EvN.asg (hS false 0 0 1 0) rfl) ?_
 refine TO.nil ?_
 refine T.seq ?_
 refine T.seq ?_
 refine T.region ?_
 refine oN (EvN.asg (I 0) rfl) ?_
 refine TO.nil ?_
 refine T.block ?_
 refine T.loop (S:=Nat) (G:=NG×AH×Nat) (E:=Nat) (x:=p.length) (fun i=>if i<p.length then some (.inl (i+1)) else some (.inr i)) (fun i g=>i<=p.length/\NK 1 (some ⟨g.2.2,1,31,nrows g.1 4 (p.take i)⟩::g.2.1) g.1 4 33 ZIn.c (p.take i))
  (fun i g=>[(4,I i),(3,hS false 0 g.2.2 1 (p.take i).length),(0,eL (cL ZIn.c) p)]) (fun i g=>some ⟨g.2.2,1,31,nrows g.1 4 (p.take i)⟩::g.2.1) (s0:=0) (fun _=>(false,0,0),[],0)
  (loopO_run (fun i=>i) p.length (fun i hi=>by simp [hi]) (by simp)) ⟨Nat.zero_le _,by exact NK.nil⟩ (cutW rfl (wkC rfl (wkC rfl (wkC rfl wkN)))) (fun i g z hz hinv => ?_)
 obtain ⟨gh,K,ver⟩:=g
 obtain ⟨hle,hN⟩:=hinv
 simp only at hN
 generalize hl:p.take i=l at hN ⊢
 refine T.seq ?_
 refine T.seq ?_
 refine T.region ?_
 refine oN (EvN.mv (I i) rfl) ?_
 refine oN (EvN.mv (eL (cL ZIn.c) p) rfl) ?_
 refine oN (EvN.lenL sl23 rfl) ?_
 refine oN (EvN.ilt rfl rfl) ?_
 refine TO.nil ?_
 have hll:l.length=i:=by rw [<- hl,List.length_take];omega
 refine T.cond rfl (fun q => ?_) (fun q => ?_)
 ·have hi:i<p.length:=by have := of_decide_eq_true q;omega
  rw [if_pos hi] at hz
  obtain rfl:=Option.some.inj hz
  have hrow:=hp2 i
  have htk:=take_snoc p hi
  rw [hl] at htk
  generalize hr:p.getD i []=row at hrow htk
  refine T.skip ?_
  refine T.seq ?_
  refine T.block ?_
  refine T.region ?_
  refine oN (EvN.mv (hS false 0 ver 1 l.length) rfl) ?_
  refine oA (EvA.mkO (c:=ZIn.c) (b:=K.length+1) ([]:List ZIn) [] sl31 rfl rfl rfl (fun _=>rfl) rfl rfl) ?_
  refine oN (EvN.mv (eL (cL ZIn.c) p) rfl) ?_
  refine oN (EvN.mv (I i) rfl) ?_
  refine oN (EvN.ixL sl23 rfl rfl ⟨by omega,by omega⟩ (fun _=>rfl)) ?_
  refine oN (EvN.loadfp (eL ZIn.c row) ty31 rfl (by subst hr;rfl)) ?_
  refine oA (EvA.appF (l:=([]:List ZIn)) row sl31 (by kernel_rfl) rfl rfl (snoc_get (H:=_::K)) (SrcOk.fz (l:=row) rfl (fun _=>rfl)) (cap_ok (by simp;omega) rfl)) ?_
  refine TO.clean (H0:=some ⟨ver,1,31,nrows gh 4 l⟩::(K++[bE false 1 4 33 (row.map ZIn.c)])) (e0:=envOf [(18,hS false (K.length+1) 1 4 row.length),(12,hS false 0 ver 1 l.length),(4,I i),(0,eL (cL ZIn.c) p)]) (snoc_set (H:=_::K)).symm (wkC rfl (wkC rfl (wkC rfl (wkC rfl wkN)))) ?_
  refine oA (EvA.mkR (b:=(K++[bE false 1 4 33 (row.map ZIn.c)]).length+1) [[hS false (K.length+1) 1 4 row.length]] sl23 rfl rfl rfl rfl) ?_
  refine oA (EvA.appR (g:=false) (rows:=nrows gh 4 l) (rows':=nrows gh 4 l++[[hS false (K.length+1) 1 4 row.length]]) (n':=l.length+1) sl23 (by kernel_rfl) rfl rfl (nrows_len gh 4 l).symm nofun (SrcOk.raw (rows:=[[hS false (K.length+1) 1 4 row.length]]) rfl (snoc_get (H:=_::(K++[_]))) rfl) (cap_ok (by simp;omega) rfl) rfl rfl) ?_
  refine oN (EvN.asg (hS false 0 (ver+1) 1 (l.length+1)) rfl) ?_
  refine TO.nil ?_
  refine T.region ?_
  refine oN (EvN.mv (I i) rfl) ?_
  refine oN (EvN.add rfl rfl (IntWalk.i64_in _ ⟨by omega,by omega⟩)) ?_
  refine oN (EvN.asg (I (i+1:Nat)) rfl) ?_
  refine TO.nil ?_
  refine ⟨i+1,(gh.put l.length (false,K.length+1,1),K++[bE false 1 4 33 (row.map ZIn.c)]++[some ⟨0,1,31,[[hS false (K.length+1) 1 4 row.length]]⟩],ver+1),rfl,⟨hi,?_⟩,cutW ?_ (wkC rfl (wkC ?_ (wkC rfl wkN)))⟩
  ·rw [htk]
   refine hN.snoc (id:=K.length+1) (by simp) (by omega) (fun b h1 h2 => ?_) ?_ nofun
   ·match b,h1 with
    | b+1,_=>
     simp only [List.length_cons,Nat.add_lt_add_iff_right] at h2
     simp only [List.getElem?_cons_succ,List.append_assoc]
     exact List.getElem?_append_left h2
   ·simp only [List.getElem?_cons_succ]
    exact snoc2_get
  ·show some (ABlk.mk _ _ _ (nrows _ 4 (p.take (i+1))))::_=_
   rw [htk,<- nrows_snoc]
   rfl
  ·show hS false 0 (ver+1) 1 (l.length+1)=hS false 0 (ver+1) 1 (p.take (i+1)).length
   rw [htk,List.length_append]
   rfl
 ·have hi : ¬ i<p.length:=by have := of_decide_eq_false q;omega
  rw [if_neg hi] at hz
  obtain rfl:=Option.some.inj hz
  refine T.exit ?_
  refine ⟨_,rfl,fun he => ?_⟩
  subst he
  rw [List.take_length] at hl
  subst hl
  refine T.seq ?_
  refine T.region ?_
  refine oN (EvN.mv (hS false 0 ver 1 p.length) rfl) ?_
  refine oN (EvN.asg (hS false 0 ver 1 p.length) rfl) ?_
  refine TO.nil ?_
  refine T.ret ?_
  repeat first | refine retS ?_ | refine retB ?_
  exact Fin.ret (vs:=[hS false 0 ver 1 p.length]) (.cons (.tmp rfl) .nil) ⟨0,ver,gh,rfl,rfl,⟨fun i hi=>⟨Nat.zero_le _,(hN.at_ i hi).2⟩,hN.nil_,hN.sep⟩,fun i hi h0=>absurd (hN.at_ i hi).1 (by omega)⟩
theorem NK.row {r o:Option ABlk} {K:AH} {gh:NG} {w:Nat} {ty:TypeId} {f:ZIn->List AV} {l:List (List ZIn)} (h:NK 2 (r::o::K) gh w ty f l) {i:Nat} (hi:i<l.length):∃ g k v,gh i=(g,k+2,v)/\k<K.length/\K[k]? = some (bE g v w ty ((l.getD i []).map f))/\(g=true->l.getD i []=[]):=by
 obtain ⟨h1,h2⟩:=h.at_ i hi
 have h3:=h.nil_ i hi
 generalize he:gh i=x at h1 h2 h3
 obtain ⟨g,id,v⟩:=x
 simp only at h1 h2 h3
 obtain ⟨k,rfl⟩:∃ k,id=k+2:=⟨id-2,by omega⟩
 simp only [List.getElem?_cons_succ] at h2
 exact ⟨g,k,v,rfl,(List.getElem?_eq_some_iff.1 h2).1,h2,h3⟩
theorem NK.turn {r o r' o':Option ABlk} {K:AH} {gh:NG} {w:Nat} {ty:TypeId} {f:ZIn->List AV} {l:List (List ZIn)} (h:NK 2 (r::o::K) gh w ty f l) {i:Nat} (hi:i<l.length) {g:Bool} {k v:Nat} (he:gh i=(g,k+2,v)) {g':Bool} {v':Nat} {x:List ZIn} (hg:g'=true->x=[]) :
  NK 2 (r'::o'::K.set k (bE g' v' w ty (x.map f))) (gh.put i (g',k+2,v')) w ty f (l.set i x):=by
 have h1:=h.set hi (g:=g') (ver:=v') (r:=x) hg
 rw [he] at h1
 refine h1.low fun b hb _ => ?_
 match b,hb with
 | b+2,_=>simp [List.getElem?_cons_succ]
end Go.Proofs.Ytlgfihlflchhgaa
