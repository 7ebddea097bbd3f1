/-
 A schedule's outcome hangs on the candidate that it leads to only. Plain theorems. No conditions.
-/
import Derived.Test.YtlmjnhnpahicmaaGL
namespace Go.Proofs.Ytlmjnhnpahicmaa
open Go.RowKit
set_option maxRecDepth 100000
section
variable {p:List (List ZIn)} {x:XS} {F:List Int}
def Rg (p:List (List ZIn)) (x:XS) (V:Int->Int) (t:Nat) (g:Int):Nat->Int
 | 0=>0
 | k+1=>if rdX (ins p t k)=true/\(ins p t k).Reg=g then V (x.1.getD (base p t k) default) else Rg p x V t g k
def Vf (p:List (List ZIn)) (x:XS):Nat->Int->Int
 | 0,_=>0
 | f+1,n=>if (ev p n).Thread<0 then 0 else
  if (ins p (ev p n).Thread.toNat (ev p n).Index.toNat).Op=3 then Rg p x (Vf p x f) (ev p n).Thread.toNat (ins p (ev p n).Thread.toNat (ev p n).Index.toNat).Reg (ev p n).Index.toNat
  else (ins p (ev p n).Thread.toNat (ev p n).Index.toNat).Val
theorem Rg_congr {V W:Int->Int} {t:Nat} {g:Int}:∀ {k:Nat},(∀ j,j<k->rdX (ins p t j)=true->V (x.1.getD (base p t j) default)=W (x.1.getD (base p t j) default))->Rg p x V t g k=Rg p x W t g k
 | 0,_=>rfl
 | k+1,h=>by
  unfold Rg
  rw [Rg_congr (k:=k) fun j hj=>h j (by omega)]
  split
  ·rename_i hc
   exact h k (by omega) hc.1
  ·rfl
theorem rd_o {t k:Nat} (h:rdX (ins p t k)=true) : ¬ ((p.getD t default).getD k default).Op=4:=fun e=>by
 unfold rdX at h
 have : (ins p t k).Op=4:=e
 rw [this] at h
 cases h
theorem wr_o {t k:Nat} (h:wrX (ins p t k)=true) : ¬ ((p.getD t default).getD k default).Op=4:=fun e=>by
 unfold wrX at h
 have : (ins p t k).Op=4:=e
 rw [this] at h
 cases h
theorem base_mem (R:RunOf p x F) {t k:Nat} (h:Isn p t k):(base p t k:Int)∈F:=(R.mem _).2 ⟨by omega,by have := h.ev.2;omega⟩
theorem base_lt (R:RunOf p x F) {t j k:Nat} (hj:Isn p t j) (hk:Isn p t k) (h:j<k):rk F (base p t j:Int)<rk F (base p t k:Int):=by
 refine R.po _ _ (base_mem R hj) (base_mem R hk) ?_ ?_ ?_
 ·rw [hj.ev.1];simp only [];omega
 ·rw [hj.ev.1,hk.ev.1]
 ·rw [hj.ev.1,hk.ev.1];simp only [];omega
theorem from_rk (hp:PV p) (R:RunOf p x F) {t k:Nat} (h:Isn p t k) (hr:rdX (ins p t k)=true):x.1.getD (base p t k) default∈F/\rk F (x.1.getD (base p t k) default)<rk F (base p t k:Int):=by
 have hm:=base_mem R h
 obtain ⟨c,c1,c2,c3⟩:=R.rd hp hm (by rw [h.ev.1];exact hr)
 rw [Int.toNat_natCast] at c2
 obtain ⟨i0,i1⟩:=(R.mem _).1 hm
 have O:=(R.od _ (ev_loc hp i0 i1)).1
 have := (c3 c c1).1 (Nat.le_refl _)
 rw [<- c2] at this
 exact ⟨by rw [c2];exact ((O.mem _).1 (getD_memI c1)).1,this⟩
theorem Vf_stable (hp:PV p) (R:RunOf p x F):∀ (f f':Nat) (n:Int),n∈F->rk F n<f->rk F n<f'->Vf p x f n=Vf p x f' n
 | 0,_,_,_,h,_=>by omega
 | _+1,0,_,_,_,h=>by omega
 | f+1,f'+1,n,hn,h1,h2=>by
  obtain ⟨n0,n1⟩:=(R.mem n).1 hn
  unfold Vf
  rcases ev_cases n0 n1 with h3 | ⟨t,k,h3,rfl⟩
  ·have := (ev_init (p:=p) (l:=n.toNat) (by omega)).1
   rw [Int.toNat_of_nonneg n0] at this
   rw [this]
   rfl
  ·rw [h3.ev.1]
   simp only [Int.toNat_natCast]
   rw [Rg_congr (V:=Vf p x f) (W:=Vf p x f') fun j hj hr => ?_]
   have hI:Isn p t j:=⟨h3.t,by have := h3.k;omega,rd_o hr⟩
   obtain ⟨g1,g2⟩:=from_rk hp R hI hr
   have g3:=base_lt R hI h3 hj
   exact Vf_stable hp R f f' _ g1 (by omega) (by omega)
theorem F_len (hp:PV p) (R:RunOf p x F):F.length<=24:=by
 have hel:=evs_len hp.vs
 have := List.Nodup.length_le_of_subset (l₂:=(List.range (evs p).length).map fun (i:Nat)=>(i:Int)) R.nd fun n hn=>by
  obtain ⟨a,b⟩:=(R.mem n).1 hn
  exact List.mem_map.2 ⟨n.toNat,List.mem_range.2 (by omega),by omega⟩
 have h2:((List.range (evs p).length).map fun (i:Nat)=>(i:Int)).length=(evs p).length:=by simp
 omega
def Vx (p:List (List ZIn)) (x:XS):Int->Int:=Vf p x 26
theorem Vx_init {l:Nat} (hl:l<3):Vx p x (l:Int)=0:=by
 unfold Vx Vf
 rw [(ev_init (p:=p) hl).1]
 rfl
theorem Vx_base (hp:PV p) (R:RunOf p x F) {t k:Nat} (h:Isn p t k):Vx p x (base p t k:Int)=if (ins p t k).Op=3 then Rg p x (Vx p x) t (ins p t k).Reg k else (ins p t k).Val:=by
 have hF:=F_len hp R
 show Vf p x 26 (base p t k:Int)=_
 rw [Vf,h.ev.1]
 simp only [Int.toNat_natCast]
 rw [if_neg (by omega),Rg_congr (V:=Vf p x 25) (W:=Vx p x) fun j hj hr => ?_]
 have hI:Isn p t j:=⟨h.t,by have := h.k;omega,rd_o hr⟩
 obtain ⟨g1,g2⟩:=from_rk hp R hI hr
 have g3:rk F (x.1.getD (base p t j) default)<F.length:=List.idxOf_lt_length_of_mem g1
 exact Vf_stable hp R 25 26 _ g1 (by omega) (by omega)
theorem cut_uniq {n:Int} {a b c d:List Int} (h:a++n::b=c++n::d) (ha:n∉a) (hc:n∉c):a=c:=by
 have e:(a++n::b).idxOf n=(c++n::d).idxOf n:=by rw [h]
 rw [List.idxOf_append,List.idxOf_append,if_neg ha,if_neg hc,List.idxOf_cons_self,List.idxOf_cons_self] at e
 exact (List.append_inj h (by omega)).1
structure ZOk (p:List (List ZIn)) (x:XS) (s:List Int) (m:Nat) (z:ZSt):Prop where
 a:∀ t:Nat,t<p.length->z.at_.getD t default=((s.take m).count (t:Int):Int)
 al:z.at_.length=p.length
 rl:z.regs.length=3*p.length
 ml:z.mem.length=3
 r:∀ t g:Nat,t<p.length->g<3->z.regs.getD (3*t+g) default=Rg p x (Vx p x) t (g:Int) ((s.take m).count (t:Int))
 m:∀ l:Nat,l<3->z.mem.getD l default=Vx p x (((l:Int)::(ordF p s m).filter (Wl p (l:Int))).getD ((ordF p s m).filter (Wl p (l:Int))).length default)
theorem snoc_last (a b:Int) (l:List Int):(a::(l++[b])).getD (l++[b]).length default=b:=by
 rw [List.getD_eq_getElem?_getD,List.length_append,List.length_singleton,List.getElem?_cons_succ,List.getElem?_append_right (Nat.le_refl _)]
 simp
theorem zok_step (hp:PV p) {s:List Int} (hw:Whole p s) (hx:x=runX p (ordF p s s.length)) (R:RunOf p x ([0,1,2]++ordF p s s.length)) {m:Nat} (hm:m<s.length) {z:ZSt} (h:ZOk p x s m z) :
  ZOk p x s (m+1) (aftS z (s.getD m default) ((p.getD (s.getD m default).toNat default).getD (z.at_.getD (s.getD m default).toNat default).toNat default)):=by
 obtain ⟨_,hg,hc⟩:=hw
 obtain ⟨g1,g2,g3⟩:=good_at hg hm
 have hl:=hp.vs.1
 have hT:(s.getD m default).toNat=stT s m:=rfl
 have hat:=h.a _ g1
 have hk:(s.take m).count ((stT s m:Nat):Int)=stK s m:=by rw [g2];rfl
 rw [hk] at hat
 rw [hT,hat,Int.toNat_natCast]
 have hi:(p.getD (stT s m) default).getD (stK s m) default=ins p (stT s m) (stK s m):=rfl
 rw [hi]
 have hin:=hp.ins _ _ g1 g3
 rw [hi] at hin
 obtain ⟨x1,x2,x3,x4,x5,x6⟩:=hin
 have hcount:∀ t:Nat,(s.take (m+1)).count (t:Int)=(s.take m).count (t:Int)+if t=stT s m then 1 else 0:=fun t=>by
  rw [take_count hm]
  by_cases e:t=stT s m
  ·rw [if_pos e,if_pos (by rw [e,g2])]
  ·rw [if_neg e,if_neg (by rw [<- g2];omega)]
 have hok:=ord_ok hp hg (Nat.le_refl s.length)
 have hI:=OrdI.all hg (m:=m) (by omega)
 have hIall:=OrdI.all hg (Nat.le_refl s.length)
 have hnd:(ordF p s s.length).Nodup:=hIall.pw.imp fun h=>h.1
 -- an event that is run now: what it reads from is the last write
 have hrd:rdX (ins p (stT s m) (stK s m))=true->z.mem.getD (ins p (stT s m) (stK s m)).Loc.toNat default=Vx p x (x.1.getD (base p (stT s m) (stK s m)) default):=fun hr=>by
  have hIs:Isn p (stT s m) (stK s m):=⟨g1,g3,rd_o hr⟩
  have hmem:(base p (stT s m) (stK s m):Int)∈ordF p s s.length:=(hIall.mem _).2 ⟨_,_,hIs,by rw [List.take_length,hc _ g1];exact g3,rfl⟩
  obtain ⟨f1,_⟩:=run_from (ordF p s s.length) hnd hok
  obtain ⟨o1,o2,e1,e2⟩:=f1 _ hmem (by rw [hIs.ev.1];exact hr)
  rw [hIs.ev.1,Int.toNat_natCast,<- hx] at e2
  simp only at e2
  have hpre:∀ k,m<=k->∃ r,ordF p s k=ordF p s m++r:=fun k hk=>by
   induction hk with
   | refl=>exact ⟨[],by simp⟩
   | @step k _ ih=>
    obtain ⟨r,hr⟩:=ih
    exact ⟨r++stepN p (stT s k) (stK s k),by rw [ordF,hr,List.append_assoc]⟩
  obtain ⟨r,hr2⟩:∃ r,ordF p s s.length=ordF p s m++(base p (stT s m) (stK s m):Int)::r:=by
   have hm1:ordF p s (m+1)=ordF p s m++[(base p (stT s m) (stK s m):Int)]:=by
    rw [ordF,stepN,if_neg (rd_o hr)]
   have : ∀ k,m+1<=k->∃ r,ordF p s k=ordF p s (m+1)++r:=fun k hk=>by
    induction hk with
    | refl=>exact ⟨[],by simp⟩
    | @step k _ ih=>
     obtain ⟨r,hr⟩:=ih
     exact ⟨r++stepN p (stT s k) (stK s k),by rw [ordF,hr,List.append_assoc]⟩
   obtain ⟨r,hr3⟩:=this s.length (by omega)
   exact ⟨r,by rw [hr3,hm1,List.append_assoc];rfl⟩
  have hno:(base p (stT s m) (stK s m):Int)∉ordF p s m:=fun hm2=>by
   obtain ⟨t',k',h1,h2,h3⟩:=(hI.mem _).1 hm2
   obtain ⟨e3,e4⟩:=base_inj hIs h1 (by omega)
   rw [<- e3,<- e4,hk] at h2
   omega
  have hno1:(base p (stT s m) (stK s m):Int)∉o1:=fun hm2=>by
   rw [e1] at hnd
   exact (List.nodup_append.1 hnd).2.2 _ hm2 _ (by simp) rfl
  have := cut_uniq (e1.symm.trans hr2) hno1 hno
  rw [h.m (ins p (stT s m) (stK s m)).Loc.toNat (by omega),Int.toNat_of_nonneg x1,<- this,<- e2]
 have hval:wrX (ins p (stT s m) (stK s m))=true->valS z (s.getD m default) (ins p (stT s m) (stK s m))=Vx p x (base p (stT s m) (stK s m):Int):=fun hw=>by
  have hIs:Isn p (stT s m) (stK s m):=⟨g1,g3,wr_o hw⟩
  rw [Vx_base hp R hIs]
  unfold valS
  split
  ·have e:(s.getD m default*3+(ins p (stT s m) (stK s m)).Reg).toNat=3*stT s m+(ins p (stT s m) (stK s m)).Reg.toNat:=by rw [<- g2];omega
   rw [e,h.r _ _ g1 (by omega),hk,Int.toNat_of_nonneg x3]
  ·rfl
 unfold aftS
 refine ⟨fun t ht => ?_,by simp only [List.length_set];exact h.al,?_,?_,fun t g ht hg3 => ?_,fun l hl3 => ?_⟩
 ·simp only []
  rw [hT,getD_set_eq (by rw [h.al];exact g1),hcount,hat]
  by_cases e:t=stT s m
  ·rw [if_pos e,if_pos e,e,hk];omega
  ·rw [if_neg e,if_neg e,h.a t ht];rfl
 ·simp only []
  split
  ·rw [List.length_set];exact h.rl
  ·exact h.rl
 ·simp only []
  split
  ·rw [List.length_set];exact h.ml
  ·exact h.ml
 ·simp only []
  have e:(s.getD m default*3+(ins p (stT s m) (stK s m)).Reg).toNat=3*stT s m+(ins p (stT s m) (stK s m)).Reg.toNat:=by rw [<- g2];omega
  rw [hcount]
  by_cases et:t=stT s m
  ·rw [if_pos et,et,hk]
   show _=if rdX (ins p (stT s m) (stK s m))=true/\(ins p (stT s m) (stK s m)).Reg=(g:Int) then Vx p x (x.1.getD (base p (stT s m) (stK s m)) default) else Rg p x (Vx p x) (stT s m) (g:Int) (stK s m)
   by_cases hr:rdX (ins p (stT s m) (stK s m))=true
   ·rw [if_pos hr,e,getD_set_eq (by rw [h.rl];omega)]
    by_cases eg:(ins p (stT s m) (stK s m)).Reg=(g:Int)
    ·rw [if_pos (by omega),if_pos ⟨hr,eg⟩,hrd hr]
    ·rw [if_neg (by omega),if_neg fun h=>eg h.2,h.r _ _ g1 hg3,hk]
   ·rw [if_neg hr,if_neg fun h=>hr h.1,h.r _ _ g1 hg3,hk]
  ·rw [if_neg et,Nat.add_zero,<- h.r t g ht hg3]
   split
   ·rw [e,getD_set_eq (by rw [h.rl];omega),if_neg (by omega)]
   ·rfl
 ·simp only []
  rw [ordF]
  by_cases hw:wrX (ins p (stT s m) (stK s m))=true
  ·rw [if_pos hw,getD_set_eq (by rw [h.ml];omega),stepN,if_neg (wr_o hw),List.filter_append]
   have hIs:Isn p (stT s m) (stK s m):=⟨g1,g3,wr_o hw⟩
   by_cases el:l=(ins p (stT s m) (stK s m)).Loc.toNat
   ·rw [if_pos el,hval hw]
    have hW:Wl p (l:Int) (base p (stT s m) (stK s m):Int)=true:=by
     unfold Wl
     rw [hIs.ev.1,hw]
     simp only [Bool.true_and,decide_eq_true_eq]
     omega
    rw [List.filter_cons_of_pos hW]
    simp only [List.filter_nil]
    rw [snoc_last]
   ·rw [if_neg el,h.m l hl3]
    have hW : ¬ Wl p (l:Int) (base p (stT s m) (stK s m):Int)=true:=by
     unfold Wl
     rw [hIs.ev.1]
     simp only [Bool.and_eq_true,decide_eq_true_eq,not_and]
     intro _ hc
     omega
    rw [List.filter_cons_of_neg hW]
    simp
  ·rw [if_neg hw,h.m l hl3]
   have hf:(stepN p (stT s m) (stK s m)).filter (Wl p (l:Int))=[]:=by
    unfold stepN
    split
    ·rfl
    ·rename_i ho
     have hIs:Isn p (stT s m) (stK s m):=⟨g1,g3,ho⟩
     rw [List.filter_cons_of_neg (by unfold Wl;rw [hIs.ev.1];simp only [Bool.and_eq_true,not_and];intro h';exact absurd h' hw)]
     rfl
   rw [List.filter_append,hf,List.append_nil]
theorem zok_all (hp:PV p) {s:List Int} (hw:Whole p s) (hx:x=runX p (ordF p s s.length)) (R:RunOf p x ([0,1,2]++ordF p s s.length)) {z0:ZSt} (h0:Rel p (u0 p) z0):∀ m,m<=s.length->ZOk p x s m (zR p s z0 m)
 | 0,_=>by
  refine ⟨fun t ht => ?_,h0.al,h0.rl,h0.ml,fun t g ht hg => ?_,fun l hl => ?_⟩
  ·show z0.at_.getD t default=_
   rw [h0.a t ht]
   simp only [u0,Z3b.get,List.take_zero,List.count_nil]
   split <;> (try split) <;> rfl
  ·show z0.regs.getD (3*t+g) default=_
   rw [h0.r t g ht hg]
   simp only [u0,List.take_zero,List.count_nil,Rg,Z3b.get,Z33.get]
   split <;> (try split) <;> (try split) <;> (try split) <;> rfl
  ·show z0.mem.getD l default=_
   rw [h0.m l hl]
   simp only [u0,ordF,List.filter_nil,List.length_nil,List.getD_cons_zero]
   rw [Vx_init hl]
   simp only [Z3b.get]
   split <;> (try split) <;> rfl
 | m+1,hm=>zok_step hp hw hx R (by omega) (zok_all hp hw hx R h0 m (by omega))
theorem list_eq {l k:List Int} (hl:l.length=k.length) (h:∀ i:Nat,i<l.length->l.getD i default=k.getD i default):l=k:=by
 apply List.ext_getElem hl
 intro i h1 h2
 have := h i h1
 rw [List.getD_eq_getElem?_getD,List.getD_eq_getElem?_getD,List.getElem?_eq_getElem h1,List.getElem?_eq_getElem h2] at this
 exact this
theorem outcome_same {s s':List Int} (hsz:p.length<=1048576/\total p<=1048576) (hs:s.length<=1048576) (hs':s'.length<=1048576) (hw:Whole p s) (hw':Whole p s') (e:runX p (ordF p s s.length)=runX p (ordF p s' s'.length)) :
  ∃ o,F_impl_RunSchedule p s=some (o,true)/\F_impl_RunSchedule p s'=some (o,true)/\o.length<=100:=by
 have hp:=PV.of hw.1
 obtain ⟨o,b,r1,_,r3,r4⟩:=irun_all p hsz hs
 obtain ⟨o',b',r1',_,r3',r4'⟩:=irun_all p hsz hs'
 obtain rfl:=r3.2 hw
 obtain rfl:=r3'.2 hw'
 obtain ⟨z0,e0,h0,ho⟩:=r4 rfl
 obtain ⟨z0',e0',h0',ho'⟩:=r4' rfl
 rw [e0] at e0'
 obtain rfl:=Option.some.inj e0'
 have R:=whole_run hp hw
 have R':=whole_run hp hw'
 rw [<- e] at R'
 have Z:=zok_all hp hw rfl R h0 s.length (Nat.le_refl _)
 have Z':=zok_all hp hw' e R' h0 s'.length (Nat.le_refl _)
 have hl:=hp.vs.1
 have hreg:(zR p s z0 s.length).regs=(zR p s' z0 s'.length).regs:=list_eq (by rw [Z.rl,Z'.rl]) fun i hi=>by
  rw [Z.rl] at hi
  have h1:i / 3<p.length:=by omega
  have e1:=Z.r (i / 3) (i % 3) h1 (by omega)
  have e2:=Z'.r (i / 3) (i % 3) h1 (by omega)
  rw [show 3*(i / 3)+i % 3=i by omega,List.take_length] at e1 e2
  rw [e1,e2,hw.2.2 _ h1,hw'.2.2 _ h1]
 have hmem:(zR p s z0 s.length).mem=(zR p s' z0 s'.length).mem:=list_eq (by rw [Z.ml,Z'.ml]) fun i hi=>by
  rw [Z.ml] at hi
  rw [Z.m i hi,Z'.m i hi]
  have g1:=run_ord (ordF p s s.length) (ord_ok hp hw.2.1 (Nat.le_refl _)) i hi
  have g2:=run_ord (ordF p s' s'.length) (ord_ok hp hw'.2.1 (Nat.le_refl _)) i hi
  rw [e,g2] at g1
  have g3:(ordF p s' s'.length).filter (Wl p (i:Int))=(ordF p s s.length).filter (Wl p (i:Int)):=by injection g1
  rw [g3]
 refine ⟨o,r1,?_,?_⟩
 ·rw [r1',ho,ho',hreg,hmem]
 ·rw [ho,List.length_append,Z.rl,Z.ml]
  omega
end
end Go.Proofs.Ytlmjnhnpahicmaa
