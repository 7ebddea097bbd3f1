/-
 The first schedule leads to the candidate, and is none behind another one that does. Plain theorems. No conditions.
-/
import Derived.Test.YtlmjnhnpahicmaaGL
import Derived.Test.YtlmjnhnpahicmaaDt7
namespace Go.Proofs.Ytlmjnhnpahicmaa
open Go.RowKit
set_option maxRecDepth 100000
section
variable {p:List (List ZIn)} {x:XS} {F:List Int}
def px (p:List (List ZIn)) (x:XS) (a:Nat->Nat):XS:=((List.range (evs p).length).map fun (i:Nat)=>if dn p a (i:Int)=true then x.1.getD i default else -1,[(od x 0).take (dc p x a 0),(od x 1).take (dc p x a 1),(od x 2).take (dc p x a 2)])
theorem px_len (a:Nat->Nat):(px p x a).1.length=(evs p).length:=by simp [px]
theorem px_get {a:Nat->Nat} {i:Nat} (h:i<(evs p).length):(px p x a).1.getD i default=if dn p a (i:Int)=true then x.1.getD i default else -1:=by
 unfold px
 simp only []
 rw [List.getD_eq_getElem?_getD,List.getElem?_map,List.getElem?_range h]
 rfl
theorem px_ord {a:Nat->Nat} {l:Nat} (hl:l<3):(px p x a).2.getD l []=(od x (l:Int)).take (dc p x a (l:Int)):=by
 match l,hl with
 | 0,_=>rfl
 | 1,_=>rfl
 | 2,_=>rfl
theorem ord3 {l k:List (List Int)} (hl:l.length=3) (hk:k.length=3) (h:∀ i:Nat,i<3->l.getD i []=k.getD i []):l=k:=by
 match l,hl,k,hk with
 | [a,b,c],_,[d,e,f],_=>
  have h0:a=d:=h 0 (by omega)
  have h1:b=e:=h 1 (by omega)
  have h2:c=f:=h 2 (by omega)
  rw [h0,h1,h2]
theorem cnt_adv {a:Nat->Nat} {t:Nat} (ht:t<p.length) (l:Int):cnt p (adv a t) l p.length=cnt p a l p.length+if wq p t l (a t)=true then 1 else 0:=by
 have e1:adv a t t=a t+1:=by unfold adv;rw [if_pos rfl]
 by_cases h:wq p t l (a t)=true
 ·rw [if_pos h]
  refine sum_adv (f:=fun u=>cwr p u l (adv a t u)) (g:=fun u=>cwr p u l (a u)) ht ?_ fun u _ hne => ?_
  ·simp only [e1,cwr_succ,if_pos h]
  ·show cwr p u l (adv a t u)=cwr p u l (a u)
   unfold adv
   rw [if_neg hne]
 ·rw [if_neg h,Nat.add_zero]
  unfold cnt
  congr 1
  apply List.map_congr_left
  intro u _
  by_cases hne:u=t
  ·subst hne
   rw [e1,cwr_succ,if_neg h,Nat.add_zero]
  ·unfold adv
   rw [if_neg hne]
theorem dc_adv (hp:PV p) (R:Cand p x F) {a:Nat->Nat} (ha:StA p a) {t:Nat} (ht:t<p.length) (hk:a t<(p.getD t default).length) {l:Nat} (hl:l<3):dc p x (adv a t) (l:Int)=dc p x a (l:Int)+if wq p t (l:Int) (a t)=true then 1 else 0:=by
 rw [dc_is hp R ha hl,dc_is hp R (ha.adv hk) hl,cnt_adv ht]
 omega
theorem px_zero (hp:PV p) (R:Cand p x F):px p x (fun _=>0)=x0 p:=by
 have hz:StA p (fun _=>0):=fun t _=>Nat.zero_le _
 refine Prod.ext (list_eq (by rw [px_len];simp [x0]) fun i hi => ?_) (ord3 rfl rfl fun l hl => ?_)
 ·rw [px_len] at hi
  rw [px_get hi]
  have e:(x0 p).1.getD i default = -1:=by
   show (List.replicate (evs p).length (-1:Int)).getD i default = -1
   rw [List.getD_eq_getElem?_getD,List.getElem?_replicate,if_pos hi]
   rfl
  rw [e]
  split
  ·rename_i hd
   rcases ev_cases (p:=p) (n:=(i:Int)) (by omega) (by omega) with h3 | ⟨t,k,h3,e3⟩
   ·have h4:=(ev_init (p:=p) (l:=i) (by omega)).1
    have := R.frN (i:Int) ((R.mem _).2 ⟨by omega,by omega⟩) (by rw [h4])
    rw [Int.toNat_natCast] at this
    exact this
   ·rw [e3] at hd
    have := (dn_base h3).1 hd
    omega
  ·rfl
 ·rw [px_ord hl,dc_is hp R hz hl]
  have hc:cnt p (fun _=>0) (l:Int) p.length=0:=by
   unfold cnt
   have : ((List.range p.length).map fun t=>cwr p t (l:Int) 0)=(List.range p.length).map fun _=>0:=rfl
   rw [this]
   have h0:∀ n:Nat,((List.range n).map fun _=>0).sum=0:=fun n=>by
    induction n with
    | zero=>rfl
    | succ n ih=>rw [List.range_succ,List.map_append,List.sum_append,ih];rfl
   exact h0 _
  rw [hc]
  obtain ⟨t,e⟩:=od_head R hl
  rw [e]
  match l,hl with
  | 0,_=>rfl
  | 1,_=>rfl
  | 2,_=>rfl
theorem px_fin (hp:PV p) (R:Cand p x F) {a:Nat->Nat} (hf:Fin3 p a):px p x a=x:=by
 have all:∀ n:Int,n∈F->dn p a n=true:=fun n hn=>by
  obtain ⟨n0,n1⟩:=(R.mem n).1 hn
  rcases ev_cases n0 n1 with h | ⟨t,k,h,rfl⟩
  ·exact dn_init n0 h
  ·refine (dn_base h).2 ?_
   rw [hf t h.t]
   exact h.k
 refine Prod.ext (list_eq (by rw [px_len,R.flen]) fun i hi => ?_) (ord3 rfl R.olen fun l hl => ?_)
 ·rw [px_len] at hi
  rw [px_get hi,if_pos (all _ ((R.mem _).2 ⟨by omega,by omega⟩))]
 ·have O:=R.ods (l:Int) (by omega)
  rw [px_ord hl]
  have e:dc p x a (l:Int)=(od x (l:Int)).length:=by
   unfold dc
   rw [List.filter_eq_self.2 fun n hn=>all n ((O.mem n).1 hn).1]
  rw [e,List.take_length]
  rfl
theorem px_fence (hp:PV p) (R:Cand p x F) {a:Nat->Nat} (ha:StA p a) {t:Nat} (ht:t<p.length) (hk:a t<(p.getD t default).length) (hf:isF4 p t (a t)):px p x (adv a t)=px p x a:=by
 have hB:=behind_adv R ht hk
 unfold nxt at hB
 rw [if_pos hf] at hB
 have hd:∀ n:Int,n∈F->(dn p (adv a t) n=true↔dn p a n=true):=fun n hn=>by rw [hB n hn];simp
 refine Prod.ext (list_eq (by rw [px_len,px_len]) fun i hi => ?_) (ord3 rfl rfl fun l hl => ?_)
 ·rw [px_len] at hi
  rw [px_get hi,px_get hi]
  have := hd (i:Int) ((R.mem _).2 ⟨by omega,by omega⟩)
  by_cases h:dn p a (i:Int)=true
  ·rw [if_pos h,if_pos (this.2 h)]
  ·rw [if_neg h,if_neg (fun e=>h (this.1 e))]
 ·have hw : ¬ wq p t (l:Int) (a t)=true:=fun h=>by
   unfold wq at h
   rw [Bool.and_eq_true] at h
   exact wr_o h.1 hf
  rw [px_ord hl,px_ord hl,dc_adv hp R ha ht hk hl,if_neg hw,Nat.add_zero]
theorem px_step (hp:PV p) (R:Cand p x F) {a:Nat->Nat} (ha:StA p a) {t:Nat} (hc:CanT p x a t) (hf : ¬ isF4 p t (a t)):stX p (px p x a) (base p t (a t):Int)=px p x (adv a t):=by
 have hI:Isn p t (a t):=⟨hc.1,hc.2.1,hf⟩
 have hev:=hI.ev.1
 have hb:=hI.ev.2
 have hcan:CanE p x a (base p t (a t):Int):=hc.2.2 _ (by unfold nxt;rw [if_neg hf])
 have hB:=behind_adv R hc.1 hc.2.1
 unfold nxt at hB
 rw [if_neg hf] at hB
 have hn:(base p t (a t):Int)∈F:=base_memC R hI
 have hnd:dn p a (base p t (a t):Int)=false:=by
  cases hd:dn p a (base p t (a t):Int) with
  | false=>rfl
  | true=>have := (dn_base hI).1 hd;omega
 have hin:=hp.ins t (a t) hc.1 hc.2.1
 have x1:0<=(ins p t (a t)).Loc:=hin.1
 have x2:(ins p t (a t)).Loc<=2:=hin.2.1
 unfold CanE at hcan
 rw [hev,Int.toNat_natCast] at hcan
 simp only at hcan
 obtain ⟨d1,d2⟩:=dc_pos hp R a (l:=(ins p t (a t)).Loc) ⟨x1,x2⟩
 have hev':(evs p).getD (base p t (a t):Int).toNat default=⟨t,(a t:Nat),(ins p t (a t)).Loc,rdX (ins p t (a t)),wrX (ins p t (a t))⟩:=hev
 have hord:(px p x a).2.getD (ins p t (a t)).Loc.toNat []=(od x (ins p t (a t)).Loc).take (dc p x a (ins p t (a t)).Loc):=by
  have := px_ord (p:=p) (x:=x) (a:=a) (l:=(ins p t (a t)).Loc.toNat) (by omega)
  rw [Int.toNat_of_nonneg x1] at this
  exact this
 have hlen:((od x (ins p t (a t)).Loc).take (dc p x a (ins p t (a t)).Loc)).length=dc p x a (ins p t (a t)).Loc:=by rw [List.length_take];omega
 unfold stX
 rw [hev']
 simp only [hord,Int.toNat_natCast]
 refine Prod.ext (list_eq ?_ fun i hi => ?_) (ord3 (by simp only [List.length_set];rfl) rfl fun l hl => ?_)
 ·simp only []
  split
  ·rw [List.length_set,px_len,px_len]
  ·rw [px_len,px_len]
 ·simp only [] at hi ⊢
  have hi':i<(evs p).length:=by
   split at hi
   ·rw [List.length_set,px_len] at hi;exact hi
   ·rw [px_len] at hi;exact hi
  have hBi:=hB (i:Int) ((R.mem _).2 ⟨by omega,by omega⟩)
  rw [px_get hi']
  by_cases e:i=base p t (a t)
  ·subst e
   rw [if_pos (hBi.2 (.inr rfl))]
   split
   ·rename_i hr
    rw [getD_set_eq (by rw [px_len];exact hb),if_pos rfl,hlen,hcan.1 hr,List.getD_eq_getElem?_getD,List.getElem?_take,if_pos (by omega),<- List.getD_eq_getElem?_getD]
    congr 1
    omega
   ·rename_i hr
    rw [px_get hi',hnd]
    have := R.frN _ hn (by rw [hev];exact Bool.eq_false_iff.2 hr)
    rw [Int.toNat_natCast] at this
    rw [this]
    rfl
  ·have hiff:dn p (adv a t) (i:Int)=true↔dn p a (i:Int)=true:=by
    rw [hBi]
    refine ⟨fun h => ?_,.inl⟩
    rcases h with h | h
    ·exact h
    ·injection h with h
     exact absurd (by omega) e
   have key:(px p x a).1.getD i default=if dn p (adv a t) (i:Int)=true then x.1.getD i default else -1:=by
    rw [px_get hi']
    by_cases h:dn p a (i:Int)=true
    ·rw [if_pos h,if_pos (hiff.2 h)]
    ·rw [if_neg h,if_neg fun e=>h (hiff.1 e)]
   split
   ·rw [getD_set_eq (by rw [px_len];exact hb),if_neg e,key]
   ·exact key
 ·simp only []
  rw [getD_setL (by show _<3;omega),px_ord hl,px_ord hl,dc_adv hp R ha hc.1 hc.2.1 hl]
  by_cases e:l=(ins p t (a t)).Loc.toNat
  ·have el:(l:Int)=(ins p t (a t)).Loc:=by omega
   rw [if_pos e,el]
   have hwq:wq p t (ins p t (a t)).Loc (a t)=wrX (ins p t (a t)):=by unfold wq;simp
   rw [hwq]
   split
   ·rename_i hw
    rw [<- hcan.2 hw]
    have hlt:dc p x a (ins p t (a t)).Loc<(od x (ins p t (a t)).Loc).length:=by
     have O:=R.ods (ins p t (a t)).Loc ⟨x1,x2⟩
     have hm:(base p t (a t):Int)∈od x (ins p t (a t)).Loc:=(O.mem _).2 ⟨hn,by rw [hev];exact hw,by rw [hev]⟩
     exact List.length_filter_lt_length_iff_exists.2 ⟨_,hm,by rw [hnd];decide⟩
    rw [List.getD_eq_getElem?_getD,List.getElem?_eq_getElem hlt]
    exact List.take_append_getElem hlt
   ·rw [Nat.add_zero]
  ·rw [if_neg e]
   have hwq : ¬ wq p t (l:Int) (a t)=true:=by
    unfold wq
    rw [Bool.and_eq_true,decide_eq_true_eq]
    intro h
    exact e (by omega)
   rw [if_neg hwq,Nat.add_zero]
theorem ordF_pre (s r:List Int):∀ m,m<=s.length->ordF p (s++r) m=ordF p s m
 | 0,_=>rfl
 | m+1,hm=>by
  have e1:(s++r).getD m default=s.getD m default:=by rw [List.getD_eq_getElem?_getD,List.getElem?_append_left (by omega),<- List.getD_eq_getElem?_getD]
  have e2:(s++r).take m=s.take m:=List.take_append_of_le_length (by omega)
  rw [ordF,ordF,ordF_pre s r m (by omega)]
  unfold stT stK
  rw [e1,e2]
inductive Ch (p:List (List ZIn)) (x:XS):(Nat->Nat)->List Int->Prop
 | nil {a:Nat->Nat} (h:Fin3 p a):Ch p x a []
 | cons {a:Nat->Nat} {t:Nat} {r:List Int} (h:CanT p x a t) (k:Ch p x (adv a t) r):Ch p x a ((t:Int)::r)
theorem gr_ch (hp:PV p) (R:Cand p x F) {a:Nat->Nat} {r:List Int} (h:Gr p x F a r):Closed p x F a->Ch p x a r:=by
 induction h with
 | nil h=>exact fun _ => .nil h
 | cons h _ _ ih=>exact fun hC => .cons (ready_canT hp R hC h) (ih (closed_adv R hC h))
theorem ch_leads (hp:PV p) (R:Cand p x F) {a:Nat->Nat} {r:List Int} (h:Ch p x a r):StA p a->∀ pre:List Int,(∀ t:Nat,t<p.length->pre.count (t:Int)=a t)->Good p pre pre.length->runX p (ordF p pre pre.length)=px p x a ->
  Good p (pre++r) (pre++r).length/\(∀ t:Nat,t<p.length->(pre++r).count (t:Int)=(p.getD t default).length)/\runX p (ordF p (pre++r) (pre++r).length)=x:=by
 induction h with
 | nil h=>
  intro _ pre h1 h2 h3
  rw [List.append_nil]
  exact ⟨h2,fun t ht=>by rw [h1 t ht,h t ht],by rw [h3,px_fin hp R h]⟩
 | @cons a t r h _ ih=>
  intro ha pre h1 h2 h3
  have ht:=h.1
  have hk:=h.2.1
  have e0:(pre++[(t:Int)]).getD pre.length default=(t:Int):=by rw [List.getD_eq_getElem?_getD,List.getElem?_append_right (Nat.le_refl _)];simp
  have e1:(pre++[(t:Int)]).take pre.length=pre:=by simp
  have hT:stT (pre++[(t:Int)]) pre.length=t:=by unfold stT;rw [e0];omega
  have hK:stK (pre++[(t:Int)]) pre.length=a t:=by unfold stK;rw [e0,e1,h1 t ht]
  have := ih (ha.adv hk) (pre++[(t:Int)]) (fun u hu => ?_) (fun j hj => ?_) ?_
  ·rw [List.append_assoc] at this
   exact this
  ·rw [List.count_append,h1 u hu,List.count_singleton]
   unfold adv
   by_cases e:u=t
   ·subst e;simp
   ·rw [if_neg e,if_neg (by simp;omega),Nat.add_zero]
  ·rw [List.length_append,List.length_singleton] at hj
   rcases Nat.lt_or_ge j pre.length with hj' | hj'
   ·have := h2 j hj'
    rw [List.getD_eq_getElem?_getD,List.getElem?_append_left hj',<- List.getD_eq_getElem?_getD,List.take_append_of_le_length (by omega)]
    exact this
   ·have : j=pre.length:=by omega
    subst this
    rw [e0,e1,h1 t ht,Int.toNat_natCast]
    exact ⟨by omega,hk⟩
  ·rw [List.length_append,List.length_singleton,ordF,ordF_pre pre [(t:Int)] _ (Nat.le_refl _),hT,hK]
   unfold stepN
   split
   ·rename_i hf
    rw [List.append_nil,h3,px_fence hp R ha ht hk hf]
   ·rename_i hf
    rw [runX_snoc,h3,px_step hp R ha h hf]
theorem Gr.congr {F':List Int} (hF:∀ n:Int,n∈F↔n∈F') {a:Nat->Nat} {r:List Int} (h:Gr p x F a r):Gr p x F' a r:=by
 have key:∀ {a:Nat->Nat} {t:Nat},ReadyT p x F a t↔ReadyT p x F' a t:=fun {a t}=>by
  unfold ReadyT ReadyE
  refine ⟨fun h=>⟨h.1,h.2.1,fun n hn i hi hb=>h.2.2 n hn i ((hF i).2 hi) hb⟩,fun h=>⟨h.1,h.2.1,fun n hn i hi hb=>h.2.2 n hn i ((hF i).1 hi) hb⟩⟩
 induction h with
 | nil h=>exact .nil h
 | cons h hl _ ih=>exact .cons (key.1 h) (fun u hu hr=>hl u hu (key.2 hr)) ih
end
end Go.Proofs.Ytlmjnhnpahicmaa
