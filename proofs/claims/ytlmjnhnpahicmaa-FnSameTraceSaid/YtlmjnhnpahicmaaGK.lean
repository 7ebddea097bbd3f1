/-
 Contracts and words, several texts joined. No conditions.
-/
import Derived.Test.YtlmjnhnpahicmaaS26d
import Derived.Test.YtlmjnhnpahicmaaHo
namespace Go.Proofs.Ytlmjnhnpahicmaa
open Go.RowKit
set_option maxRecDepth 100000
def rdX (x:ZIn):Bool:=x.Op==1||x.Op==5
def wrX (x:ZIn):Bool:=x.Op==2||x.Op==3||x.Op==5
def evI (t k:Nat) (x:ZIn):List ZEv:=if x.Op=4 then [] else [⟨t,k,x.Loc,rdX x,wrX x⟩]
def evR (t:Nat) (row:List ZIn):Nat->List ZEv
 | 0=>[]
 | n+1=>evR t row n++evI t n (row.getD n default)
def ev0:List ZEv:=[⟨-1,0,0,false,true⟩,⟨-1,1,1,false,true⟩,⟨-1,2,2,false,true⟩]
def evP (p:List (List ZIn)):Nat->List ZEv
 | 0=>ev0
 | n+1=>evP p n++evR n (p.getD n default) (p.getD n default).length
def evs (p:List (List ZIn)):List ZEv:=evP p p.length
theorem evI_len (t k:Nat) (x:ZIn):(evI t k x).length<=1:=by unfold evI;split <;> simp
theorem evR_len (t:Nat) (row:List ZIn) (n:Nat):(evR t row n).length<=n:=by
 induction n with
 | zero=>exact Nat.le_refl _
 | succ n ih=>
  have := evI_len t n (row.getD n default)
  simp only [evR,List.length_append]
  omega
def Vs (p:List (List ZIn)):Prop:=p.length<=3/\∀ n,(p.getD n default).length<=7
theorem evP_len {p:List (List ZIn)} (h:Vs p) (n:Nat):(evP p n).length<=3+7*n:=by
 induction n with
 | zero=>exact Nat.le_refl _
 | succ n ih=>
  have h1:=evR_len n (p.getD n default) (p.getD n default).length
  have h2:=h.2 n
  simp only [evP,List.length_append]
  omega
theorem ireads (x:ZIn):Ret (F_impl_Instr_reads x) (· = rdX x):=by
 unfold F_impl_Instr_reads rdX
 exact Ret.bind (P:=(· = (x.Op==1||x.Op==5))) (.bif (fun h => .pure (by rw [h];rfl)) fun h => .pure (by rw [h];rfl)) fun v hv => .pure hv
theorem iwrites (x:ZIn):Ret (F_impl_Instr_writes x) (· = wrX x):=by
 unfold F_impl_Instr_writes wrX
 exact Ret.bind (P:=(· = (x.Op==2||x.Op==3))) (.bif (fun h => .pure (by rw [h];rfl)) fun h => .pure (by rw [h];rfl)) fun v hv=>Ret.bind (P:=(· = (x.Op==2||x.Op==3||x.Op==5))) (.bif (fun h => .pure (by rw [<- hv,h];rfl)) fun h => .pure (by rw [<- hv,h];rfl)) fun v hv => .pure hv
theorem sreads (x:ZIn):Ret (F_spec_l1Reads x) (· = rdX x):=by
 unfold F_spec_l1Reads rdX
 exact Ret.bind (P:=(· = (x.Op==1||x.Op==5))) (.bif (fun h => .pure (by rw [h];rfl)) fun h => .pure (by rw [h];rfl)) fun v hv => .pure hv
theorem swrites (x:ZIn):Ret (F_spec_l1Writes x) (· = wrX x):=by
 unfold F_spec_l1Writes wrX
 exact Ret.bind (P:=(· = (x.Op==2||x.Op==3))) (.bif (fun h => .pure (by rw [h];rfl)) fun h => .pure (by rw [h];rfl)) fun v hv=>Ret.bind (P:=(· = (x.Op==2||x.Op==3||x.Op==5))) (.bif (fun h => .pure (by rw [<- hv,h];rfl)) fun h => .pure (by rw [<- hv,h];rfl)) fun v hv => .pure hv
theorem ievents {p:List (List ZIn)} (hp:Vs p):Ret (F_impl_events p) (· = evs p):=by
 have hpl:=hp.1
 unfold F_impl_events
 refine Ret.bind (P:=(· = ev0)) ?_ fun l hl=>Ret.bind (P:=(· = evs p)) ?_ fun v hv => .pure hv
 ·refine Ret.loop (fun s=>∃ n:Nat,n<=3/\s=(ev0.take n,(n:Int))) (fun s=>(3-s.2).toNat) ⟨0,by omega,rfl⟩ fun s ⟨n,h1,h2⟩ => ?_
  subst h2
  unfold F_impl_events_L8
  refine .bifD (fun h => ?_) fun h => .pure ?_
  ·match n,h1,h with
   | 0,_,_=>exact .gdC (by decide) rfl (.gdI (by decide) (.pure ⟨⟨1,by omega,rfl⟩,by decide⟩))
   | 1,_,_=>exact .gdC (by decide) rfl (.gdI (by decide) (.pure ⟨⟨2,by omega,rfl⟩,by decide⟩))
   | 2,_,_=>exact .gdC (by decide) rfl (.gdI (by decide) (.pure ⟨⟨3,by omega,rfl⟩,by decide⟩))
   | 3,_,h=>exact absurd h (by decide)
  ·have : n=3:=by simp only [] at h;omega
   subst this
   rfl
 ·subst hl
  refine Ret.loop (fun s=>∃ n:Nat,n<=p.length/\s=(evP p n,(n:Int))) (fun s=>((p.length:Int)-s.2).toNat) ⟨0,by omega,rfl⟩ fun s ⟨n,h1,h2⟩ => ?_
  subst h2
  unfold F_impl_events_L25
  refine .bifD (fun h => ?_) fun h => .pure ?_
  ·have hlen:=evP_len hp n
   have hrow:=hp.2 n
   simp only [] at h
   refine Ret.bind (P:=(· = evP p (n+1))) (.gdD ⟨by simp only [];omega,h⟩ ?_) fun v hv => .gdI (by simp only [];omega) (.pure ⟨⟨n+1,by omega,by rw [hv];rfl⟩,by simp only [];omega⟩)
   refine Ret.loop (fun t=>∃ k:Nat,k<=(p.getD n default).length/\t=(evP p n++evR n (p.getD n default) k,(k:Int))) (fun t=>(((p.getD n default).length:Int)-t.2).toNat) ⟨0,by omega,by simp [evR]⟩ fun t ⟨k,k1,k2⟩ => ?_
   subst k2
   unfold F_impl_events_L38
   simp only [Int.toNat_natCast]
   refine .bifD (fun hk => ?_) fun hk => .pure ?_
   ·have hl2:=evR_len n (p.getD n default) k
    refine Ret.bind (P:=(· = evP p n++evR n (p.getD n default) (k+1))) (.gdD ⟨by omega,hk⟩ ?_) fun v hv => .gdI (by omega) (.pure ⟨⟨k+1,by omega,by rw [hv];rfl⟩,by simp only [];omega⟩)
    refine .bif (fun ho => ?_) fun ho => .pure ?_
    ·refine (ireads _).bind fun a ha=>(iwrites _).bind fun b hb => .gdC (by simp only [List.length_append];omega) rfl (.pure ?_)
     have h4 : ¬ ((p.getD n default).getD k default).Op=4:=by simpa using ho
     subst ha hb
     simp only [evR,evI,if_neg h4,List.append_assoc]
    ·have h4:((p.getD n default).getD k default).Op=4:=by simpa using ho
     simp only [evR,evI,if_pos h4,List.append_nil]
   ·have : k=(p.getD n default).length:=by omega
    subst this
    rfl
  ·have : n=p.length:=by simp only [] at h;omega
   subst this
   rfl
theorem sevents {p:List (List ZIn)} (hp:Vs p):Ret (F_spec_l6Events p) (· = evs p):=by
 have hpl:=hp.1
 unfold F_spec_l6Events
 refine Ret.bind (P:=(· = ev0)) ?_ fun l hl=>Ret.bind (P:=(· = evs p)) ?_ fun v hv => .pure hv
 ·refine Ret.loop (fun s=>∃ n:Nat,n<=3/\s=(ev0.take n,(n:Int))) (fun s=>(3-s.2).toNat) ⟨0,by omega,rfl⟩ fun s ⟨n,h1,h2⟩ => ?_
  subst h2
  unfold F_spec_l6Events_L6
  refine .bifD (fun h => ?_) fun h => .pure ?_
  ·match n,h1,h with
   | 0,_,_=>exact .gdC (by decide) rfl (.gdI (by decide) (.pure ⟨⟨1,by omega,rfl⟩,by decide⟩))
   | 1,_,_=>exact .gdC (by decide) rfl (.gdI (by decide) (.pure ⟨⟨2,by omega,rfl⟩,by decide⟩))
   | 2,_,_=>exact .gdC (by decide) rfl (.gdI (by decide) (.pure ⟨⟨3,by omega,rfl⟩,by decide⟩))
   | 3,_,h=>exact absurd h (by decide)
  ·have : n=3:=by simp only [] at h;omega
   subst this
   rfl
 ·subst hl
  refine Ret.loop (fun s=>∃ n:Nat,n<=p.length/\s=(evP p n,(n:Int))) (fun s=>((p.length:Int)-s.2).toNat) ⟨0,by omega,rfl⟩ fun s ⟨n,h1,h2⟩ => ?_
  subst h2
  unfold F_spec_l6Events_L17
  refine .bifD (fun h => ?_) fun h => .pure ?_
  ·have hlen:=evP_len hp n
   have hrow:=hp.2 n
   simp only [] at h
   refine Ret.bind (P:=(· = evP p (n+1))) ?_ fun v hv => .gdI (by simp only [];omega) (.pure ⟨⟨n+1,by omega,by rw [hv];rfl⟩,by simp only [];omega⟩)
   refine Ret.loop (fun t=>∃ k:Nat,k<=(p.getD n default).length/\t=(evP p n++evR n (p.getD n default) k,(k:Int))) (fun t=>(((p.getD n default).length:Int)-t.2).toNat) ⟨0,by omega,by simp [evR]⟩ fun t ⟨k,k1,k2⟩ => ?_
   subst k2
   unfold F_spec_l6Events_L25
   simp only [Int.toNat_natCast]
   refine .gdD ⟨by omega,h⟩ (.bifD (fun hk => ?_) fun hk => .pure ?_)
   ·have hl2:=evR_len n (p.getD n default) k
    refine Ret.bind (P:=(· = evP p n++evR n (p.getD n default) (k+1))) (.gdD ⟨by omega,hk⟩ ?_) fun v hv => .gdI (by omega) (.pure ⟨⟨k+1,by omega,by rw [hv];rfl⟩,by simp only [];omega⟩)
    refine .bif (fun ho => ?_) fun ho => .pure ?_
    ·refine (sreads _).bind fun a ha=>(swrites _).bind fun b hb => .gdC (by simp only [List.length_append];omega) rfl (.pure ?_)
     have h4 : ¬ ((p.getD n default).getD k default).Op=4:=by simpa using ho
     subst ha hb
     simp only [evR,evI,if_neg h4,List.append_assoc]
    ·have h4:((p.getD n default).getD k default).Op=4:=by simpa using ho
     simp only [evR,evI,if_pos h4,List.append_nil]
   ·have : k=(p.getD n default).length:=by omega
    subst this
    rfl
  ·have : n=p.length:=by simp only [] at h;omega
   subst this
   rfl
def EvOk (p:List (List ZIn)) (e:ZEv):Prop:=(e.Thread = -1/\0<=e.Loc/\e.Loc<=2)\/∃ t k:Nat,e.Thread=t/\e.Index=k/\t<p.length/\k<(p.getD t default).length
theorem evR_mem {t:Nat} {row:List ZIn} {n:Nat} {e:ZEv} (h:e∈evR t row n):∃ k:Nat,k<n/\e.Thread=t/\e.Index=k:=by
 induction n with
 | zero=>simp [evR] at h
 | succ n ih=>
  simp only [evR,List.mem_append] at h
  rcases h with h | h
  ·obtain ⟨k,h1,h2⟩:=ih h
   exact ⟨k,by omega,h2⟩
  ·unfold evI at h
   split at h
   ·simp at h
   ·rw [List.mem_singleton] at h
    subst h
    exact ⟨n,by omega,rfl,rfl⟩
theorem evP_mem {p:List (List ZIn)} {n:Nat} (hn:n<=p.length) {e:ZEv} (h:e∈evP p n):EvOk p e:=by
 induction n with
 | zero=>
  simp only [evP,ev0,List.mem_cons,List.not_mem_nil,or_false] at h
  rcases h with rfl | rfl | rfl <;> exact .inl ⟨rfl,by decide,by decide⟩
 | succ n ih=>
  simp only [evP,List.mem_append] at h
  rcases h with h | h
  ·exact ih (by omega) h
  ·obtain ⟨k,h1,h2,h3⟩:=evR_mem h
   exact .inr ⟨n,k,h2,h3,by omega,h1⟩
theorem Vs.of {p:List (List ZIn)} (h:validB (p.map fun r=>r.map toIns)=true):Vs p/\∀ t k:Nat,t<p.length->k<(p.getD t default).length->insOk (toIns ((p.getD t default).getD k default))=true:=by
 simp only [validB,shapeB,Bool.and_eq_true,decide_eq_true_eq,List.all_eq_true,rowOk] at h
 have hl:p.length<=3:=by simpa using h.1.1.1.1
 have hr:=h.1.1.1.2
 refine ⟨⟨hl,fun n => ?_⟩,fun t k ht hk => ?_⟩
 ·by_cases hn:n<p.length
  ·have e:p.getD n default=p[n]:=by simp [hn]
   rw [e]
   have := (hr (p[n].map toIns) (List.mem_map.2 ⟨p[n],List.getElem_mem hn,rfl⟩)).1
   simpa using this
  ·rw [List.getD_eq_getElem?_getD,List.getElem?_eq_none (by omega)]
   exact Nat.zero_le _
 ·have e:p.getD t default=p[t]:=by simp [ht]
  rw [e] at hk ⊢
  have h1:=(hr (p[t].map toIns) (List.mem_map.2 ⟨p[t],List.getElem_mem ht,rfl⟩)).2
  have e2:p[t].getD k default=p[t][k]:=by simp [hk]
  rw [e2]
  exact h1 _ (List.mem_map.2 ⟨_,List.getElem_mem hk,rfl⟩)
def InR (x:ZIn):Prop:=0<=x.Loc/\x.Loc<=2/\0<=x.Reg/\x.Reg<=2/\0<=x.Val/\x.Val<=3
theorem insOk_fld {x:ZIn} (h:insOk (toIns x)=true):InR x:=by
 obtain ⟨o,l,r,v⟩:=x
 unfold InR
 simp only
 unfold insOk toIns at h
 simp only [inB] at h
 split at h
 ·simp only [Bool.and_eq_true,decide_eq_true_eq,beq_iff_eq] at h;omega
 ·split at h
  ·simp only [Bool.and_eq_true,decide_eq_true_eq,beq_iff_eq] at h;omega
  ·split at h
   ·simp only [Bool.and_eq_true,decide_eq_true_eq,beq_iff_eq] at h;omega
   ·split at h
    ·simp only [Bool.and_eq_true,decide_eq_true_eq] at h;omega
    ·cases h
structure PV (p:List (List ZIn)):Prop where
 vs:Vs p
 pos:0<p.length
 ins:∀ t k:Nat,t<p.length->k<(p.getD t default).length->InR ((p.getD t default).getD k default)
theorem PV.of {p:List (List ZIn)} (h:validB (p.map fun r=>r.map toIns)=true):PV p:=by
 have h1:=Vs.of h
 refine ⟨h1.1,?_,fun t k ht hk=>insOk_fld (h1.2 t k ht hk)⟩
 simp only [validB,Bool.and_eq_true,decide_eq_true_eq,List.length_map] at h
 exact h.1.2
theorem capOK_le {n m:Nat} (hn:n<=4000000) (hm:Nat.ble m 1000=true):capOK n m=true:=by
 have h1:=Nat.le_of_ble_eq_true hm
 have h2:n*m<=4000000*1000:=Nat.mul_le_mul hn h1
 exact decide_eq_true ⟨by omega,by omega⟩
end Go.Proofs.Ytlmjnhnpahicmaa
namespace Go.Proofs.Ytlmjnhnpahicmaa
open Go.RowKit
set_option maxRecDepth 100000
theorem get_set3 (a:Z3b) (q i v:Int) (hq:0<=q/\q<=2) (hi:0<=i/\i<=2):Z3b.get (Z3b.set a q v) i=if i=q then v else Z3b.get a i:=by
 obtain ⟨x,y,z⟩:=a
 have h1:q=0\/q=1\/q=2:=by omega
 have h2:i=0\/i=1\/i=2:=by omega
 rcases h1 with rfl | rfl | rfl <;> rcases h2 with rfl | rfl | rfl <;> rfl
theorem get_set33 (a:Z33) (q i:Int) (v:Z3b) (hq:0<=q/\q<=2) (hi:0<=i/\i<=2):Z33.get (Z33.set a q v) i=if i=q then v else Z33.get a i:=by
 obtain ⟨x,y,z⟩:=a
 have h1:q=0\/q=1\/q=2:=by omega
 have h2:i=0\/i=1\/i=2:=by omega
 rcases h1 with rfl | rfl | rfl <;> rcases h2 with rfl | rfl | rfl <;> rfl
theorem getD_set_eq {l:List Int} {i j:Nat} {v:Int} (hj:i<l.length):(l.set i v).getD j default=if j=i then v else l.getD j default:=by
 rw [List.getD_eq_getElem?_getD,List.getElem?_set]
 by_cases e:i=j
 ·subst e
  rw [if_pos rfl,if_pos hj,if_pos rfl]
  rfl
 ·rw [if_neg e,if_neg (Ne.symm e),List.getD_eq_getElem?_getD]
theorem getD_memI {l:List Int} {i:Nat} (h:i<l.length):l.getD i default∈l:=by
 rw [List.getD_eq_getElem?_getD,List.getElem?_eq_getElem h]
 exact List.getElem_mem _
theorem set_allI {l:List Int} {P:Int->Prop} (h:∀ v∈l,P v) {i:Nat} {x:Int} (hx:P x):∀ v∈l.set i x,P v:=fun v hv=>by
 rcases List.mem_or_eq_of_mem_set hv with hv | rfl
 ·exact h v hv
 ·exact hx
structure Rel (p:List (List ZIn)) (u:ZVa) (z:ZSt):Prop where
 up:u.p=p
 al:z.at_.length=p.length
 a:∀ i:Nat,i<p.length->z.at_.getD i default=Z3b.get u.pc i
 al1:∀ i:Nat,i<p.length->0<=z.at_.getD i default/\z.at_.getD i default<=((p.getD i default).length:Int)
 rl:z.regs.length=3*p.length
 r:∀ t g:Nat,t<p.length->g<3->z.regs.getD (3*t+g) default=Z3b.get (Z33.get u.reg t) g
 rv:∀ v∈z.regs,0<=v/\v<=3
 ml:z.mem.length=3
 m:∀ l:Nat,l<3->z.mem.getD l default=Z3b.get u.mem l
 mv:∀ v∈z.mem,0<=v/\v<=3
 b:z.buf=[]
theorem Ret.sumR {S W:Type} {a:Option (S ⊕ W)} {f:S->Option W} {w:W} (h:Ret a (· = .inr w)):Ret (sumK a f) (· = w):=by
 obtain ⟨v,rfl,rfl⟩:=h
 exact ⟨w,rfl,rfl⟩
theorem Ret.sumL {S W:Type} {a:Option (S ⊕ W)} {f:S->Option W} {w:W} {s:S} (h:Ret a (· = .inl s)) (k:Ret (f s) (· = w)):Ret (sumK a f) (· = w):=by
 obtain ⟨v,rfl,rfl⟩:=h
 exact k
section
variable {p:List (List ZIn)} {u:ZVa} {z:ZSt}
theorem Rel.regv (h:Rel p u z) {t g:Nat} (ht:t<p.length) (hg:g<3):0<=Z3b.get (Z33.get u.reg t) g/\Z3b.get (Z33.get u.reg t) g<=3:=by
 rw [<- h.r t g ht hg]
 exact h.rv _ (getD_memI (by rw [h.rl];omega))
theorem Rel.memv (h:Rel p u z) {l:Nat} (hl:l<3):0<=Z3b.get u.mem l/\Z3b.get u.mem l<=3:=by
 rw [<- h.m l hl]
 exact h.mv _ (getD_memI (by rw [h.ml];omega))
theorem next_ret (hp:PV p) (h:Rel p u z) {t:Int} (ht:0<=t/\t<(p.length:Int)):Ret (F_impl_values_next u t) fun v=>v.2=decide (z.at_.getD t.toNat default<((p.getD t.toNat default).length:Int))/\(v.2=true->v.1=(p.getD t.toNat default).getD (z.at_.getD t.toNat default).toNat default):=by
 have hl:=hp.vs.1
 have hr:=hp.vs.2 t.toNat
 have h1:=h.al1 t.toNat (by omega)
 have h2:=h.a t.toNat (by omega)
 rw [Int.toNat_of_nonneg ht.1] at h2
 unfold F_impl_values_next
 rw [h.up,<- h2]
 refine .gdD ⟨ht.1,by omega⟩ (.gdI (by omega) (.gdD ht (.bifD (fun hle => .pure ⟨?_,nofun⟩) fun hle => .gdD ⟨h1.1,by omega⟩ (.pure ⟨?_,fun _=>rfl⟩))))
 ·simp only []
  rw [decide_eq_false (by omega)]
 ·simp only []
  rw [decide_eq_true (by omega)]
theorem moves_ret (hp:PV p) (h:Rel p u z):Ret (F_impl_seq_moves ⟨u⟩) fun l=>l.length<=3/\∀ m:Int,m∈l↔(0<=m/\m<(p.length:Int))/\z.at_.getD m.toNat default<((p.getD m.toNat default).length:Int):=by
 have hl:=hp.vs.1
 unfold F_impl_seq_moves
 refine Ret.bind (P:=fun l=>l.length<=3/\∀ m:Int,m∈l↔(0<=m/\m<(p.length:Int))/\z.at_.getD m.toNat default<((p.getD m.toNat default).length:Int)) ?_ fun v hv => .pure hv
 refine Ret.loop (fun s=>0<=s.2/\s.2<=(p.length:Int)/\(s.1.length:Int)<=s.2/\∀ m:Int,m∈s.1↔(0<=m/\m<s.2)/\z.at_.getD m.toNat default<((p.getD m.toNat default).length:Int)) (fun s=>((p.length:Int)-s.2).toNat) ⟨Int.le_refl _,by simp only [];omega,by simp,fun m=>⟨nofun,fun ⟨⟨h1,h2⟩,_⟩=>absurd h2 (by simp only [];omega)⟩⟩ fun s ⟨h1,h2,h3,h4⟩ => ?_
 unfold F_impl_seq_moves_L8
 simp only [h.up]
 refine .bifD (fun hlt => ?_) fun hge => .pure ?_
 ·refine Ret.bind (P:=fun l:List Int=>(l.length:Int)<=s.2+1/\∀ m:Int,m∈l↔(0<=m/\m<s.2+1)/\z.at_.getD m.toNat default<((p.getD m.toNat default).length:Int)) ?_ fun v ⟨v1,v2⟩ => .gdI (by omega) (.pure ⟨⟨by simp only [];omega,by simp only [];omega,v1,v2⟩,by simp only [];omega⟩)
  refine (next_ret hp h ⟨h1,hlt⟩).bind fun v ⟨e1,_⟩ => .bif (fun hb => .gd (capOK_le (by omega) rfl) (.pure ⟨by rw [List.length_append];simp;omega,fun m => ?_⟩)) fun hb => .pure ⟨by omega,fun m => ?_⟩
  ·rw [hb] at e1
   have e1:=of_decide_eq_true e1.symm
   rw [List.mem_append,h4,List.mem_singleton]
   constructor
   ·rintro (⟨⟨g1,g2⟩,g3⟩ | rfl)
    ·exact ⟨⟨g1,by omega⟩,g3⟩
    ·exact ⟨⟨h1,by omega⟩,e1⟩
   ·rintro ⟨⟨g1,g2⟩,g3⟩
    by_cases e:m=s.2
    ·exact .inr e
    ·exact .inl ⟨⟨g1,by omega⟩,g3⟩
  ·rw [hb] at e1
   have e1:=of_decide_eq_false e1.symm
   rw [h4]
   constructor
   ·rintro ⟨⟨g1,g2⟩,g3⟩
    exact ⟨⟨g1,by omega⟩,g3⟩
   ·rintro ⟨⟨g1,g2⟩,g3⟩
    refine ⟨⟨g1,?_⟩,g3⟩
    by_cases e:m=s.2
    ·subst e;exact absurd g3 e1
    ·omega
 ·have : s.2=(p.length:Int):=by omega
  rw [<- this]
  exact ⟨by omega,h4⟩
theorem contains_ret (s:List Int) (v:Int) (hs:s.length<=1048576):Ret (F_slices_Contains_int_int s v) (· = decide (v∈s)):=by
 unfold F_slices_Contains_int_int
 refine Ret.bind (P:=fun r:Int=>0<=r↔v∈s) ?_ fun r hr => .pure (decide_eq_decide.2 hr)
 unfold F_slices_Index_int_int
 refine Ret.sum (PS:=fun _=>v∉s) (PW:=fun r:Int=>0<=r↔v∈s) ?_ fun _ hn => .pure ⟨fun h=>absurd h (by decide),fun h=>absurd h hn⟩
 refine Ret.loop (fun i=>0<=i/\i<=(s.length:Int)/\∀ j:Nat,(j:Int)<i->s[j]? ≠ some v) (fun i=>((s.length:Int)-i).toNat) ⟨Int.le_refl _,by omega,fun j hj=>absurd hj (by omega)⟩ fun i ⟨h1,h2,h3⟩ => ?_
 unfold F_slices_Index_int_int_L5
 refine .bifD (fun hlt => .gdD ⟨h1,hlt⟩ ?_) fun hge => .pure fun hm => ?_
 ·have hi:i.toNat<s.length:=by omega
  have e:s.getD i.toNat default=s[i.toNat]:=by rw [List.getD_eq_getElem?_getD,List.getElem?_eq_getElem hi];rfl
  rw [e]
  refine .bif (fun hb => .pure ⟨fun _ => ?_,fun _=>h1⟩) fun hb => .gdI (by omega) (.pure ⟨⟨by omega,by omega,fun j hj => ?_⟩,by omega⟩)
  ·have : v=s[i.toNat]:=by simpa using hb
   rw [this]
   exact List.getElem_mem _
  ·by_cases ej:j=i.toNat
   ·subst ej
    rw [List.getElem?_eq_getElem hi]
    intro he
    have := Option.some.inj he
    rw [this] at hb
    simp at hb
   ·exact h3 j (by omega)
 ·obtain ⟨j,hj,rfl⟩:=List.getElem_of_mem hm
  exact h3 j (by omega) (List.getElem?_eq_getElem hj)
def valI (u:ZVa) (t:Int) (x:ZIn):Int:=if x.Op=3 then Z3b.get (Z33.get u.reg t) x.Reg else x.Val
def aftI (u:ZVa) (t:Int) (x:ZIn):ZVa:=
 ⟨u.p,Z3b.set u.pc t (Z3b.get u.pc t+1),if rdX x=true then Z33.set u.reg t (Z3b.set (Z33.get u.reg t) x.Reg (Z3b.get u.mem x.Loc)) else u.reg,if wrX x=true then Z3b.set u.mem x.Loc (valI u t x) else u.mem⟩
def valS (z:ZSt) (t:Int) (x:ZIn):Int:=if x.Op=3 then z.regs.getD (t*3+x.Reg).toNat default else x.Val
def aftS (z:ZSt) (t:Int) (x:ZIn):ZSt:=
 ⟨z.at_.set t.toNat (z.at_.getD t.toNat default+1),if rdX x=true then z.regs.set (t*3+x.Reg).toNat (z.mem.getD x.Loc.toNat default) else z.regs,if wrX x=true then z.mem.set x.Loc.toNat (valS z t x) else z.mem,[]⟩
theorem after_ret (hp:PV p) (h:Rel p u z) {t:Int} (ht:0<=t/\t<(p.length:Int)) (hlt:z.at_.getD t.toNat default<((p.getD t.toNat default).length:Int)) :
  Ret (F_impl_seq_after ⟨u⟩ t) (· = ⟨aftI u t ((p.getD t.toNat default).getD (z.at_.getD t.toNat default).toNat default)⟩):=by
 have hl:=hp.vs.1
 have h1:=h.al1 t.toNat (by omega)
 have h2:=h.a t.toNat (by omega)
 have hr7:=hp.vs.2 t.toNat
 rw [Int.toNat_of_nonneg ht.1] at h2
 have hx:=hp.ins t.toNat (z.at_.getD t.toNat default).toNat (by omega) (by omega)
 unfold F_impl_seq_after
 refine (next_ret hp h ht).bind fun v ⟨e1,e2⟩ => ?_
 have e3:=e2 (e1.trans (decide_eq_true hlt))
 rw [<- e3] at hx ⊢
 generalize v.1=x at hx ⊢
 obtain ⟨x1,x2,x3,x4,x5,x6⟩:=hx
 refine .gdD ⟨ht.1,by omega⟩ (.gdY (by simp only [];omega) ?_)
 have hrg:=fun g hg=>h.regv (t:=t.toNat) (g:=g) (by omega) hg
 rw [Int.toNat_of_nonneg ht.1] at hrg
 refine Ret.bind (P:=(· = valI u t x)) ?_ fun v4 hv4 => ?_
 ·unfold F_impl_values_stored valI
  refine .bif (fun ho => .gdD ⟨ht.1,by omega⟩ (.gdD ⟨x3,by simp only [];omega⟩ (.pure ?_))) fun ho => .gdY (by simp only [];omega) (.pure ?_)
  ·rw [if_pos (by simpa using ho)]
  ·rw [if_neg (by simpa using ho)]
 subst hv4
 have hr:Ret (bif rdX x then
   gd (decide (0<=x.Loc/\x.Loc<3)) <|
   gd (decide (0<=x.Reg/\x.Reg<3)) <|
   some (Z33.set u.reg t (Z3b.set (Z33.get u.reg t) x.Reg (Z3b.get u.mem x.Loc)))
  else some u.reg) (· = if rdX x=true then Z33.set u.reg t (Z3b.set (Z33.get u.reg t) x.Reg (Z3b.get u.mem x.Loc)) else u.reg):=
  .bif (fun hb => .gdD ⟨x1,by omega⟩ (.gdD ⟨x3,by omega⟩ (.pure (by rw [if_pos hb])))) fun hb => .pure (by rw [if_neg (by simp [hb])])
 refine Ret.bind (P:=fun w=>(⟨⟨w.1,w.2.1,w.2.2.1⟩,⟨w.2.2.2.1,w.2.2.2.2.1,w.2.2.2.2.2.1⟩,⟨w.2.2.2.2.2.2.1,w.2.2.2.2.2.2.2.1,w.2.2.2.2.2.2.2.2⟩⟩:Z33)=if rdX x=true then Z33.set u.reg t (Z3b.set (Z33.get u.reg t) x.Reg (Z3b.get u.mem x.Loc)) else u.reg) ?_ fun w5 hw5 => ?_
 ·refine (ireads _).bind fun b hb => ?_
  have hb':b=rdX x:=hb
  refine .bif (fun hc => .gdD ⟨x1,by omega⟩ (.gdD ⟨x3,by omega⟩ (.pure ?_))) fun hc => .pure ?_
  ·rw [if_pos (by rw [<- hb'];exact hc)]
  ·rw [if_neg (by rw [<- hb',hc];decide)]
 refine Ret.bind (P:=fun w=>(⟨w.1,w.2.1,w.2.2⟩:Z3b)=if wrX x=true then Z3b.set u.mem x.Loc (valI u t x) else u.mem) ?_ fun w10 hw10 => .pure ?_
 ·refine (iwrites _).bind fun b hb => ?_
  have hb':b=wrX x:=hb
  refine .bif (fun hc => .gdD ⟨x1,by omega⟩ (.pure ?_)) fun hc => .pure ?_
  ·rw [if_pos (by rw [<- hb'];exact hc)]
  ·rw [if_neg (by rw [<- hb',hc];decide)]
 ·unfold aftI
  rw [hw5,hw10]
theorem copy_ret (h:Rel p u z) (hl:p.length<=3):Ret (F_spec_l3Copy z) (· = z):=by
 have ha:=h.al
 have hr:=h.rl
 have hm:=h.ml
 unfold F_spec_l3Copy
 refine .gd (capOK_le (by simp;omega) rfl) (.gd (capOK_le (by simp;omega) rfl) (.gd (capOK_le (by simp;omega) rfl) ?_))
 refine Ret.bind (P:=fun _=>True) ?_ fun _ _ => .pure ?_
 ·refine Ret.loop (fun _=>True) (fun _=>0) trivial fun s _ => ?_
  unfold F_spec_l3Copy_L7
  refine .bifD (fun h0 => ?_) fun _ => .pure trivial
  rw [h.b] at h0
  exact absurd h0 (by simp)
 ·have hb:=h.b
  cases z
  simp only at hb
  subst hb
  rfl
theorem do_ret (hp:PV p) (h:Rel p u z) {t:Int} (ht:0<=t/\t<(p.length:Int)) (hlt:z.at_.getD t.toNat default<((p.getD t.toNat default).length:Int)) :
  Ret (F_spec_l3Do p z t) (· = aftS z t ((p.getD t.toNat default).getD (z.at_.getD t.toNat default).toNat default)):=by
 have hl:=hp.vs.1
 have h1:=h.al1 t.toNat (by omega)
 have hr7:=hp.vs.2 t.toNat
 have hx:=hp.ins t.toNat (z.at_.getD t.toNat default).toNat (by omega) (by omega)
 unfold F_spec_l3Do
 generalize (p.getD t.toNat default).getD (z.at_.getD t.toNat default).toNat default=x at hx ⊢
 obtain ⟨x1,x2,x3,x4,x5,x6⟩:=hx
 have hreg:F_spec_l3Reg t x.Reg=some (t*3+x.Reg):=by
  unfold F_spec_l3Reg
  rw [gd_true (inI_of (by omega)),gd_true (inI_of (by omega))]
 refine (copy_ret h hl).bind fun v1 e => ?_
 subst e
 refine .gdD ht (.gdD (by rw [h.al];exact ht) (.gdD ⟨h1.1,hlt⟩ (.gdI (by omega) (.gdD (by rw [h.al];exact ht) ?_))))
 refine Ret.bind (P:=(· = if rdX x=true then v1.regs.set (t*3+x.Reg).toNat (v1.mem.getD x.Loc.toNat default) else v1.regs)) ?_ fun w5 hw5 => ?_
 ·refine (sreads _).bind fun b hb => ?_
  have hb':b=rdX x:=hb
  refine .bif (fun hc=>(Ret.of (P:=(· = t*3+x.Reg)) hreg rfl).bind fun v hv => ?_) fun hc => .pure ?_
  ·subst hv
   exact .gdD ⟨x1,by rw [h.ml];omega⟩ (.gdD ⟨by omega,by rw [h.rl];omega⟩ (.pure (by rw [if_pos (by rw [<- hb'];exact hc)])))
  ·rw [if_neg (by rw [<- hb',hc];decide)]
 subst hw5
 refine Ret.bind (P:=(· = if wrX x=true then v1.mem.set x.Loc.toNat (valS v1 t x) else v1.mem)) ?_ fun w10 hw10 => .pure (by rw [hw10];rfl)
 refine (swrites _).bind fun b hb => ?_
 have hb':b=wrX x:=hb
 refine .bif (fun hc => ?_) fun hc => .pure ?_
 ·refine Ret.bind (P:=(· = valS v1 t x)) ?_ fun v hv => .gdD ⟨x1,by rw [h.ml];omega⟩ (.pure (by rw [if_pos (by rw [<- hb'];exact hc),hv]))
  unfold F_spec_l3Value valS
  refine .bif (fun ho=>(Ret.of (P:=(· = t*3+x.Reg)) hreg rfl).bind fun v hv => ?_) fun ho => .pure ?_
  ·subst hv
   exact .gdD ⟨by omega,by rw [h.rl];omega⟩ (.pure (by rw [if_pos (by simpa using ho)]))
  ·rw [if_neg (by simpa using ho)]
 ·rw [if_neg (by rw [<- hb',hc];decide)]
theorem Rel.after (hp:PV p) (h:Rel p u z) {t:Int} (ht:0<=t/\t<(p.length:Int)) (hlt:z.at_.getD t.toNat default<((p.getD t.toNat default).length:Int)) {x:ZIn} (hx:InR x):Rel p (aftI u t x) (aftS z t x):=by
 have hl:=hp.vs.1
 obtain ⟨n,rfl⟩:∃ n:Nat,t=n:=⟨t.toNat,by omega⟩
 simp only [Int.toNat_natCast] at hlt
 have hn:n<p.length:=by omega
 obtain ⟨x1,x2,x3,x4,x5,x6⟩:=hx
 obtain ⟨l,hlx⟩:∃ l:Nat,x.Loc=l:=⟨x.Loc.toNat,by omega⟩
 obtain ⟨g,hgx⟩:∃ g:Nat,x.Reg=g:=⟨x.Reg.toNat,by omega⟩
 have e3:((n:Int)*3+(g:Int)).toNat=3*n+g:=by omega
 have hval:valI u n x=valS z n x:=by
  unfold valI valS
  split
  ·rw [hgx,e3,h.r n g hn (by omega)]
  ·rfl
 have hvv:0<=valS z n x/\valS z n x<=3:=by
  rw [<- hval]
  unfold valI
  split
  ·rw [hgx]
   exact h.regv hn (by omega)
  ·omega
 unfold aftI aftS
 simp only [Int.toNat_natCast]
 refine ⟨h.up,by simp only [List.length_set];exact h.al,fun i hi => ?_,fun i hi => ?_,?_,fun t' g' ht' hg' => ?_,?_,?_,fun l' hl' => ?_,?_,rfl⟩
 ·simp only []
  rw [getD_set_eq (by rw [h.al];exact hn),get_set3 _ _ _ _ (by omega) (by omega),h.a i hi,h.a n hn]
  by_cases e:i=n
  ·rw [if_pos e,if_pos (by omega)]
  ·rw [if_neg e,if_neg (by omega)]
 ·simp only []
  rw [getD_set_eq (by rw [h.al];exact hn)]
  by_cases e:i=n
  ·subst e
   have := h.al1 i hi
   rw [if_pos rfl]
   omega
  ·rw [if_neg e]
   exact h.al1 i hi
 ·simp only []
  split
  ·rw [List.length_set];exact h.rl
  ·exact h.rl
 ·simp only []
  split
  ·rw [hlx,hgx,e3,Int.toNat_natCast,getD_set_eq (by rw [h.rl];omega),get_set33 _ _ _ _ (by omega) (by omega)]
   by_cases e:t'=n
   ·subst e
    rw [if_pos rfl,get_set3 _ _ _ _ (by omega) (by omega)]
    by_cases e2:g'=g
    ·subst e2
     rw [if_pos rfl,if_pos rfl,h.m l (by omega)]
    ·rw [if_neg (by omega),if_neg (by omega)]
     exact h.r t' g' ht' hg'
   ·rw [if_neg (by omega),if_neg (by omega)]
    exact h.r t' g' ht' hg'
  ·exact h.r t' g' ht' hg'
 ·simp only []
  split
  ·refine set_allI h.rv ?_
   rw [hlx,Int.toNat_natCast,h.m l (by omega)]
   exact h.memv (by omega)
  ·exact h.rv
 ·simp only []
  split
  ·rw [List.length_set];exact h.ml
  ·exact h.ml
 ·simp only []
  split
  ·rw [hlx,Int.toNat_natCast,getD_set_eq (by rw [h.ml];omega),get_set3 _ _ _ _ (by omega) (by omega),hval]
   by_cases e:l'=l
   ·rw [if_pos e,if_pos (by omega)]
   ·rw [if_neg e,if_neg (by omega)]
    exact h.m l' hl'
  ·exact h.m l' hl'
 ·simp only []
  split
  ·exact set_allI h.mv hvv
  ·exact h.mv
theorem start_ret (hp:PV p):Ret (F_spec_l3Start p (0:Int)) (Rel p ⟨p,⟨0,0,0⟩,⟨⟨0,0,0⟩,⟨0,0,0⟩,⟨0,0,0⟩⟩,⟨0,0,0⟩⟩):=by
 have hl:=hp.vs.1
 have z3:∀ i:Int,Z3b.get ⟨0,0,0⟩ i=0:=fun i=>by
  simp only [Z3b.get]
  split <;> (try split) <;> rfl
 have z33:∀ i:Int,Z33.get ⟨⟨0,0,0⟩,⟨0,0,0⟩,⟨0,0,0⟩⟩ i=⟨0,0,0⟩:=fun i=>by
  simp only [Z33.get]
  split <;> (try split) <;> rfl
 have zr:∀ n i:Nat,(List.replicate n (default:Int)).getD i default=0:=fun n i=>by
  rw [List.getD_eq_getElem?_getD,List.getElem?_replicate]
  split <;> rfl
 unfold F_spec_l3Start
 refine .gdD (by omega) (.gdI (by omega) (.gdD (by omega) (.gdD (by decide) (.gdD (by decide) (.pure ⟨rfl,by simp,fun i hi => ?_,fun i hi => ?_,by simp;omega,fun t g ht hg => ?_,fun v hv => ?_,by simp,fun l hl => ?_,fun v hv => ?_,by simp⟩)))))
 ·simp only [zr,z3]
 ·simp only [zr];omega
 ·simp only [zr,z33,z3]
 ·rw [List.eq_of_mem_replicate hv];decide
 ·simp only [zr,z3]
 ·rw [List.eq_of_mem_replicate hv];decide
def Good (p:List (List ZIn)) (s:List Int) (n:Nat):Prop:=∀ j,j<n->(0<=s.getD j default/\s.getD j default<(p.length:Int))/\(s.take j).count (s.getD j default)<(p.getD (s.getD j default).toNat default).length
theorem take_count {s:List Int} {i:Nat} (h:i<s.length) (v:Int):(s.take (i+1)).count v=(s.take i).count v+if s.getD i default=v then 1 else 0:=by
 have e:s.getD i default=s[i]:=by rw [List.getD_eq_getElem?_getD,List.getElem?_eq_getElem h];rfl
 rw [<- List.take_append_getElem h,List.count_append,List.count_singleton,e]
 simp only [beq_iff_eq]
theorem run_step (hp:PV p) {s:List Int} {i:Nat} (hs:s.length<=1048576) (hi:i<s.length) (h:Rel p u z) :
  (¬ ((0<=s.getD i default/\s.getD i default<(p.length:Int))/\z.at_.getD (s.getD i default).toNat default<((p.getD (s.getD i default).toNat default).length:Int))->F_impl_follow__impl_seq_L5 s ((i:Int),⟨u⟩)=some (.inr (.inr (none,false)))/\F_spec_RunSchedule_L8 p s (z.at_,z.regs,z.mem,z.buf,(i:Int))=some (.inr (.inr ([],false)))) /\
  (((0<=s.getD i default/\s.getD i default<(p.length:Int))/\z.at_.getD (s.getD i default).toNat default<((p.getD (s.getD i default).toNat default).length:Int))->∃ u' z',F_impl_follow__impl_seq_L5 s ((i:Int),⟨u⟩)=some (.inl (((i+1:Nat):Int),⟨u'⟩))/\F_spec_RunSchedule_L8 p s (z.at_,z.regs,z.mem,z.buf,(i:Int))=some (.inl (z'.at_,z'.regs,z'.mem,z'.buf,((i+1:Nat):Int)))/\Rel p u' z'/\z'.at_=z.at_.set (s.getD i default).toNat (z.at_.getD (s.getD i default).toNat default+1)/\z'=aftS z (s.getD i default) ((p.getD (s.getD i default).toNat default).getD (z.at_.getD (s.getD i default).toNat default).toNat default)):=by
 have hl:=hp.vs.1
 have hc:(i:Int)<(s.length:Int):=by omega
 generalize hm:s.getD i default=m
 have hcond:Ret (bif decide (m<(0:Int)) then some true
   else bif decide ((p.length:Int)<=m) then some true
   else gd (decide (0<=m/\m<(z.at_.length:Int)))<|gd (decide (0<=m/\m<(p.length:Int))) <|
    some ((z.at_.getD m.toNat default)==((p.getD m.toNat default).length:Int))) (· = !decide ((0<=m/\m<(p.length:Int))/\z.at_.getD m.toNat default<((p.getD m.toNat default).length:Int))):=by
  refine .bifD (fun h1 => .pure (by rw [decide_eq_false (by omega)];rfl)) fun h1 => .bifD (fun h2 => .pure (by rw [decide_eq_false (by omega)];rfl)) fun h2 => .gdD ⟨by omega,by rw [h.al];omega⟩ (.gdD ⟨by omega,by omega⟩ (.pure ?_))
  have := h.al1 m.toNat (by omega)
  by_cases e:z.at_.getD m.toNat default=((p.getD m.toNat default).length:Int)
  ·rw [decide_eq_false (by omega),e]
   simp
  ·rw [decide_eq_true (by omega)]
   simpa using e
 have hmv:=moves_ret hp h
 constructor
 ·intro hbad
  have hb:=decide_eq_false hbad
  constructor
  ·refine Ret.eq ?_
   unfold F_impl_follow__impl_seq_L5
   simp only [Int.toNat_natCast,hm]
   refine .bifD (fun _ => .gdD ⟨by omega,hc⟩ (hmv.bind fun l ⟨hll,hl'⟩ => ?_)) fun hn=>absurd hc hn
   refine (contains_ret l m (by omega)).bind fun b hb' => ?_
   subst hb'
   refine .bif (fun _ => .pure rfl) fun hn => ?_
   have := (hl' m).1 (by simpa using hn)
   exact absurd this hbad
  ·refine Ret.eq ?_
   unfold F_spec_RunSchedule_L8
   simp only [Int.toNat_natCast,hm]
   refine .bifD (fun _ => ?_) fun hn=>absurd hc hn
   refine Ret.sumR (.gdD ⟨by omega,hc⟩ (.sumR (hcond.bind fun b hb' => ?_)))
   rw [hb] at hb'
   subst hb'
   exact .pure rfl
 ·intro hok
  have hb:=decide_eq_true hok
  have hx:=hp.ins m.toNat (z.at_.getD m.toNat default).toNat (by omega) (by have := h.al1 m.toNat (by omega);omega)
  refine ⟨_,_,?_,?_,h.after hp hok.1 hok.2 hx,rfl,rfl⟩
  ·refine Ret.eq ?_
   unfold F_impl_follow__impl_seq_L5
   simp only [Int.toNat_natCast,hm]
   refine .bifD (fun _ => .gdD ⟨by omega,hc⟩ (hmv.bind fun l ⟨hll,hl'⟩ => ?_)) fun hn=>absurd hc hn
   refine (contains_ret l m (by omega)).bind fun b hb' => ?_
   subst hb'
   refine .bif (fun hn => ?_) fun _=>(after_ret hp h hok.1 hok.2).bind fun v hv => .gdI (by omega) (.pure (by rw [hv];rfl))
   have := (hl' m).2 hok
   simp [this] at hn
  ·refine Ret.eq ?_
   unfold F_spec_RunSchedule_L8
   simp only [Int.toNat_natCast,hm]
   refine .bifD (fun _ => ?_) fun hn=>absurd hc hn
   refine Ret.sumL (s:=((aftS z m ((p.getD m.toNat default).getD (z.at_.getD m.toNat default).toNat default)).at_,(aftS z m ((p.getD m.toNat default).getD (z.at_.getD m.toNat default).toNat default)).regs,(aftS z m ((p.getD m.toNat default).getD (z.at_.getD m.toNat default).toNat default)).mem,(aftS z m ((p.getD m.toNat default).getD (z.at_.getD m.toNat default).toNat default)).buf)) (.gdD ⟨by omega,hc⟩ (.sumL (s:=()) (hcond.bind fun b hb' => ?_) ((do_ret hp h hok.1 hok.2).bind fun v hv=>by subst hv;exact .pure rfl))) (.gdI (by omega) (.pure rfl))
   rw [hb] at hb'
   subst hb'
   exact .pure rfl
end
end Go.Proofs.Ytlmjnhnpahicmaa
namespace Go.Proofs.Ytlmjnhnpahicmaa
open Go.RowKit
set_option maxRecDepth 100000
section
variable {p:List (List ZIn)} {u:ZVa} {z:ZSt}
def zR (p:List (List ZIn)) (s:List Int) (z0:ZSt):Nat->ZSt
 | 0=>z0
 | i+1=>aftS (zR p s z0 i) (s.getD i default) ((p.getD (s.getD i default).toNat default).getD ((zR p s z0 i).at_.getD (s.getD i default).toNat default).toNat default)
theorem run2 (hp:PV p) {s:List Int} (z0:ZSt) (hs:s.length<=1048576):∀ (n i:Nat) (u:ZVa) (z:ZSt),i+n=s.length->z=zR p s z0 i->Rel p u z->(∀ t:Nat,t<p.length->z.at_.getD t default=((s.take i).count (t:Int):Int))->Good p s i ->
  (loopO (F_impl_follow__impl_seq_L5 s) ((i:Int),⟨u⟩)=some (.inr (none,false))/\loopO (F_spec_RunSchedule_L8 p s) (z.at_,z.regs,z.mem,z.buf,(i:Int))=some (.inr ([],false)) /\ ¬ Good p s s.length) \/
  (∃ u' z',loopO (F_impl_follow__impl_seq_L5 s) ((i:Int),⟨u⟩)=some (.inl ⟨u'⟩)/\loopO (F_spec_RunSchedule_L8 p s) (z.at_,z.regs,z.mem,z.buf,(i:Int))=some (.inl (z'.at_,z'.regs,z'.mem,z'.buf))/\Rel p u' z'/\Good p s s.length/\(∀ t:Nat,t<p.length->z'.at_.getD t default=(s.count (t:Int):Int))/\z'=zR p s z0 s.length):=by
 intro n
 induction n with
 | zero=>
  intro i u z hi hz h hc hg
  have e:i=s.length:=by omega
  subst e
  refine .inr ⟨u,z,?_,?_,h,hg,by simpa using hc,hz⟩
  ·rw [loopO_eq]
   unfold F_impl_follow__impl_seq_L5
   simp only [decide_eq_false (Int.lt_irrefl (s.length:Int))]
   rfl
  ·rw [loopO_eq]
   unfold F_spec_RunSchedule_L8
   simp only [decide_eq_false (Int.lt_irrefl (s.length:Int))]
   rfl
 | succ n ih=>
  intro i u z hi hz h hc hg
  have hi':i<s.length:=by omega
  obtain ⟨h1,h2⟩:=run_step hp hs hi' h
  by_cases hok:(0<=s.getD i default/\s.getD i default<(p.length:Int))/\z.at_.getD (s.getD i default).toNat default<((p.getD (s.getD i default).toNat default).length:Int)
  ·obtain ⟨u',z',e1,e2,h',ha,hza⟩:=h2 hok
   have hn:(s.getD i default).toNat<p.length:=by omega
   have key:=hc _ hn
   have em:(((s.getD i default).toNat:Nat):Int)=s.getD i default:=Int.toNat_of_nonneg hok.1.1
   rw [em] at key
   have := ih (i+1) u' z' (by omega) (by rw [hza,hz];rfl) h' (fun t ht => ?_) (fun j hj => ?_)
   ·rcases this with ⟨g1,g2,g5⟩ | ⟨u2,z2,g1,g2,g3,g4,g5⟩
    ·exact .inl ⟨by rw [loopO_eq,e1];exact g1,by rw [loopO_eq,e2];exact g2,g5⟩
    ·exact .inr ⟨u2,z2,by rw [loopO_eq,e1];exact g1,by rw [loopO_eq,e2];exact g2,g3,g4,g5⟩
   ·rw [ha,getD_set_eq (by rw [h.al];exact hn),take_count hi',key]
    by_cases e:t=(s.getD i default).toNat
    ·have e':s.getD i default=(t:Int):=by omega
     rw [if_pos e,if_pos e',e']
     omega
    ·have e' : ¬ s.getD i default=(t:Int):=by omega
     rw [if_neg e,if_neg e',hc t ht]
     rfl
   ·by_cases e:j=i
    ·subst e
     exact ⟨hok.1,by rw [key] at hok;omega⟩
    ·exact hg j (by omega)
  ·obtain ⟨e1,e2⟩:=h1 hok
   refine .inl ⟨by rw [loopO_eq,e1];rfl,by rw [loopO_eq,e2];rfl,fun hG=>hok ?_⟩
   obtain ⟨q1,q2⟩:=hG i hi'
   refine ⟨q1,?_⟩
   have em:(((s.getD i default).toNat:Nat):Int)=s.getD i default:=Int.toNat_of_nonneg q1.1
   have key:=hc (s.getD i default).toNat (by omega)
   rw [em] at key
   rw [key]
   omega
def Open (p:List (List ZIn)) (z:ZSt):Prop:=∃ t:Nat,t<p.length/\z.at_.getD t default<((p.getD t default).length:Int)
theorem sdone_ret (hp:PV p) (h:Rel p u z):Ret (F_spec_l3Done p z) fun d=>d=true ↔ ¬ Open p z:=by
 have hl:=hp.vs.1
 unfold F_spec_l3Done
 refine Ret.sum (PS:=fun _ => ¬ Open p z) (PW:=fun d:Bool=>d=true ↔ ¬ Open p z) ?_ fun _ hn => .pure ⟨fun _=>hn,fun _=>rfl⟩
 refine Ret.loop (fun i=>0<=i/\i<=(p.length:Int)/\∀ t:Nat,(t:Int)<i -> ¬ z.at_.getD t default<((p.getD t default).length:Int)) (fun i=>((p.length:Int)-i).toNat) ⟨Int.le_refl _,by omega,fun t ht=>absurd ht (by omega)⟩ fun i ⟨h1,h2,h3⟩ => ?_
 unfold F_spec_l3Done_L5
 refine .bifD (fun h0 => .gdD ⟨h1,by rw [h.al];exact h0⟩ (.gdD ⟨h1,h0⟩ ?_)) fun hge => .pure ?_
 ·refine .bifD (fun he => .pure ⟨nofun,fun hn=>absurd ⟨i.toNat,by omega,he⟩ hn⟩) fun he => .gdI (by omega) (.pure ⟨⟨by omega,by omega,fun t ht => ?_⟩,by omega⟩)
  by_cases e:t=i.toNat
  ·subst e;exact he
  ·exact h3 t (by omega)
 ·rintro ⟨t,ht,hlt⟩
  exact h3 t (by omega) hlt
theorem idone_ret (hp:PV p) (h:Rel p u z):Ret (F_impl_seq_done ⟨u⟩) fun d=>d=true ↔ ¬ Open p z:=by
 have hl:=hp.vs.1
 unfold F_impl_seq_done F_impl_values_allDone
 refine Ret.bind (P:=fun d:Bool=>d=true ↔ ¬ Open p z) ?_ fun v hv => .pure hv
 refine Ret.sum (PS:=fun _ => ¬ Open p z) (PW:=fun d:Bool=>d=true ↔ ¬ Open p z) ?_ fun _ hn => .pure ⟨fun _=>hn,fun _=>rfl⟩
 refine Ret.loop (fun i=>0<=i/\i<=(p.length:Int)/\∀ t:Nat,(t:Int)<i -> ¬ z.at_.getD t default<((p.getD t default).length:Int)) (fun i=>((p.length:Int)-i).toNat) ⟨Int.le_refl _,by omega,fun t ht=>absurd ht (by omega)⟩ fun i ⟨h1,h2,h3⟩ => ?_
 unfold F_impl_values_allDone_L5
 simp only [h.up]
 refine .bifD (fun h0=>(next_ret hp h ⟨h1,h0⟩).bind fun v ⟨e1,_⟩ => ?_) fun hge => .pure ?_
 ·refine .bif (fun hb => .pure ⟨nofun,fun hn=>absurd ⟨i.toNat,by omega,of_decide_eq_true (e1.symm.trans hb)⟩ hn⟩) fun hb => .gdI (by omega) (.pure ⟨⟨by omega,by omega,fun t ht => ?_⟩,by omega⟩)
  ·by_cases e:t=i.toNat
   ·subst e
    rw [hb] at e1
    exact of_decide_eq_false e1.symm
   ·exact h3 t (by omega)
 ·rintro ⟨t,ht,hlt⟩
  exact h3 t (by omega) hlt
theorem rep_row (hp:p.length<=3) (h:Rel p u z) {n:Nat} (hn:n<p.length) (base:List Int) (hb:base.length<=1000) {step:(List Int×Int)->Option ((List Int×Int) ⊕ List Int)} (hs:∀ s:List Int×Int,step s=bif decide (s.2<(3:Int)) then
  gd (decide (0<=s.2/\s.2<3))<|gd (inK .i64 (Z3b.get (Z33.get u.reg (n:Int)) s.2))<|gd (capOK (s.1.length+1) 8)<|gd (inK .i64 (s.2+(1:Int))) <|
  some (.inl ((s.1++[(Z3b.get (Z33.get u.reg (n:Int)) s.2)]),(s.2+(1:Int)))) else some (.inr s.1)):Ret (loopO step (base,(0:Int))) (· = base++(z.regs.drop (3*n)).take 3):=by
 refine Ret.loop (fun s=>∃ k:Nat,k<=3/\s=(base++(z.regs.drop (3*n)).take k,(k:Int))) (fun s=>(3-s.2).toNat) ⟨0,by omega,by simp⟩ fun s ⟨k,h1,h2⟩ => ?_
 subst h2
 rw [hs]
 refine .bifD (fun hk => ?_) fun hk => .pure ?_
 ·simp only [] at hk
  have hv:=h.regv hn (g:=k) (by omega)
  have hr:=h.r n k hn (by omega)
  refine .gdD ⟨by simp only [];omega,hk⟩ (.gdI (by simp only [];omega) (.gd (capOK_le ?_ rfl) (.gdI (by simp only [];omega) (.pure ⟨⟨k+1,by omega,?_⟩,by simp only [];omega⟩))))
  ·simp only [List.length_append,List.length_take,List.length_drop];omega
  ·simp only []
   rw [<- hr,List.append_assoc]
   have hkl:3*n+k<z.regs.length:=by rw [h.rl];omega
   have hd:(z.regs.drop (3*n)).take (k+1)=(z.regs.drop (3*n)).take k++[z.regs.getD (3*n+k) default]:=by
    rw [<- List.take_append_getElem (by rw [List.length_drop];omega),List.getElem_drop,List.getD_eq_getElem?_getD,List.getElem?_eq_getElem hkl]
    rfl
   rw [hd]
   rfl
 ·simp only [] at hk
  have : k=3:=by omega
  subst this
  rfl
theorem ioutcome_ret (hp:PV p) (h:Rel p u z):Ret (F_impl_values_outcome u) (· = z.regs++z.mem):=by
 have hl:=hp.vs.1
 unfold F_impl_values_outcome
 refine Ret.bind (P:=(· = z.regs)) ?_ fun v hv => ?_
 ·refine Ret.loop (fun s=>∃ n:Nat,n<=p.length/\s=(z.regs.take (3*n),(n:Int))) (fun s=>((p.length:Int)-s.2).toNat) ⟨0,by omega,by simp⟩ fun s ⟨n,h1,h2⟩ => ?_
  subst h2
  unfold F_impl_values_outcome_L8
  simp only [h.up]
  refine .bifD (fun hk => ?_) fun hk => .pure ?_
  ·refine Ret.bind (P:=(· = z.regs.take (3*n)++(z.regs.drop (3*n)).take 3)) (.gdD ⟨by omega,by omega⟩ (rep_row hl h (n:=n) (by omega) _ (by rw [List.length_take];omega) fun s=>by unfold F_impl_values_outcome_L21;rfl)) fun v hv => .gdI (by omega) (.pure ⟨⟨n+1,by omega,?_⟩,by simp only [];omega⟩)
   subst hv
   rw [show 3*(n+1)=3*n+3 by omega,List.take_add]
   rfl
  ·have : n=p.length:=by omega
   subst this
   exact List.take_of_length_le (by rw [h.rl];exact Nat.le_refl _)
 ·subst hv
  refine Ret.bind (P:=(· = z.regs++z.mem)) ?_ fun v hv => .pure hv
  refine Ret.loop (fun s=>∃ k:Nat,k<=3/\s=(z.regs++z.mem.take k,(k:Int))) (fun s=>(3-s.2).toNat) ⟨0,by omega,by simp⟩ fun s ⟨k,h1,h2⟩ => ?_
  subst h2
  unfold F_impl_values_outcome_L44
  have hrl:=h.rl
  have hml:=h.ml
  refine .bifD (fun hk => ?_) fun hk => .pure ?_
  ·simp only [] at hk
   have hv:=h.memv (l:=k) (by omega)
   have hm:=h.m k (by omega)
   refine .gdD ⟨by simp only [];omega,hk⟩ (.gdI (by simp only [];omega) (.gd (capOK_le (by simp only [List.length_append,List.length_take];omega) rfl) (.gdI (by simp only [];omega) (.pure ⟨⟨k+1,by omega,?_⟩,by simp only [];omega⟩))))
   simp only []
   rw [<- hm,List.append_assoc]
   have hd:z.mem.take (k+1)=z.mem.take k++[z.mem.getD k default]:=by
    rw [<- List.take_append_getElem (by omega),List.getD_eq_getElem?_getD,List.getElem?_eq_getElem (by omega)]
    rfl
   rw [hd]
   rfl
  ·simp only [] at hk
   have : k=3:=by omega
   subst this
   simp only []
   rw [List.take_of_length_le (by omega)]
theorem soutcome_ret (hp:PV p) (h:Rel p u z):Ret (F_spec_l3Outcome z) (· = z.regs++z.mem):=by
 have hl:=hp.vs.1
 have hrl:=h.rl
 have hml:=h.ml
 unfold F_spec_l3Outcome
 exact .gd (capOK_le (by simp;omega) rfl) (.gd (capOK_le (by simp;omega) rfl) (.pure rfl))
def u0 (p:List (List ZIn)):ZVa:=⟨p,⟨0,0,0⟩,⟨⟨0,0,0⟩,⟨0,0,0⟩,⟨0,0,0⟩⟩,⟨0,0,0⟩⟩
theorem iR_bad {s:List Int} (hI:F_impl_ProgramValid p=some true) (g1:loopO (F_impl_follow__impl_seq_L5 s) ((0:Int),⟨u0 p⟩)=some (.inr (none,false))):Ret (F_impl_RunSchedule p s) (· = ([],false)):=by
 unfold F_impl_RunSchedule
 refine (Ret.of (P:=(· = true)) hI rfl).bind fun v hv => .bif (fun h=>by subst hv;simp at h) fun _ => ?_
 refine Ret.bind (P:=(· = ⟨u0 p⟩)) (.pure rfl) fun v3 h3 => ?_
 subst h3
 refine Ret.bind (P:=(· = ([],false))) ?_ fun v hv => .pure (by rw [hv])
 unfold F_impl_finished__impl_seq
 refine Ret.bind (P:=(· = (none,false))) (by unfold F_impl_follow__impl_seq;exact .sumR (.of g1 rfl)) fun v hv => ?_
 subst hv
 exact Ret.bind (P:=(· = true)) (.bif (fun _ => .pure rfl) fun h=>by simp at h) fun b hb => .bif (fun _ => .pure rfl) fun h=>by subst hb;cases h
theorem iR_good {s:List Int} {u':ZVa} {d:Bool} {o:List Int} (hI:F_impl_ProgramValid p=some true) (g1:loopO (F_impl_follow__impl_seq_L5 s) ((0:Int),⟨u0 p⟩)=some (.inl ⟨u'⟩)) (hd:F_impl_seq_done ⟨u'⟩=some d) (ho:F_impl_values_outcome u'=some o) :
  Ret (F_impl_RunSchedule p s) (· = bif d then (o,true) else ([],false)):=by
 unfold F_impl_RunSchedule
 refine (Ret.of (P:=(· = true)) hI rfl).bind fun v hv => .bif (fun h=>by subst hv;simp at h) fun _ => ?_
 refine Ret.bind (P:=(· = ⟨u0 p⟩)) (.pure rfl) fun v3 h3 => ?_
 subst h3
 refine Ret.bind (P:=(· = bif d then (o,true) else ([],false))) ?_ fun v hv => .pure (by rw [hv])
 unfold F_impl_finished__impl_seq
 refine Ret.bind (P:=(· = (some ⟨u'⟩,true))) (by unfold F_impl_follow__impl_seq;exact .sumL (.of g1 rfl) (.pure rfl)) fun v hv => ?_
 subst hv
 refine Ret.bind (P:=(· = !d)) (.bif (fun h=>by simp at h) fun _ => .gd rfl ((Ret.of (P:=(· = d)) hd rfl).bind fun v hv => .pure (by rw [hv]))) fun b hb => ?_
 subst hb
 cases d with
 | true=>exact .gd rfl ((Ret.of (P:=(· = o)) ho rfl).bind fun v hv => .pure (by rw [hv];rfl))
 | false=>exact .pure rfl
theorem sR_bad {s:List Int} {z0:ZSt} (hI:F_spec_ProgramValid p=some true) (h0:F_spec_l3Start p 0=some z0) (g1:loopO (F_spec_RunSchedule_L8 p s) (z0.at_,z0.regs,z0.mem,z0.buf,(0:Int))=some (.inr ([],false))):Ret (F_spec_RunSchedule p s) (· = ([],false)):=by
 unfold F_spec_RunSchedule
 refine (Ret.of (P:=(· = true)) hI rfl).bind fun v hv => .bif (fun h=>by subst hv;simp at h) fun _ => ?_
 refine (Ret.of (P:=(· = z0)) h0 rfl).bind fun v3 h3 => ?_
 subst h3
 exact .sumR (.of g1 rfl)
theorem sR_good {s:List Int} {z0 z':ZSt} {d:Bool} {o:List Int} (hI:F_spec_ProgramValid p=some true) (h0:F_spec_l3Start p 0=some z0) (g1:loopO (F_spec_RunSchedule_L8 p s) (z0.at_,z0.regs,z0.mem,z0.buf,(0:Int))=some (.inl (z'.at_,z'.regs,z'.mem,z'.buf))) (hd:F_spec_l3Done p z'=some d) (ho:F_spec_l3Outcome z'=some o) :
  Ret (F_spec_RunSchedule p s) (· = bif d then (o,true) else ([],false)):=by
 unfold F_spec_RunSchedule
 refine (Ret.of (P:=(· = true)) hI rfl).bind fun v hv => .bif (fun h=>by subst hv;simp at h) fun _ => ?_
 refine (Ret.of (P:=(· = z0)) h0 rfl).bind fun v3 h3 => ?_
 subst h3
 refine .sumL (.of g1 rfl) ((Ret.of (P:=(· = d)) hd rfl).bind fun b hb => ?_)
 subst hb
 cases b with
 | true=>exact (Ret.of (P:=(· = o)) ho rfl).bind fun v hv => .pure (by rw [hv];rfl)
 | false=>exact .pure rfl
def Whole (p:List (List ZIn)) (s:List Int):Prop:=validB (p.map fun r=>r.map toIns)=true/\Good p s s.length/\∀ t:Nat,t<p.length->s.count (t:Int)=(p.getD t default).length
theorem irun_all (p:List (List ZIn)) {s:List Int} (hsz:p.length<=1048576/\total p<=1048576) (hs:s.length<=1048576) :
  ∃ o b,F_impl_RunSchedule p s=some (o,b)/\F_spec_RunSchedule p s=some (o,b)/\(b=true↔Whole p s)/\(b=true->∃ z0,F_spec_l3Start p 0=some z0/\Rel p (u0 p) z0/\o=(zR p s z0 s.length).regs++(zR p s z0 s.length).mem):=by
 have hI:F_impl_ProgramValid p=some (validB (p.map fun r=>r.map toIns)):=gd_true (decide_eq_true hsz)
 have hS:F_spec_ProgramValid p=some (validB (p.map fun r=>r.map toIns)):=gd_true (decide_eq_true hsz)
 cases hv:validB (p.map fun r=>r.map toIns) with
 | false=>
  unfold F_impl_RunSchedule F_spec_RunSchedule
  rw [hI,hS,hv]
  exact ⟨[],false,rfl,rfl,⟨nofun,fun h=>by have := h.1;rw [hv] at this;cases this⟩,nofun⟩
 | true=>
  rw [hv] at hI hS
  have hp:=PV.of hv
  obtain ⟨z0,e0,h0⟩:=start_ret hp
  have hr:=run2 hp z0 hs s.length 0 _ z0 (by omega) rfl h0 (fun t ht=>by
   rw [h0.a t ht]
   simp only [Z3b.get,List.take_zero,List.count_nil]
   split <;> (try split) <;> rfl) (fun j hj=>absurd hj (by omega))
  rcases hr with ⟨g1,g2,g5⟩ | ⟨u',z',g1,g2,g3,g4,g5,g6⟩
  ·exact ⟨[],false,(iR_bad hI g1).eq,(sR_bad hS e0 g2).eq,⟨nofun,fun h=>absurd h.2.1 g5⟩,nofun⟩
  ·obtain ⟨d,d1,d2⟩:=sdone_ret hp g3
   obtain ⟨d',d1',d2'⟩:=idone_ret hp g3
   have ed:d'=d:=Bool.eq_iff_iff.2 (d2'.trans d2.symm)
   subst ed
   have k1:=(iR_good hI g1 d1' (ioutcome_ret hp g3).eq).eq
   have k2:=(sR_good hS e0 g2 d1 (soutcome_ret hp g3).eq).eq
   have hw:d'=true↔Whole p s:=by
    rw [d2]
    refine ⟨fun h=>⟨hv,g4,fun t ht => ?_⟩,fun h ⟨t,ht,hlt⟩ => ?_⟩
    ·have h1:=(g3.al1 t ht).2
     have h2:=g5 t ht
     have h3 : ¬ z'.at_.getD t default<((p.getD t default).length:Int):=fun hlt=>h ⟨t,ht,hlt⟩
     omega
    ·have h2:=g5 t ht
     have h3:=h.2.2 t ht
     omega
   cases d' with
   | true=>exact ⟨_,true,k1,k2,hw,fun _=>⟨z0,e0,h0,by rw [g6]⟩⟩
   | false=>exact ⟨[],false,k1,k2,hw,nofun⟩
theorem irun_ret (p:List (List ZIn)) {s:List Int} (hsz:p.length<=1048576/\total p<=1048576) (hs:s.length<=1048576) :
  ∃ o b,F_impl_RunSchedule p s=some (o,b)/\F_spec_RunSchedule p s=some (o,b)/\(b=true↔Whole p s):=by
 obtain ⟨o,b,h1,h2,h3,_⟩:=irun_all p hsz hs
 exact ⟨o,b,h1,h2,h3⟩
end
end Go.Proofs.Ytlmjnhnpahicmaa
namespace Go.Proofs.Ytlmjnhnpahicmaa
open Go.RowKit
set_option maxRecDepth 100000
section
variable {α β W:Type} [Inhabited α]
theorem eqLoop {a b:List α} [DecidableEq α] (hl:a.length=b.length) {bad:W} {step:Int->Option (Int ⊕ (Unit ⊕ W))}
  (hs:∀ i:Int,0<=i->i<(a.length:Int)->Ret (step i) (· = if a.getD i.toNat default=b.getD i.toNat default then .inl (i+1) else .inr (.inr bad)))
  (he:∀ i:Int,¬ i<(a.length:Int)->step i=some (.inr (.inl ()))):Ret (loopO step 0) (· = if a=b then .inl () else .inr bad):=by
 refine Ret.loop (fun i=>0<=i/\i<=(a.length:Int)/\∀ j:Nat,(j:Int)<i->a[j]? = b[j]?) (fun i=>((a.length:Int)-i).toNat) ⟨Int.le_refl _,by omega,fun i hi=>absurd hi (by omega)⟩ fun i ⟨h1,h2,h3⟩ => ?_
 by_cases h:i<(a.length:Int)
 ·refine (hs i h1 h).mono ?_
  have ha:i.toNat<a.length:=by omega
  have hb:i.toNat<b.length:=by omega
  have ea:a.getD i.toNat default=a[i.toNat]:=by rw [List.getD_eq_getElem?_getD,List.getElem?_eq_getElem ha];rfl
  have eb:b.getD i.toNat default=b[i.toNat]:=by rw [List.getD_eq_getElem?_getD,List.getElem?_eq_getElem hb];rfl
  rintro _ rfl
  by_cases e:a.getD i.toNat default=b.getD i.toNat default
  ·rw [if_pos e]
   refine ⟨⟨by omega,by omega,fun j hj => ?_⟩,by omega⟩
   by_cases ej:j=i.toNat
   ·subst ej
    rw [List.getElem?_eq_getElem ha,List.getElem?_eq_getElem hb,<- ea,<- eb,e]
   ·exact h3 j (by omega)
  ·rw [if_neg e]
   show _=_
   rw [if_neg]
   rintro rfl
   exact e rfl
 ·rw [he i h]
  refine .pure ?_
  show _=_
  rw [if_pos]
  refine List.ext_getElem? fun j => ?_
  by_cases hj:(j:Int)<i
  ·exact h3 j hj
  ·rw [List.getElem?_eq_none (by omega),List.getElem?_eq_none (by omega)]
end
instance:DecidableEq ZIn:=fun a b=>decidable_of_iff (a.Op=b.Op/\a.Loc=b.Loc/\a.Reg=b.Reg/\a.Val=b.Val) ⟨fun ⟨h1,h2,h3,h4⟩=>by cases a;cases b;simp only at h1 h2 h3 h4;subst h1 h2 h3 h4;rfl,fun h=>by subst h;exact ⟨rfl,rfl,rfl,rfl⟩⟩
end Go.Proofs.Ytlmjnhnpahicmaa
namespace Go.Proofs.Ytlmjnhnpahicmaa
open Go.RowKit
set_option maxRecDepth 100000
theorem mul_all:((List.range 25).all fun n=>decide (F_math_bits_Mul64 1 (n:Int)=some (0,(n:Int))))=true:=by decide +kernel
theorem mul_is {n:Nat} (h:n<25):F_math_bits_Mul 1 (n:Int)=some (0,(n:Int)):=by
 have := List.all_eq_true.1 mul_all n (List.mem_range.2 h)
 unfold F_math_bits_Mul
 rw [of_decide_eq_true this]
 rfl
theorem repeat_ret {n:Nat} (h:n<25) (h0:0<n) (c:Int):Ret (F_slices_Repeat_int_int [c] (n:Int)) (· = List.replicate n c):=by
 unfold F_slices_Repeat_int_int
 refine Ret.bind (P:=fun _=>True) (.bifD (fun h=>absurd h (by omega)) fun _ => .pure trivial) fun _ _ => .gd (inU_of (by simp)) (.gd (inU_of (by omega)) ?_)
 refine (Ret.of (P:=(· = (0,(n:Int)))) (mul_is h) rfl).bind fun v5 h5 => ?_
 subst h5
 refine Ret.bind (P:=fun _=>True) (Ret.bind (P:=(· = false)) (.bifD (fun h=>absurd h (Int.lt_irrefl 0)) fun _ => .pure (by simp only [];rw [decide_eq_false (by omega)])) fun b hb => .bif (fun h=>by subst hb;cases h) fun _ => .pure trivial) fun _ _ => .gdI (by simp only [];omega) (.gdD (by simp only [];omega) ?_)
 simp only [Int.toNat_natCast,List.length_replicate]
 refine Ret.bind (P:=(· = List.replicate n c)) ?_ fun v hv => .pure hv
 refine Ret.loop (fun s=>∃ (k:Nat) (r:List Int),0<k/\k<=n/\s.2=(k:Int)/\s.1=List.replicate k c++r/\r.length=n-k) (fun s=>((n:Int)-s.2).toNat) ⟨1,List.replicate (n-1) default,by omega,by omega,by simp;omega,?_,by simp⟩ fun s ⟨k,r,k0,k1,k2,k3,k4⟩ => ?_
 ·unfold cpy
  rw [if_pos (by simp)]
  simp only [List.take_zero,List.nil_append,List.length_singleton,List.drop_replicate]
  rw [show min 1 n=1 by omega]
  rfl
 ·obtain ⟨l,m⟩:=s
  simp only at k2 k3
  subst k2
  have hl:l.length=n:=by rw [k3,List.length_append,List.length_replicate,k4];omega
  unfold F_slices_Repeat_int_int_L17
  simp only [hl,Int.toNat_natCast,Int.toNat_zero,Nat.zero_add,List.drop_zero,Nat.sub_zero]
  refine .bifD (fun hk => ?_) fun hk => .pure ?_
  ·have ht:l.take k=List.replicate k c:=by rw [k3,List.take_append_of_le_length (by simp),List.take_of_length_le (by simp)]
   simp only [ht,List.length_replicate]
   refine .gdD (by omega) (.gdD (by omega) (.gdI (by omega) (.pure ⟨⟨k+min k (n-k),r.drop (min k (n-k)),by omega,by omega,by simp,?_,by rw [List.length_drop];omega⟩,by simp only [];omega⟩)))
   unfold cpy
   rw [if_pos (by omega),ht]
   simp only [List.length_replicate,List.take_replicate]
   rw [show min (min k (n-k)) k=min k (n-k) by omega,List.replicate_append_replicate,k3,List.drop_append,List.length_replicate,List.drop_of_length_le (by simp),List.nil_append,Nat.add_sub_cancel_left]
  ·have : k=n:=by omega
   subst this
   have : r=[]:=List.eq_nil_of_length_eq_zero (by omega)
   rw [k3,this,List.append_nil]
section
variable {p:List (List ZIn)}
def base (p:List (List ZIn)) (t k:Nat):Nat:=(evP p t).length+(evR t (p.getD t default) k).length
def num (p:List (List ZIn)) (t k:Nat):Int:=if ((p.getD t default).getD k default).Op=4 then -1 else (base p t k:Int)
theorem evR_pre (t:Nat) (row:List ZIn):∀ {n m:Nat},n<=m->evR t row n <+: evR t row m:=by
 intro n m h
 induction h with
 | refl=>exact List.prefix_refl _
 | step _ ih=>exact ih.trans (List.prefix_append _ _)
theorem evP_pre (p:List (List ZIn)):∀ {n m:Nat},n<=m->evP p n <+: evP p m:=by
 intro n m h
 induction h with
 | refl=>exact List.prefix_refl _
 | step _ ih=>exact ih.trans (List.prefix_append _ _)
theorem pre_getD {l m:List ZEv} (h:l <+: m) {i:Nat} (hi:i<l.length):m.getD i default=l.getD i default/\i<m.length:=by
 obtain ⟨r,rfl⟩:=h
 refine ⟨?_,by rw [List.length_append];omega⟩
 rw [List.getD_eq_getElem?_getD,List.getD_eq_getElem?_getD,List.getElem?_append_left hi]
theorem num_ev {t k:Nat} (ht:t<p.length) (hk:k<(p.getD t default).length) (ho : ¬ ((p.getD t default).getD k default).Op=4) :
  (evs p).getD (base p t k) default=⟨t,k,((p.getD t default).getD k default).Loc,rdX ((p.getD t default).getD k default),wrX ((p.getD t default).getD k default)⟩/\base p t k<(evs p).length:=by
 have h1:evP p t++(evR t (p.getD t default) k++[⟨t,k,((p.getD t default).getD k default).Loc,rdX ((p.getD t default).getD k default),wrX ((p.getD t default).getD k default)⟩]) <+: evs p:=by
  refine List.IsPrefix.trans ?_ (evP_pre p (show t+1<=p.length by omega))
  refine (List.prefix_append_right_inj _).2 ?_
  refine List.IsPrefix.trans ?_ (evR_pre t (p.getD t default) (show k+1<=(p.getD t default).length by omega))
  show _ <+: evR t (p.getD t default) k++evI t k ((p.getD t default).getD k default)
  unfold evI
  rw [if_neg ho]
  exact List.prefix_refl _
 obtain ⟨e1,e2⟩:=pre_getD h1 (i:=base p t k) (by simp only [base,List.length_append,List.length_singleton];omega)
 refine ⟨e1.trans ?_,e2⟩
 rw [List.getD_eq_getElem?_getD,base,List.getElem?_append_right (by omega),Nat.add_sub_cancel_left,List.getElem?_append_right (by omega),Nat.sub_self]
 rfl
def fnd (t k:Int):Nat->List ZEv->List Int
 | _,[]=>[]
 | b,e::l=>(if e.Thread=t/\e.Index=k then [(b:Int)] else [])++fnd t k (b+1) l
theorem fnd_append (t k:Int):∀ (l m:List ZEv) (b:Nat),fnd t k b (l++m)=fnd t k b l++fnd t k (b+l.length) m
 | [],m,b=>by simp [fnd]
 | e::l,m,b=>by
  simp only [List.cons_append,fnd,fnd_append t k l m,List.append_assoc,List.length_cons]
  rw [show b+1+l.length=b+(l.length+1) by omega]
theorem fnd_none (t k:Int):∀ (l:List ZEv) (b:Nat),(∀ e∈l,¬ (e.Thread=t/\e.Index=k))->fnd t k b l=[]
 | [],_,_=>rfl
 | e::l,b,h=>by
  simp only [fnd]
  rw [if_neg (h e (List.mem_cons_self)),fnd_none t k l _ fun x hx=>h x (List.mem_cons_of_mem _ hx)]
  rfl
theorem fnd_row (t:Nat) (row:List ZIn) (k:Nat) (n b:Nat):fnd t k b (evR t row n)=if k<n /\ ¬ (row.getD k default).Op=4 then [((b+(evR t row k).length:Nat):Int)] else []:=by
 induction n with
 | zero=>rw [if_neg (by omega)];rfl
 | succ n ih=>
  show fnd t k b (evR t row n++evI t n (row.getD n default))=_
  rw [fnd_append,ih]
  by_cases e:k=n
  ·subst e
   rw [if_neg (by omega)]
   unfold evI
   by_cases ho:(row.getD k default).Op=4
   ·rw [if_pos ho,if_neg (fun h=>h.2 ho)]
    rfl
   ·rw [if_neg ho,if_pos ⟨by omega,ho⟩]
    simp [fnd]
  ·have h2:fnd t k (b+(evR t row n).length) (evI t n (row.getD n default))=[]:=by
    refine fnd_none _ _ _ _ fun x hx => ?_
    unfold evI at hx
    split at hx
    ·simp at hx
    ·rw [List.mem_singleton] at hx
     subst hx
     simp only []
     omega
   rw [h2,List.append_nil]
   by_cases h:k<n
   ·simp only [h,show k<n+1 by omega,true_and]
   ·rw [if_neg (by omega),if_neg (by omega)]
theorem fnd_evP (p:List (List ZIn)) (t k:Nat) (n:Nat):fnd t k 0 (evP p n)=if t<n/\k<(p.getD t default).length /\ ¬ ((p.getD t default).getD k default).Op=4 then [(base p t k:Int)] else []:=by
 induction n with
 | zero=>
  rw [if_neg (by omega)]
  refine fnd_none _ _ _ _ fun e he => ?_
  simp only [evP,ev0,List.mem_cons,List.not_mem_nil,or_false] at he
  rcases he with rfl | rfl | rfl <;> (simp only [];omega)
 | succ n ih=>
  show fnd t k 0 (evP p n++evR n (p.getD n default) (p.getD n default).length)=_
  rw [fnd_append,ih]
  by_cases e:t=n
  ·subst e
   rw [if_neg (by omega),fnd_row,Nat.zero_add]
   by_cases h:k<(p.getD t default).length /\ ¬ ((p.getD t default).getD k default).Op=4
   ·rw [if_pos h,if_pos ⟨by omega,h⟩]
    rfl
   ·rw [if_neg h,if_neg fun g=>h g.2]
    rfl
  ·have h2:fnd t k (0+(evP p n).length) (evR n (p.getD n default) (p.getD n default).length)=[]:=by
    refine fnd_none _ _ _ _ fun x hx => ?_
    obtain ⟨j,_,h3,_⟩:=evR_mem hx
    rw [h3]
    omega
   rw [h2,List.append_nil]
   by_cases h:t<n
   ·simp only [h,show t<n+1 by omega,true_and]
   ·rw [if_neg (by omega),if_neg (by omega)]
def stepN (p:List (List ZIn)) (t k:Nat):List Int:=if ((p.getD t default).getD k default).Op=4 then [] else [(base p t k:Int)]
def stT (s:List Int) (j:Nat):Nat:=(s.getD j default).toNat
def stK (s:List Int) (j:Nat):Nat:=(s.take j).count (s.getD j default)
def ordF (p:List (List ZIn)) (s:List Int):Nat->List Int
 | 0=>[]
 | n+1=>ordF p s n++stepN p (stT s n) (stK s n)
theorem ordF_len (p:List (List ZIn)) (s:List Int) (n:Nat):(ordF p s n).length<=n:=by
 induction n with
 | zero=>exact Nat.le_refl _
 | succ n ih=>
  have : (stepN p (stT s n) (stK s n)).length<=1:=by unfold stepN;split <;> simp
  simp only [ordF,List.length_append]
  omega
theorem evs_len {p:List (List ZIn)} (h:Vs p):(evs p).length<=24:=by
 have h1:=evP_len h p.length
 have h2:=h.1
 unfold evs
 omega
theorem fnd_snoc (t k:Int) (l:List ZEv) (e:ZEv):fnd t k 0 (l++[e])=fnd t k 0 l++if e.Thread=t/\e.Index=k then [(l.length:Int)] else []:=by
 rw [fnd_append,Nat.zero_add]
 simp [fnd]
theorem order_ret (hp:PV p) {s:List Int} (hs:s.length<=1048576) (hg:Good p s s.length):Ret (F_spec_l13Order p s) (· = ordF p s s.length):=by
 have hl:=hp.vs.1
 have hel:=evs_len hp.vs
 unfold F_spec_l13Order
 refine (sevents hp.vs).bind fun v1 h1 => .gdD (by omega) ?_
 subst h1
 refine Ret.bind (P:=fun z=>z.2=ordF p s s.length) ?_ fun v hv => .pure hv
 refine Ret.loop (fun z=>∃ n:Nat,n<=s.length/\z.2.2=(n:Int)/\z.2.1=ordF p s n/\z.1.length=p.length/\∀ t:Nat,t<p.length->z.1.getD t default=((s.take n).count (t:Int):Int)) (fun z=>((s.length:Int)-z.2.2).toNat) ⟨0,by omega,rfl,rfl,by simp,fun t ht => ?_⟩ fun z ⟨n,h1,h2,h3,h4,h5⟩ => ?_
 ·simp only [List.take_zero,List.count_nil]
  rw [List.getD_eq_getElem?_getD,List.getElem?_replicate]
  split <;> rfl
 ·obtain ⟨at_,l,i⟩:=z
  simp only at h2 h3 h4 h5
  subst h2 h3
  unfold F_spec_l13Order_L9
  refine .bifD (fun hk => ?_) fun hk => .pure ?_
  ·simp only [] at hk
   obtain ⟨g1,g2⟩:=hg n (by omega)
   have ht:(s.getD n default).toNat<p.length:=by omega
   have em:(((s.getD n default).toNat:Nat):Int)=s.getD n default:=Int.toNat_of_nonneg g1.1
   have hat:=h5 _ ht
   rw [em] at hat
   have hrow:=hp.vs.2 (s.getD n default).toNat
   refine Ret.bind (P:=(· = ordF p s (n+1))) (.gdD ⟨by simp only [];omega,hk⟩ ?_) fun v hv => .gdI (by simp only [];omega) (.pure ⟨⟨n+1,by omega,rfl,hv,by simp only [List.length_set];exact h4,fun t htp => ?_⟩,by simp only [];omega⟩)
   ·refine Ret.bind (P:=(· = ordF p s (n+1))) ?_ fun v hv => .gdD ⟨g1.1,by simp only [];rw [h4];exact g1.2⟩ (.gdI (by simp only [Int.toNat_natCast];rw [hat];omega) (.pure hv))
    refine Ret.loop (fun y=>∃ m:Nat,m<=(evs p).length/\y=(ordF p s n++fnd (s.getD n default) (stK s n) 0 ((evs p).take m),(m:Int))) (fun y=>(((evs p).length:Int)-y.2).toNat) ⟨0,by omega,by simp [fnd]⟩ fun y ⟨m,m1,m2⟩ => ?_
    subst m2
    have hol:=ordF_len p s n
    unfold F_spec_l13Order_L20
    refine .bifD (fun hm => ?_) fun hm => .pure ?_
    ·simp only [] at hm
     have hfl:(fnd (s.getD n default) (stK s n) 0 ((evs p).take m)).length<=m:=by
      have : ∀ (l:List ZEv) (b:Nat),(fnd (s.getD n default) (stK s n) b l).length<=l.length:=by
       intro l
       induction l with
       | nil=>intro b;exact Nat.le_refl _
       | cons e l ih=>
        intro b
        have := ih (b+1)
        simp only [fnd,List.length_append,List.length_cons]
        split <;> simp only [List.length_singleton,List.length_nil] <;> omega
      refine Nat.le_trans (this _ _) ?_
      rw [List.length_take]
      omega
     refine Ret.bind (P:=(· = ordF p s n++fnd (s.getD n default) (stK s n) 0 ((evs p).take (m+1)))) ?_ fun v hv => .gdI (by simp only [];omega) (.pure ⟨⟨m+1,by omega,by rw [hv];rfl⟩,by simp only [];omega⟩)
     have hml:m<(evs p).length:=by omega
     have ee:(evs p).getD m default=(evs p)[m]:=by rw [List.getD_eq_getElem?_getD,List.getElem?_eq_getElem hml];rfl
     rw [<- List.take_append_getElem hml,fnd_snoc,<- ee,List.length_take,Nat.min_eq_left (by omega)]
     simp only [Int.toNat_natCast]
     refine Ret.bind (P:=fun b=>b=decide (((evs p).getD m default).Thread=s.getD n default/\((evs p).getD m default).Index=(stK s n:Int))) (.gdD ⟨by omega,hm⟩ (.bif (fun hb => .gdD ⟨g1.1,by rw [h4];exact g1.2⟩ (.pure ?_)) fun hb => .pure ?_)) fun b hb => ?_
     ·rw [hat]
      have hb:((evs p).getD m default).Thread=s.getD n default:=by simpa using hb
      simp only [hb,true_and]
      rfl
     ·have hb : ¬ ((evs p).getD m default).Thread=s.getD n default:=by simpa using hb
      rw [decide_eq_false fun h=>hb h.1]
     ·subst hb
      refine .bifD (fun hc => .gd (capOK_le (by rw [List.length_append];omega) rfl) (.pure ?_)) fun hc => .pure ?_
      ·rw [if_pos hc,List.append_assoc]
      ·rw [if_neg hc,List.append_nil]
    ·simp only [] at hm
     have : m=(evs p).length:=by omega
     subst this
     simp only [List.take_length]
     show _=ordF p s n++stepN p (stT s n) (stK s n)
     congr 1
     have := fnd_evP p (stT s n) (stK s n) p.length
     unfold stT at this
     rw [em] at this
     show fnd _ _ 0 (evP p p.length)=_
     rw [this]
     unfold stepN stT
     by_cases ho:((p.getD (s.getD n default).toNat default).getD (stK s n) default).Op=4
     ·rw [if_neg fun h=>h.2.2 ho,if_pos ho]
     ·rw [if_pos ⟨ht,g2,ho⟩,if_neg ho]
   ·simp only [Int.toNat_natCast]
    rw [getD_set_eq (by rw [h4];exact ht),take_count (by omega),hat]
    by_cases e:t=(s.getD n default).toNat
    ·have e':s.getD n default=(t:Int):=by omega
     rw [if_pos e,if_pos e',e']
     omega
    ·have e' : ¬ s.getD n default=(t:Int):=by omega
     rw [if_neg e,if_neg e',h5 t htp]
     rfl
  ·simp only [] at hk
   have : n=s.length:=by omega
   subst this
   rfl
end
end Go.Proofs.Ytlmjnhnpahicmaa
namespace Go.Proofs.Ytlmjnhnpahicmaa
open Go.RowKit
set_option maxRecDepth 100000
section
variable {p:List (List ZIn)}
theorem getD_nil (l:List (List Int)) (i:Nat):l.getD i default=l.getD i []:=rfl
theorem getD_setL {l:List (List Int)} {i j:Nat} {v:List Int} (hi:i<l.length):(l.set i v).getD j []=if j=i then v else l.getD j []:=by
 rw [List.getD_eq_getElem?_getD,List.getElem?_set]
 by_cases e:i=j
 ·subst e
  rw [if_pos rfl,if_pos hi,if_pos rfl]
  rfl
 ·rw [if_neg e,if_neg (Ne.symm e),List.getD_eq_getElem?_getD]
def numR (p:List (List ZIn)) (t k:Nat):List Int:=(List.range k).map (num p t)
theorem numR_succ (t k:Nat):numR p t (k+1)=numR p t k++[num p t k]:=by
 unfold numR
 rw [List.range_succ,List.map_append]
 rfl
theorem numbers_ret (hp:PV p):Ret (F_impl_numbers p) fun l=>l.length=p.length/\∀ t:Nat,t<p.length->l.getD t []=numR p t (p.getD t default).length:=by
 have hl:=hp.vs.1
 unfold F_impl_numbers
 refine .gdD (by omega) ?_
 refine Ret.bind (P:=fun l=>l.length=p.length/\∀ t:Nat,t<p.length->l.getD t []=numR p t (p.getD t default).length) ?_ fun v hv => .pure hv
 refine Ret.loop (fun z=>∃ n:Nat,n<=p.length/\z.2.1=(n:Int)/\z.2.2=((evP p n).length:Int)/\z.1.length=p.length/\∀ t:Nat,t<p.length->z.1.getD t []=if t<n then numR p t (p.getD t default).length else []) (fun z=>((p.length:Int)-z.2.1).toNat) ⟨0,by omega,rfl,rfl,by simp,fun t ht => ?_⟩ fun z ⟨n,h1,h2,h3,h4,h5⟩ => ?_
 ·simp only []
  rw [if_neg (by omega),List.getD_eq_getElem?_getD,List.getElem?_replicate]
  split <;> rfl
 ·obtain ⟨l,i,c⟩:=z
  simp only at h2 h3 h4 h5
  subst h2 h3
  unfold F_impl_numbers_L14
  refine .bifD (fun hk => ?_) fun hk => .pure ?_
  ·simp only [] at hk
   have hn:n<p.length:=by omega
   have hrow:=hp.vs.2 n
   have hlen:=evP_len hp.vs n
   refine Ret.bind (P:=fun y=>y.2=((evP p (n+1)).length:Int)/\y.1.length=p.length/\∀ t:Nat,t<p.length->y.1.getD t []=if t<n+1 then numR p t (p.getD t default).length else []) (.gdD ⟨by simp only [];omega,hk⟩ ?_) fun v ⟨v1,v2,v3⟩ => .gdI (by simp only [];omega) (.pure ⟨⟨n+1,by omega,rfl,v1,v2,v3⟩,by simp only [];omega⟩)
   refine Ret.loop (fun y=>∃ k:Nat,k<=(p.getD n default).length/\y.2.1=(k:Int)/\y.2.2=(base p n k:Int)/\y.1.length=p.length/\∀ t:Nat,t<p.length->y.1.getD t []=if t<n then numR p t (p.getD t default).length else if t=n then numR p t k else []) (fun y=>(((p.getD n default).length:Int)-y.2.1).toNat) ⟨0,by omega,rfl,by simp [base,evR],h4,fun t ht => ?_⟩ fun y ⟨k,k1,k2,k3,k4,k5⟩ => ?_
   ·rw [h5 t ht]
    by_cases e:t<n
    ·rw [if_pos e,if_pos e]
    ·rw [if_neg e,if_neg e]
     split <;> rfl
   ·obtain ⟨l',i',c'⟩:=y
    simp only at k2 k3 k4 k5
    subst k2 k3
    unfold F_impl_numbers_L33
    simp only [Int.toNat_natCast]
    refine .bifD (fun hkk => ?_) fun hkk => .pure ?_
    ·have hR:=evR_len n (p.getD n default) k
     have hb:base p n k<=31:=by unfold base;omega
     have hrn:=k5 n hn
     rw [if_neg (Nat.lt_irrefl n),if_pos rfl] at hrn
     have hrl:(numR p n k).length=k:=by simp [numR]
     have hfin:∀ (v:Int),v=num p n k->∀ t:Nat,t<p.length->(l'.set n (numR p n k++[v])).getD t []=if t<n then numR p t (p.getD t default).length else if t=n then numR p t (k+1) else []:=fun v hv t ht=>by
      rw [getD_setL (by omega)]
      by_cases e:t=n
      ·subst e
       rw [if_pos rfl,if_neg (Nat.lt_irrefl t),if_pos rfl,numR_succ,hv]
      ·rw [if_neg e,k5 t ht]
       by_cases e2:t<n
       ·rw [if_pos e2,if_pos e2]
       ·rw [if_neg e2,if_neg e2,if_neg e,if_neg e]
     refine Ret.bind (P:=fun y=>y.2=(base p n (k+1):Int)/\y.1.length=p.length/\∀ t:Nat,t<p.length->y.1.getD t []=if t<n then numR p t (p.getD t default).length else if t=n then numR p t (k+1) else []) (.gdD ⟨by omega,hkk⟩ (.bif (fun ho => ?_) fun ho => ?_)) fun v ⟨v1,v2,v3⟩ => .gdI (by omega) (.pure ⟨⟨k+1,by omega,rfl,v1,v2,v3⟩,by simp only [];omega⟩)
     ·have ho:((p.getD n default).getD k default).Op=4:=by simpa using ho
      refine .gdD ⟨by omega,by omega⟩ (.gd (capOK_le (by rw [hrn,hrl];omega) rfl) (.pure ⟨?_,by simp only [List.length_set];exact k4,?_⟩))
      ·simp only [base,evR,evI,if_pos ho,List.append_nil]
      ·rw [hrn]
       exact hfin _ (by rw [num,if_pos ho])
     ·have ho : ¬ ((p.getD n default).getD k default).Op=4:=by simpa using ho
      refine .gdD ⟨by omega,by omega⟩ (.gd (capOK_le (by rw [hrn,hrl];omega) rfl) (.gdI (by omega) (.pure ⟨?_,by simp only [List.length_set];exact k4,?_⟩)))
      ·simp only [base,evR,evI,if_neg ho,List.length_append,List.length_singleton]
       omega
      ·rw [hrn]
       exact hfin _ (by rw [num,if_neg ho])
    ·have : k=(p.getD n default).length:=by omega
     subst this
     refine ⟨?_,k4,fun t ht => ?_⟩
     ·simp only [base,evP,List.length_append]
     ·simp only []
      rw [k5 t ht]
      by_cases e:t=n
      ·subst e
       rw [if_neg (Nat.lt_irrefl t),if_pos rfl,if_pos (by omega)]
      ·by_cases e2:t<n
       ·rw [if_pos e2,if_pos (by omega)]
       ·rw [if_neg e2,if_neg e,if_neg (by omega)]
  ·simp only [] at hk
   have : n=p.length:=by omega
   subst this
   refine ⟨h4,fun t ht => ?_⟩
   rw [h5 t ht,if_pos ht]
abbrev XS:=List Int×List (List Int)
def stX (p:List (List ZIn)) (st:XS) (n:Int):XS:=
  (if ((evs p).getD n.toNat default).Reads=true then st.1.set n.toNat ((st.2.getD ((evs p).getD n.toNat default).Loc.toNat []).getD (((st.2.getD ((evs p).getD n.toNat default).Loc.toNat []).length:Int)-1).toNat default) else st.1,
   st.2.set ((evs p).getD n.toNat default).Loc.toNat (if ((evs p).getD n.toNat default).Writes=true then st.2.getD ((evs p).getD n.toNat default).Loc.toNat []++[n] else st.2.getD ((evs p).getD n.toNat default).Loc.toNat []))
def x0 (p:List (List ZIn)):XS:=(List.replicate (evs p).length (-1),[[0],[1],[2]])
def runX (p:List (List ZIn)) (l:List Int):XS:=l.foldl (stX p) (x0 p)
theorem runX_snoc (l:List Int) (n:Int):runX p (l++[n])=stX p (runX p l) n:=by
 unfold runX
 rw [List.foldl_append]
 rfl
def OkN (p:List (List ZIn)) (n:Int):Prop:=(0<=n/\n<((evs p).length:Int))/\0<=((evs p).getD n.toNat default).Loc/\((evs p).getD n.toNat default).Loc<=2
structure InX (p:List (List ZIn)) (m:Nat) (st:XS):Prop where
 f:st.1.length=(evs p).length
 o:st.2.length=3
 r:∀ i:Nat,i<3->1<=(st.2.getD i []).length/\(st.2.getD i []).length<=m+1
theorem InX.x0:InX p 0 (x0 p):=⟨by simp [Ytlmjnhnpahicmaa.x0],rfl,fun i hi=>by
 match i,hi with
 | 0,_=>exact ⟨Nat.le_refl 1,Nat.le_refl 1⟩
 | 1,_=>exact ⟨Nat.le_refl 1,Nat.le_refl 1⟩
 | 2,_=>exact ⟨Nat.le_refl 1,Nat.le_refl 1⟩⟩
theorem InX.step {m:Nat} {st:XS} {n:Int} (h:InX p m st) (hn:OkN p n):InX p (m+1) (stX p st n):=by
 obtain ⟨_,h2,h3⟩:=hn
 unfold stX
 refine ⟨?_,by simp only [List.length_set];exact h.o,fun i hi => ?_⟩
 ·simp only []
  split
  ·rw [List.length_set];exact h.f
  ·exact h.f
 ·simp only []
  rw [getD_setL (by rw [h.o];omega)]
  have hr:=h.r ((evs p).getD n.toNat default).Loc.toNat (by omega)
  have hi':=h.r i hi
  split
  ·split
   ·simp only [List.length_append,List.length_singleton];omega
   ·omega
  ·omega
theorem InX.runs:∀ {l:List Int} {m:Nat} {st:XS},InX p m st->(∀ n∈l,OkN p n)->InX p (m+l.length) (l.foldl (stX p) st)
 | [],_,_,h,_=>h
 | n::l,m,st,h,k=>by
  have := InX.runs (h.step (k n (List.mem_cons_self))) fun x hx=>k x (List.mem_cons_of_mem _ hx)
  rw [List.length_cons,show m+(l.length+1)=m+1+l.length by omega]
  exact this
theorem InX.run {l:List Int} (h:∀ n∈l,OkN p n):InX p l.length (runX p l):=by
 have := InX.runs InX.x0 h
 rwa [Nat.zero_add] at this
theorem step_ok (hp:PV p) {t k:Nat} (ht:t<p.length) (hk:k<(p.getD t default).length):∀ n∈stepN p t k,OkN p n:=by
 intro n hn
 unfold stepN at hn
 split at hn
 ·simp at hn
 ·rename_i ho
  rw [List.mem_singleton] at hn
  subst hn
  obtain ⟨e1,e2⟩:=num_ev ht hk ho
  have hx:=hp.ins t k ht hk
  refine ⟨by omega,?_⟩
  rw [Int.toNat_natCast,e1]
  exact ⟨hx.1,hx.2.1⟩
theorem good_at {s:List Int} (hg:Good p s s.length) {j:Nat} (hj:j<s.length):stT s j<p.length/\((stT s j:Nat):Int)=s.getD j default/\stK s j<(p.getD (stT s j) default).length:=by
 obtain ⟨g1,g2⟩:=hg j hj
 unfold stT stK
 exact ⟨by omega,by omega,g2⟩
theorem ord_ok (hp:PV p) {s:List Int} (hg:Good p s s.length):∀ {n:Nat},n<=s.length->∀ m∈ordF p s n,OkN p m:=by
 intro n
 induction n with
 | zero=>intro _ m hm;simp [ordF] at hm
 | succ n ih=>
  intro hn m hm
  simp only [ordF,List.mem_append] at hm
  rcases hm with hm | hm
  ·exact ih (by omega) m hm
  ·obtain ⟨h1,_,h3⟩:=good_at hg (j:=n) (by omega)
   exact step_ok hp h1 h3 m hm
theorem exec_step {m:Nat} {st:XS} {n:Int} (h:InX p m st) (hm:m<=2000000) (hn:OkN p n) {loc:Int} {rd wr:Bool} (hloc:loc=((evs p).getD n.toNat default).Loc) (hrd:rd=((evs p).getD n.toNat default).Reads) (hwr:wr=((evs p).getD n.toNat default).Writes) :
  Ret (Option.bind (bif rd then
    gd (inK .i64 (((st.2.getD loc.toNat []).length:Int)-(1:Int))) <|
    gd (decide (0<=(((st.2.getD loc.toNat []).length:Int)-(1:Int))/\(((st.2.getD loc.toNat []).length:Int)-(1:Int))<(((st.2.getD loc.toNat []).length):Int))) <|
    gd (decide (0<=n/\n<(st.1.length:Int))) <|
    some ((st.1.set n.toNat ((st.2.getD loc.toNat []).getD ((((st.2.getD loc.toNat []).length:Int)-(1:Int)).toNat) default)),(st.2.getD loc.toNat []))
   else some (st.1,(st.2.getD loc.toNat []))) fun (w:List Int×List Int)=>
   bif wr then
    gd (capOK (w.2.length+1) 8) <|
    some (w.1,(st.2.set loc.toNat (w.2++[n])))
   else some (w.1,(st.2.set loc.toNat w.2))) (· = stX p st n):=by
 obtain ⟨h1,h2,h3⟩:=hn
 have hr:=h.r ((evs p).getD n.toNat default).Loc.toNat (by omega)
 subst hloc hrd hwr
 unfold stX
 refine Ret.bind (P:=fun w=>w.1=(if ((evs p).getD n.toNat default).Reads=true then st.1.set n.toNat ((st.2.getD ((evs p).getD n.toNat default).Loc.toNat []).getD (((st.2.getD ((evs p).getD n.toNat default).Loc.toNat []).length:Int)-1).toNat default) else st.1)/\w.2=st.2.getD ((evs p).getD n.toNat default).Loc.toNat []) (.bif (fun hb => .gdI (by omega) (.gdD (by omega) (.gdD (by rw [h.f];exact h1) (.pure ⟨by rw [if_pos hb],rfl⟩)))) fun hb => .pure ⟨by rw [if_neg (Bool.eq_false_iff.1 hb)],rfl⟩) fun w ⟨w1,w2⟩ => ?_
 exact .bif (fun hb => .gd (capOK_le (by rw [w2];omega) rfl) (.pure (by rw [if_pos hb,w1,w2]))) fun hb => .pure (by rw [if_neg (Bool.eq_false_iff.1 hb),w1,w2])
theorem sexec_ret (hp:PV p) {s:List Int} (hs:s.length<=1048576) (hg:Good p s s.length):Ret (F_spec_l13Exec p s) (· = ⟨(runX p (ordF p s s.length)).1,(runX p (ordF p s s.length)).2⟩):=by
 have hel:=evs_len hp.vs
 unfold F_spec_l13Exec
 refine (sevents hp.vs).bind fun v1 h1 => ?_
 subst h1
 refine Ret.bind (P:=(· = (List.replicate (evs p).length (-1),[]))) ?_ fun v2 h2 => ?_
 ·refine Ret.loop (fun z=>∃ n:Nat,n<=(evs p).length/\z=(List.replicate n (-1),[],(n:Int))) (fun z=>(((evs p).length:Int)-z.2.2).toNat) ⟨0,by omega,rfl⟩ fun z ⟨n,h1,h2⟩ => ?_
  subst h2
  unfold F_spec_l13Exec_L21
  refine .bifD (fun hk => .gd (capOK_le (by rw [List.length_replicate];omega) rfl) (.gdI (by simp only [];omega) (.pure ⟨⟨n+1,by simp only [] at hk;omega,?_⟩,by simp only [] at hk ⊢;omega⟩))) fun hk => .pure ?_
  ·rw [List.replicate_succ']
   rfl
  ·have : n=(evs p).length:=by simp only [] at hk;omega
   subst this
   rfl
 subst h2
 refine Ret.bind (P:=(· = [[0],[1],[2]])) ?_ fun v2 h2 => ?_
 ·refine Ret.loop (fun z=>∃ n:Nat,n<=3/\z=(([[0],[1],[2]]:List (List Int)).take n,(n:Int))) (fun z=>(3-z.2).toNat) ⟨0,by omega,rfl⟩ fun z ⟨n,h1,h2⟩ => ?_
  subst h2
  unfold F_spec_l13Exec_L59
  refine .bifD (fun h => ?_) fun h => .pure ?_
  ·match n,h1,h with
   | 0,_,_=>exact .gdC (by decide) rfl (.gdI (by decide) (.pure ⟨⟨1,by omega,rfl⟩,by decide⟩))
   | 1,_,_=>exact .gdC (by decide) rfl (.gdI (by decide) (.pure ⟨⟨2,by omega,rfl⟩,by decide⟩))
   | 2,_,_=>exact .gdC (by decide) rfl (.gdI (by decide) (.pure ⟨⟨3,by omega,rfl⟩,by decide⟩))
   | 3,_,h=>exact absurd h (by decide)
  ·have : n=3:=by simp only [] at h;omega
   subst this
   rfl
 subst h2
 refine (order_ret hp hs hg).bind fun v75 h75 => ?_
 have hok:=ord_ok hp hg (Nat.le_refl s.length)
 have hln:=ordF_len p s s.length
 rw [<- h75] at hok hln ⊢
 clear h75
 refine Ret.bind (P:=(· = runX p v75)) ?_ fun v hv => .pure (by rw [hv])
 refine Ret.loop (fun z=>∃ n:Nat,n<=v75.length/\z=((runX p (v75.take n)).1,(runX p (v75.take n)).2,(n:Int))) (fun z=>((v75.length:Int)-z.2.2).toNat) ⟨0,by omega,rfl⟩ fun z ⟨n,h1,h2⟩ => ?_
 subst h2
 unfold F_spec_l13Exec_L95
 refine .bifD (fun hk => ?_) fun hk => .pure ?_
 ·simp only [] at hk
  have hn:n<v75.length:=by omega
  have en:v75.getD n default=v75[n]:=by rw [List.getD_eq_getElem?_getD,List.getElem?_eq_getElem hn];rfl
  have hx:=hok _ (List.getElem_mem hn)
  rw [<- en] at hx
  have hin:=InX.run (p:=p) (l:=v75.take n) fun x hx=>hok x (List.mem_of_mem_take hx)
  rw [List.length_take,Nat.min_eq_left (by omega)] at hin
  simp only [Int.toNat_natCast]
  refine Ret.bind (P:=(· = runX p (v75.take (n+1)))) (.gdD ⟨by omega,hk⟩ (.gdD hx.1 (.gdD ⟨hx.2.1,by rw [hin.o];have := hx.2.2;omega⟩ ?_))) fun v hv => .gdI (by omega) (.pure ⟨⟨n+1,by omega,by rw [hv];rfl⟩,by simp only [];omega⟩)
  rw [<- List.take_append_getElem hn,runX_snoc,<- en]
  exact exec_step hin (by omega) hx rfl rfl rfl
 ·have : n=v75.length:=by simp only [] at hk;omega
  subst this
  rw [List.take_length]
theorem get_set3i (a:Z3i) (q i v:Int) (hq:0<=q/\q<=2) (hi:0<=i/\i<=2):Z3i.get (Z3i.set a q v) i=if i=q then v else Z3i.get a i:=by
 obtain ⟨x,y,z⟩:=a
 have h1:q=0\/q=1\/q=2:=by omega
 have h2:i=0\/i=1\/i=2:=by omega
 rcases h1 with rfl | rfl | rfl <;> rcases h2 with rfl | rfl | rfl <;> rfl
theorem iexec_ret (hp:PV p) {s:List Int} (hs:s.length<=1048576) (hg:Good p s s.length):Ret (F_impl_execOf p s) (· = ⟨(runX p (ordF p s s.length)).1,(runX p (ordF p s s.length)).2⟩):=by
 have hl:=hp.vs.1
 have hel:=evs_len hp.vs
 have he3:3<=(evs p).length:=(evP_pre p (Nat.zero_le p.length)).length_le
 unfold F_impl_execOf
 refine (ievents hp.vs).bind fun v1 h1 => ?_
 subst h1
 refine (repeat_ret (by omega) (by omega) (-1)).bind fun v2 h2 => ?_
 subst h2
 refine (numbers_ret hp).bind fun v6 ⟨n1,n2⟩ => ?_
 refine Ret.bind (P:=fun z=>z.1=(runX p (ordF p s s.length)).1/\z.2.1=(runX p (ordF p s s.length)).2) ?_ fun v hv => .pure (by rw [hv.1,hv.2])
 refine Ret.loop (fun z=>∃ n:Nat,n<=s.length/\z.1=(runX p (ordF p s n)).1/\z.2.1=(runX p (ordF p s n)).2/\z.2.2.2.2.2=(n:Int)/\∀ t:Nat,t<3->Z3i.get ⟨z.2.2.1,z.2.2.2.1,z.2.2.2.2.1⟩ (t:Int)=((s.take n).count (t:Int):Int)) (fun z=>((s.length:Int)-z.2.2.2.2.2).toNat) ⟨0,by omega,rfl,rfl,rfl,fun t ht => ?_⟩ fun z ⟨n,h1,h2,h3,h4,h5⟩ => ?_
 ·simp only [Z3i.get,List.take_zero,List.count_nil]
  split <;> (try split) <;> rfl
 ·obtain ⟨f,o,a0,a1,a2,i⟩:=z
  simp only at h2 h3 h4 h5
  subst h2 h3 h4
  unfold F_impl_execOf_L25
  refine .bifD (fun hk => ?_) fun hk => .pure ?_
  ·simp only [] at hk
   simp only [Int.toNat_natCast]
   obtain ⟨g1,g2,g3⟩:=good_at hg (j:=n) (by omega)
   have hok:=ord_ok hp hg (n:=n) (by omega)
   have hin:=InX.run hok
   have hol:=ordF_len p s n
   generalize ha:(⟨a0,a1,a2⟩:Z3i)=a at h5 ⊢
   have hgt:Z3i.get a (s.getD n default)=(stK s n:Int):=by
    rw [<- g2,h5 _ (by omega),g2]
    rfl
   have hrow:=hp.vs.2 (stT s n)
   have hx:=hp.ins _ _ g1 g3
   have hT:(s.getD n default).toNat=stT s n:=rfl
   have hnum:v6.getD (stT s n) default=numR p (stT s n) (p.getD (stT s n) default).length:=n2 _ g1
   have hnl:(numR p (stT s n) (p.getD (stT s n) default).length).length=(p.getD (stT s n) default).length:=by simp [numR]
   have hnk:(numR p (stT s n) (p.getD (stT s n) default).length).getD (stK s n) default=num p (stT s n) (stK s n):=by
    unfold numR
    rw [List.getD_eq_getElem?_getD,List.getElem?_map,List.getElem?_range g3]
    rfl
   simp only [hgt,hT,hnum,hnk,Int.toNat_natCast]
   refine Ret.bind (P:=(· = runX p (ordF p s (n+1)))) (.gdD ⟨by omega,hk⟩ (.gdD (by omega) (.gdD (by omega) (.gdD (by omega) (.gdD (by rw [n1];omega) (.gdD (by rw [hnl];omega) (.gdI (by omega) ?_))))))) fun v hv => .gdI (by omega) (.pure ⟨⟨n+1,by omega,by rw [hv],by rw [hv],rfl,fun t ht => ?_⟩,by simp only [];omega⟩)
   ·show Ret _ (· = runX p (ordF p s n++stepN p (stT s n) (stK s n)))
    refine .bif (fun ho => .pure ?_) fun ho => ?_
    ·have ho:((p.getD (stT s n) default).getD (stK s n) default).Op=4:=by simpa using ho
     rw [stepN,if_pos ho,List.append_nil]
    ·have ho : ¬ ((p.getD (stT s n) default).getD (stK s n) default).Op=4:=by simpa using ho
     have hokn:=step_ok hp g1 g3 (base p (stT s n) (stK s n):Int) (by rw [stepN,if_neg ho];simp)
     obtain ⟨e1,e2⟩:=num_ev g1 g3 ho
     rw [stepN,if_neg ho,runX_snoc,num,if_neg ho]
     refine .gdD ⟨hx.1,by rw [hin.o];have := hx.2.1;omega⟩ ?_
     have key:=exec_step hin (by omega) hokn (loc:=((p.getD (stT s n) default).getD (stK s n) default).Loc) (rd:=rdX ((p.getD (stT s n) default).getD (stK s n) default)) (wr:=wrX ((p.getD (stT s n) default).getD (stK s n) default)) (by rw [Int.toNat_natCast,e1]) (by rw [Int.toNat_natCast,e1]) (by rw [Int.toNat_natCast,e1])
     obtain ⟨b1,r1,r2⟩:=ireads ((p.getD (stT s n) default).getD (stK s n) default)
     obtain ⟨b2,w1,w2⟩:=iwrites ((p.getD (stT s n) default).getD (stK s n) default)
     subst r2 w2
     rw [r1,w1]
     exact key
   ·simp only []
    have e:(⟨(Z3i.set a (s.getD n default) ((stK s n:Int)+1)).x0,(Z3i.set a (s.getD n default) ((stK s n:Int)+1)).x1,(Z3i.set a (s.getD n default) ((stK s n:Int)+1)).x2⟩:Z3i)=Z3i.set a (s.getD n default) ((stK s n:Int)+1):=rfl
    rw [e,get_set3i _ _ _ _ (by omega) (by omega),take_count (by omega),h5 t ht]
    by_cases e:(t:Int)=s.getD n default
    ·rw [if_pos e,if_pos e.symm]
     unfold stK
     rw [e]
     rfl
    ·rw [if_neg e,if_neg (Ne.symm e)]
     rfl
  ·simp only [] at hk
   have : n=s.length:=by omega
   subst this
   exact ⟨rfl,rfl⟩
end
end Go.Proofs.Ytlmjnhnpahicmaa
namespace Go.Proofs.Ytlmjnhnpahicmaa
open Go.RowKit
set_option maxRecDepth 100000
theorem equal_ret {a b:List Int} (h:a.length<=4000000):Ret (F_slices_Equal_int_int a b) (· = decide (a=b)):=by
 unfold F_slices_Equal_int_int
 refine .bif (fun hn => .pure ?_) fun hn => ?_
 ·rw [decide_eq_false]
  rintro rfl
  simp at hn
 ·have hl:a.length=b.length:=by
   have : (a.length:Int)=(b.length:Int):=by simpa using hn
   omega
  refine Ret.sum (PS:=fun _=>a=b) (PW:=(· = decide (a=b))) ((eqLoop hl (bad:=false) (fun i h1 h2 => ?_) fun i hi => ?_).mono fun v hv => ?_) fun _ e => .pure (decide_eq_true e).symm
  ·unfold F_slices_Equal_int_int_L6
   refine .bifD (fun _ => .gdD ⟨h1,h2⟩ (.gdD ⟨h1,by omega⟩ (.bif (fun hb => .pure ?_) fun hb => .gdI (by omega) (.pure ?_)))) fun h=>absurd h2 h
   ·rw [if_neg (by simpa using hb)]
   ·rw [if_pos (by simpa using hb)]
  ·unfold F_slices_Equal_int_int_L6
   rw [decide_eq_false hi]
   rfl
  ·subst hv
   by_cases e:a=b
   ·rw [if_pos e];exact e
   ·rw [if_neg e];exact (decide_eq_false e).symm
theorem equalF_ret {a b:List (List Int)} (h:a.length<=4000000) (hr:∀ i:Nat,(a.getD i default).length<=4000000):Ret (F_slices_EqualFunc_int_int_int_int__impl_ExecSame_1 a b) (· = decide (a=b)):=by
 unfold F_slices_EqualFunc_int_int_int_int__impl_ExecSame_1
 refine .bif (fun hn => .pure ?_) fun hn => ?_
 ·rw [decide_eq_false]
  rintro rfl
  simp at hn
 ·have hl:a.length=b.length:=by
   have : (a.length:Int)=(b.length:Int):=by simpa using hn
   omega
  refine Ret.sum (PS:=fun _=>a=b) (PW:=(· = decide (a=b))) ((eqLoop hl (bad:=false) (fun i h1 h2 => ?_) fun i hi => ?_).mono fun v hv => ?_) fun _ e => .pure (decide_eq_true e).symm
  ·unfold F_slices_EqualFunc_int_int_int_int__impl_ExecSame_1_L6
   refine .bifD (fun _ => .gdD ⟨h1,h2⟩ (.gdD ⟨h1,by omega⟩ ?_)) fun h=>absurd h2 h
   refine Ret.bind (P:=(· = decide (a.getD i.toNat default=b.getD i.toNat default))) (by unfold F_impl_ExecSame_1;exact (equal_ret (hr _)).bind fun v hv => .pure hv) fun v hv => ?_
   subst hv
   refine .bif (fun hb => .pure ?_) fun hb => .gdI (by omega) (.pure ?_)
   ·rw [if_neg (by intro e;rw [decide_eq_true e] at hb;cases hb)]
   ·rw [if_pos (by refine of_decide_eq_true ?_;revert hb;cases decide (a.getD i.toNat default=b.getD i.toNat default) <;> simp)]
  ·unfold F_slices_EqualFunc_int_int_int_int__impl_ExecSame_1_L6
   rw [decide_eq_false hi]
   rfl
  ·subst hv
   by_cases e:a=b
   ·rw [if_pos e];exact e
   ·rw [if_neg e];exact (decide_eq_false e).symm
def EB (e:ZEx):Prop:=e.From.length<=4000000/\e.Order.length<=4000000/\∀ i:Nat,(e.Order.getD i default).length<=4000000
def same (a b:ZEx):Bool:=decide (a.From=b.From)&&decide (a.Order=b.Order)
theorem isame_ret {a b:ZEx} (h:EB a):Ret (F_impl_ExecSame a b) (· = same a b):=by
 unfold F_impl_ExecSame same
 refine (equal_ret h.1).bind fun v hv => ?_
 subst hv
 refine Ret.bind (P:=(· = (decide (a.From=b.From)&&decide (a.Order=b.Order)))) (.bif (fun hb=>(equalF_ret h.2.1 h.2.2).bind fun v hv => .pure (by rw [hv,hb];rfl)) fun hb => .pure (by rw [hb];rfl)) fun v hv => .pure hv
theorem ssame_ret {a b:ZEx} (h:EB a):Ret (F_spec_ExecSame a b) (· = same a b):=by
 unfold F_spec_ExecSame same
 refine Ret.bind (P:=(· = !(decide (a.From.length=b.From.length)&&decide (a.Order.length=b.Order.length)))) (.bif (fun hn => .pure ?_) fun hn => .pure ?_) fun v hv => ?_
 ·have : ¬ (a.From.length:Int)=(b.From.length:Int):=by simpa using hn
  rw [decide_eq_false (p:=a.From.length=b.From.length) (by omega)]
  rfl
 ·have : (a.From.length:Int)=(b.From.length:Int):=by simpa using hn
  rw [decide_eq_true (p:=a.From.length=b.From.length) (by omega)]
  by_cases e:a.Order.length=b.Order.length
  ·rw [decide_eq_true e,e];simp
  ·rw [decide_eq_false e]
   have : ¬ (a.Order.length:Int)=(b.Order.length:Int):=by omega
   simpa using this
 ·subst hv
  refine .bif (fun hn => .pure ?_) fun hn => ?_
  ·by_cases e1:a.From=b.From
   ·by_cases e2:a.Order=b.Order
    ·rw [e1,e2] at hn;simp at hn
    ·rw [decide_eq_false e2,Bool.and_false]
   ·rw [decide_eq_false e1,Bool.false_and]
  ·have hn:(decide (a.From.length=b.From.length)&&decide (a.Order.length=b.Order.length))=true:=by
    revert hn
    cases (decide (a.From.length=b.From.length)&&decide (a.Order.length=b.Order.length)) <;> simp
   simp only [Bool.and_eq_true,decide_eq_true_eq] at hn
   obtain ⟨l1,l2⟩:=hn
   refine Ret.sum (PS:=fun _=>a.From=b.From) (PW:=(· = (decide (a.From=b.From)&&decide (a.Order=b.Order)))) ((eqLoop l1 (bad:=false) (fun i h1 h2 => ?_) fun i hi => ?_).mono fun v hv => ?_) fun _ e => ?_
   ·unfold F_spec_ExecSame_L8
    have := h.1
    refine .bifD (fun _ => .gdD ⟨h1,h2⟩ (.gdD ⟨h1,by omega⟩ (.bif (fun hb => .pure ?_) fun hb => .gdI (by omega) (.pure ?_)))) fun h=>absurd h2 h
    ·rw [if_neg (by simpa using hb)]
    ·rw [if_pos (by simpa using hb)]
   ·unfold F_spec_ExecSame_L8
    rw [decide_eq_false hi]
    rfl
   ·subst hv
    by_cases e:a.From=b.From
    ·rw [if_pos e];exact e
    ·rw [if_neg e,decide_eq_false e];rfl
   ·rw [decide_eq_true e,Bool.true_and]
    refine Ret.sum (PS:=fun _=>a.Order=b.Order) (PW:=(· = decide (a.Order=b.Order))) ((eqLoop l2 (bad:=false) (fun i h1 h2 => ?_) fun i hi => ?_).mono fun v hv => ?_) fun _ e => .pure (decide_eq_true e).symm
    ·unfold F_spec_ExecSame_L18
     have h3:=h.2.1
     have h4:=h.2.2 i.toNat
     refine .bifD (fun _ => ?_) fun h=>absurd h2 h
     by_cases er:a.Order.getD i.toNat default=b.Order.getD i.toNat default
     ·rw [if_pos er]
      refine .sumL (s:=()) (.gdD ⟨h1,h2⟩ (.gdD ⟨h1,by omega⟩ (.bif (fun hb=>by rw [er] at hb;simp at hb) fun hb => ?_))) (.gdI (by omega) (.pure rfl))
      refine (eqLoop (bad:=.inr (.inr false)) (congrArg List.length er) (fun j j1 j2 => ?_) fun j hj => ?_).mono fun v hv=>by rw [hv,if_pos er]
      ·unfold F_spec_ExecSame_L27
       have j3:=congrArg List.length er
       refine .bifD (fun _ => .gdD ⟨j1,j2⟩ (.gdD ⟨j1,by omega⟩ (.bif (fun hb => .pure ?_) fun hb => .gdI (by omega) (.pure ?_)))) fun h=>absurd j2 h
       ·rw [if_neg (by simpa using hb)]
       ·rw [if_pos (by simpa using hb)]
      ·unfold F_spec_ExecSame_L27
       rw [decide_eq_false hj]
       rfl
     ·rw [if_neg er]
      refine .sumR (.gdD ⟨h1,h2⟩ (.gdD ⟨h1,by omega⟩ (.bif (fun hb => .pure rfl) fun hb => ?_)))
      have j3:(a.Order.getD i.toNat default).length=(b.Order.getD i.toNat default).length:=by
       have : ((a.Order.getD i.toNat default).length:Int)=((b.Order.getD i.toNat default).length:Int):=by simpa using hb
       omega
      refine (eqLoop (bad:=.inr (.inr false)) j3 (fun j j1 j2 => ?_) fun j hj => ?_).mono fun v hv=>by rw [hv,if_neg er]
      ·unfold F_spec_ExecSame_L27
       refine .bifD (fun _ => .gdD ⟨j1,j2⟩ (.gdD ⟨j1,by omega⟩ (.bif (fun hb => .pure ?_) fun hb => .gdI (by omega) (.pure ?_)))) fun h=>absurd j2 h
       ·rw [if_neg (by simpa using hb)]
       ·rw [if_pos (by simpa using hb)]
      ·unfold F_spec_ExecSame_L27
       rw [decide_eq_false hj]
       rfl
    ·unfold F_spec_ExecSame_L18
     rw [decide_eq_false hi]
     rfl
    ·subst hv
     by_cases e:a.Order=b.Order
     ·rw [if_pos e];exact e
     ·rw [if_neg e];exact (decide_eq_false e).symm
def exOf (p:List (List ZIn)) (s:List Int) (b:Bool):ZEx:=bif b then ⟨(runX p (ordF p s s.length)).1,(runX p (ordF p s s.length)).2⟩ else ⟨[],[]⟩
theorem execOf_ret (p:List (List ZIn)) {s:List Int} (hsz:p.length<=1048576/\total p<=1048576) (hs:s.length<=1048576) :
  ∃ b,F_impl_ExecOf p s=some (exOf p s b,b)/\F_spec_ExecOf p s=some (exOf p s b,b)/\EB (exOf p s b)/\(b=true↔Whole p s):=by
 obtain ⟨o,b,e1,e2,hg⟩:=irun_ret p hsz hs
 have key:(b=true->F_impl_execOf p s=some (exOf p s b)/\F_spec_l13Exec p s=some (exOf p s b)) ->
   F_impl_ExecOf p s=some (exOf p s b,b)/\F_spec_ExecOf p s=some (exOf p s b,b):=by
  intro he
  constructor
  ·refine Ret.eq ?_
   unfold F_impl_ExecOf
   refine (Ret.of (P:=(· = (o,b))) e1 rfl).bind fun v hv => ?_
   subst hv
   refine .bif (fun hb => .pure ?_) fun hb => ?_
   ·have : b=false:=by simpa using hb
    subst this
    rfl
   ·have : b=true:=by simpa using hb
    subst this
    exact (Ret.of (P:=(· = exOf p s true)) (he rfl).1 rfl).bind fun v hv => .pure (by rw [hv])
  ·refine Ret.eq ?_
   unfold F_spec_ExecOf
   refine (Ret.of (P:=(· = (o,b))) e2 rfl).bind fun v hv => ?_
   subst hv
   refine .bif (fun hb => .pure ?_) fun hb => ?_
   ·have : b=false:=by simpa using hb
    subst this
    rfl
   ·have : b=true:=by simpa using hb
    subst this
    exact (Ret.of (P:=(· = exOf p s true)) (he rfl).2 rfl).bind fun v hv => .pure (by rw [hv])
 cases b with
 | false=>
  obtain ⟨k1,k2⟩:=key nofun
  refine ⟨false,k1,k2,⟨Nat.zero_le _,Nat.zero_le _,fun i => ?_⟩,hg⟩
  show (([]:List (List Int)).getD i []).length<=_
  rw [List.getD_nil]
  exact Nat.zero_le _
 | true=>
  have hw:=hg.1 rfl
  have hp:=PV.of hw.1
  have hgood:=hw.2.1
  obtain ⟨k1,k2⟩:=key fun _=>⟨(iexec_ret hp hs hgood).eq,(sexec_ret hp hs hgood).eq⟩
  refine ⟨true,k1,k2,?_,hg⟩
  have hin:=InX.run (ord_ok hp hgood (Nat.le_refl s.length))
  have hol:=ordF_len p s s.length
  have hel:=evs_len hp.vs
  refine ⟨by show (runX p (ordF p s s.length)).1.length<=_;rw [hin.f];omega,by show (runX p (ordF p s s.length)).2.length<=_;rw [hin.o];omega,fun i => ?_⟩
  show ((runX p (ordF p s s.length)).2.getD i []).length<=_
  by_cases hi:i<3
  ·have := hin.r i hi
   omega
  ·rw [List.getD_eq_getElem?_getD,List.getElem?_eq_none (by rw [hin.o];omega)]
   exact Nat.zero_le _
theorem isameTrace_ret (p:List (List ZIn)) {a b:List Int} {x y:ZEx} {c d:Bool} (x1:F_impl_ExecOf p a=some (x,c)) (y1:F_impl_ExecOf p b=some (y,d)) (x3:EB x):Ret (F_impl_SameTrace p a b) (· = (c&&d&&same x y)):=by
 unfold F_impl_SameTrace
 refine (Ret.of (P:=(· = (x,c))) x1 rfl).bind fun v hv=>(Ret.of (P:=(· = (y,d))) y1 rfl).bind fun v' hv' => ?_
 subst hv hv'
 refine Ret.bind (P:=(· = (c&&d))) (.bif (fun h => .pure (by simp only [] at h ⊢;rw [h];rfl)) fun h => .pure (by simp only [] at h;rw [h];rfl)) fun v hv => ?_
 refine Ret.bind (P:=(· = (c&&d&&same x y))) (.bif (fun h => ?_) fun h => .pure (by rw [<- hv,h];rfl)) fun v hv => .pure hv
 exact (isame_ret x3).bind fun w hw => .pure (by rw [<- hv,h,Bool.true_and];exact hw)
end Go.Proofs.Ytlmjnhnpahicmaa
