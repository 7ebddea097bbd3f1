/-
 Contracts and words, several texts joined. No conditions.
-/
import Derived.Test.YtlmjnhnpahicmaaSMd
import Derived.Test.YtlmjnhnpahicmaaHo
namespace Go.Proofs.Ytlmjnhnpahicmaa
open Go.RowKit
set_option maxRecDepth 100000
def rdX (x:ZIn):Bool:=x.Op==1||x.Op==5
def wrX (x:ZIn):Bool:=x.Op==2||x.Op==3||x.Op==5
theorem ireads (x:ZIn):Ret (F_impl_Instr_reads x) (· = rdX x):=by
 unfold F_impl_Instr_reads rdX
 exact Ret.bind (P:=(· = (x.Op==1||x.Op==5))) (.bif (fun h => .pure (by rw [h];rfl)) fun h => .pure (by rw [h];rfl)) fun v hv => .pure hv
theorem iwrites (x:ZIn):Ret (F_impl_Instr_writes x) (· = wrX x):=by
 unfold F_impl_Instr_writes wrX
 exact Ret.bind (P:=(· = (x.Op==2||x.Op==3))) (.bif (fun h => .pure (by rw [h];rfl)) fun h => .pure (by rw [h];rfl)) fun v hv=>Ret.bind (P:=(· = (x.Op==2||x.Op==3||x.Op==5))) (.bif (fun h => .pure (by rw [<- hv,h];rfl)) fun h => .pure (by rw [<- hv,h];rfl)) fun v hv => .pure hv
def Vs (p:List (List ZIn)):Prop:=p.length<=3/\∀ n,(p.getD n default).length<=7
theorem Vs.of {p:List (List ZIn)} (h:validB (p.map fun r=>r.map toIns)=true):Vs p/\∀ t k:Nat,t<p.length->k<(p.getD t default).length->insOk (toIns ((p.getD t default).getD k default))=true:=by
 simp only [validB,shapeB,Bool.and_eq_true,decide_eq_true_eq,List.all_eq_true,rowOk] at h
 have hl:p.length<=3:=by simpa using h.1.1.1.1
 have hr:=h.1.1.1.2
 refine ⟨⟨hl,fun n => ?_⟩,fun t k ht hk => ?_⟩
 ·by_cases hn:n<p.length
  ·have e:p.getD n default=p[n]:=by simp [hn]
   rw [e]
   have := (hr (p[n].map toIns) (List.mem_map.2 ⟨p[n],List.getElem_mem hn,rfl⟩)).1
   simpa using this
  ·rw [List.getD_eq_getElem?_getD,List.getElem?_eq_none (by omega)]
   exact Nat.zero_le _
 ·have e:p.getD t default=p[t]:=by simp [ht]
  rw [e] at hk ⊢
  have h1:=(hr (p[t].map toIns) (List.mem_map.2 ⟨p[t],List.getElem_mem ht,rfl⟩)).2
  have e2:p[t].getD k default=p[t][k]:=by simp [hk]
  rw [e2]
  exact h1 _ (List.mem_map.2 ⟨_,List.getElem_mem hk,rfl⟩)
def InR (x:ZIn):Prop:=0<=x.Loc/\x.Loc<=2/\0<=x.Reg/\x.Reg<=2/\0<=x.Val/\x.Val<=3
theorem insOk_fld {x:ZIn} (h:insOk (toIns x)=true):InR x:=by
 obtain ⟨o,l,r,v⟩:=x
 unfold InR
 simp only
 unfold insOk toIns at h
 simp only [inB] at h
 split at h
 ·simp only [Bool.and_eq_true,decide_eq_true_eq,beq_iff_eq] at h;omega
 ·split at h
  ·simp only [Bool.and_eq_true,decide_eq_true_eq,beq_iff_eq] at h;omega
  ·split at h
   ·simp only [Bool.and_eq_true,decide_eq_true_eq,beq_iff_eq] at h;omega
   ·split at h
    ·simp only [Bool.and_eq_true,decide_eq_true_eq] at h;omega
    ·cases h
structure PV (p:List (List ZIn)):Prop where
 vs:Vs p
 pos:0<p.length
 ins:∀ t k:Nat,t<p.length->k<(p.getD t default).length->InR ((p.getD t default).getD k default)
theorem PV.of {p:List (List ZIn)} (h:validB (p.map fun r=>r.map toIns)=true):PV p:=by
 have h1:=Vs.of h
 refine ⟨h1.1,?_,fun t k ht hk=>insOk_fld (h1.2 t k ht hk)⟩
 simp only [validB,Bool.and_eq_true,decide_eq_true_eq,List.length_map] at h
 exact h.1.2
theorem capOK_le {n m:Nat} (hn:n<=4000000) (hm:Nat.ble m 1000=true):capOK n m=true:=by
 have h1:=Nat.le_of_ble_eq_true hm
 have h2:n*m<=4000000*1000:=Nat.mul_le_mul hn h1
 exact decide_eq_true ⟨by omega,by omega⟩
theorem get_set3 (a:Z3b) (q i v:Int) (hq:0<=q/\q<=2) (hi:0<=i/\i<=2):Z3b.get (Z3b.set a q v) i=if i=q then v else Z3b.get a i:=by
 obtain ⟨x,y,z⟩:=a
 have h1:q=0\/q=1\/q=2:=by omega
 have h2:i=0\/i=1\/i=2:=by omega
 rcases h1 with rfl | rfl | rfl <;> rcases h2 with rfl | rfl | rfl <;> rfl
theorem get_set33 (a:Z33) (q i:Int) (v:Z3b) (hq:0<=q/\q<=2) (hi:0<=i/\i<=2):Z33.get (Z33.set a q v) i=if i=q then v else Z33.get a i:=by
 obtain ⟨x,y,z⟩:=a
 have h1:q=0\/q=1\/q=2:=by omega
 have h2:i=0\/i=1\/i=2:=by omega
 rcases h1 with rfl | rfl | rfl <;> rcases h2 with rfl | rfl | rfl <;> rfl
theorem Ret.sumR {S W:Type} {a:Option (S ⊕ W)} {f:S->Option W} {w:W} (h:Ret a (· = .inr w)):Ret (sumK a f) (· = w):=by
 obtain ⟨v,rfl,rfl⟩:=h
 exact ⟨w,rfl,rfl⟩
def valI (u:ZVa) (t:Int) (x:ZIn):Int:=if x.Op=3 then Z3b.get (Z33.get u.reg t) x.Reg else x.Val
def aftI (u:ZVa) (t:Int) (x:ZIn):ZVa:=
 ⟨u.p,Z3b.set u.pc t (Z3b.get u.pc t+1),if rdX x=true then Z33.set u.reg t (Z3b.set (Z33.get u.reg t) x.Reg (Z3b.get u.mem x.Loc)) else u.reg,if wrX x=true then Z3b.set u.mem x.Loc (valI u t x) else u.mem⟩
end Go.Proofs.Ytlmjnhnpahicmaa
