/-
 Contracts of the laws' helpers at []int: toIntS, eqIntS, markIntS, heldIntS. Conditions: at most 1048576 elements; what is marked lies in a block of its own.
-/
import Derived.Test.YtlmjnhnpahicmaaMarkS
import Derived.Test.YtlmjnhnpahicmaaRow
import Derived.OpenShut
import Derived.BigRegion
namespace Go.Proofs.Ytlmjnhnpahicmaa
open Go.ChangeShapes Go.WideShapes Go.ChangeAt Go.RowKit
set_option maxRecDepth 100000
theorem Try.infoInt:(Try.prog.info? 3).map (fun i=>(i.zero,i.size,i.bytes))=some (some (.int .i64 0),1,8):=by kernel_rfl
theorem Ow.ints_mk {t:TypeId} {w:World} {lo hi g c:Nat} {cs:Array Value} {xs:List Int} (hB:Blk w g t cs) (hg:lo<=g/\g<hi) (hcs:cs.size=c) (hx:xs.length<=c) (hc:c<=9223372036854775807)
  (h:∀ j (h:j<xs.length),cs[j]? = some (.int .i64 xs[j])):Ow int1 1 t w lo hi (.slice (some ⟨g,0,none⟩) xs.length c) xs:=
 ⟨_,c,rfl,hx,hc,fun _=>⟨g,cs,rfl,hg.1,hg.2,hB,by omega,fun k hk j u hu=>by
  match j,hu with
  | 0,hu=>
   simp only [int1,List.getElem?_cons_zero,Option.some.injEq] at hu
   rw [<- hu,Nat.mul_one,Nat.add_zero]
   exact h k hk
  | n+1,hu=>simp [int1] at hu⟩⟩
theorem eqIntS_any {lo hi lo' hi':Nat} {u v:Value} {xs ys:List Int} {w:World} (hu:Sl int1 1 w lo hi u xs) (hv:Sl int1 1 w lo' hi' v ys) :
  Calls Try.prog 18 #[u,v] w fun e w'=>e = .returned (.bool (decide (xs=ys)))/\Below w.heap.size w w':=by
 obtain ⟨A,ca,rfl,hca,hma,hA⟩:=hu.ints
 obtain ⟨B,cb,rfl,hcb,hmb,hB⟩:=hv.ints
 have HAA:=Lib.hid hA;clear hA
 have HBB:=Lib.hid hB;clear hB
 by_cases hl:xs.length=ys.length
 ·have hl':((xs.length:Int) != (ys.length:Int))=false:=by simp [hl]
  have HL:=Lib.hid hl;clear hl
  go_enter Try.func18,Try.ntmps18
  go_wp2_with fail
  go_loopw [5] (fun i wr=>∃ k:Nat,k<=xs.length/\i = .int .i64 k/\Below w.heap.size w wr/\xs.take k=ys.take k) (fun i _=>xs.length-(intOf i).toNat)
  case atStart=>exact ⟨0,Nat.zero_le _,rfl,Below.refl _ _,rfl⟩
  case round=>
   obtain ⟨k,hk,rfl,hb,he⟩:=hrel
   have HE:=Lib.hid he;clear he
   by_cases hlt:k<xs.length
   ·obtain ⟨ba,oa,rfl,_,_,hba,hA⟩:=HAA.out (by omega)
    have hlt2:k<ys.length:=HL.out ▸ hlt
    obtain ⟨bb,ob,rfl,_,_,hbb,hB⟩:=HBB.out (by omega)
    have ca1:=(hb.cell (p:=⟨ba,oa+k,none⟩) hba).trans (hA k hlt)
    have cb1:=(hb.cell (p:=⟨bb,ob+k,none⟩) hbb).trans (hB k hlt2)
    clear hA hB
    have i1:(0:Int)<=(k:Int):=by omega
    have i2:(k:Int)<(xs.length:Int):=by omega
    have i3:(k:Int)<(ys.length:Int):=by omega
    have HX:=Lib.hid (fun e:xs=ys=>(by subst e;rfl:xs[k]=ys[k]))
    have HT:=Lib.hid (fun e:xs[k]=ys[k]=>take_eq_step hlt hlt2 HE.out e)
    generalize xs[k]=x at *
    generalize ys[k]=y at *
    by_cases hxy:x=y
    ·subst hxy
     go_wp2_with fail
     go_region
     go_wp2_with fail
     go_roundw
     case rel=>exact ⟨k+1,by omega,by go_num,hb.drew,HT.out trivial⟩
     case measure=>simp [intOf];omega
    ·go_wp2_with fail
     go_region
     go_wp2_with fail
     go_ret
     exact ⟨ret_bool (by simp;intro e;exact hxy (HX.out e)),hb.drew⟩
   ·have hkx:k=xs.length:=by omega
    have hfin:=take_all_eq HL.out (hkx ▸ HE.out)
    have HF:=Lib.hid hfin;clear hfin
    go_wp2_with fail
    go_ret
    exact ⟨ret_bool (by simp [HF.out]),hb⟩
 ·have hl':((xs.length:Int) != (ys.length:Int))=true:=by simp;omega
  have hne:xs≠ys:=fun e=>hl (by rw [e])
  have HNE:=Lib.hid hne;clear hne hl
  go_enter Try.func18,Try.ntmps18
  go_wp2_with fail
  go_ret
  exact ⟨ret_bool (by simp [HNE.out]),Below.refl _ _⟩
def markedI (k:Int) (n:Nat):List Int:=(List.range n).map fun (i:Nat)=>k+(i:Int)
theorem markedI_length (k:Int) (n:Nat):(markedI k n).length=n:=by simp [markedI]
theorem markedI_get (k:Int) (n i:Nat) (h:i<(markedI k n).length):(markedI k n)[i]=k+i:=by simp [markedI]
theorem heldIntS_any {lo hi:Nat} {v:Value} {k:Int} {n:Nat} {w:World} (hu:Sl int1 1 w lo hi v (markedI k n)) (hk0:0<=k) (hk1:k+n<=1000000000) :
  Calls Try.prog 29 #[v,.int .i64 k] w fun e w'=>e = .returned (.int .i64 (k+n))/\Below w.heap.size w w':=by
 obtain ⟨A,c,rfl,hc,hm,hA⟩:=hu.ints
 have hml:(markedI k n).length=n:=markedI_length _ _
 have hg:∀ (j:Nat) (h:j<(markedI k n).length),(markedI k n)[j]=k+j:=fun j h=>markedI_get k n j h
 generalize markedI k n=xs at *
 subst hml
 have HG:=Lib.hid hg;clear hg
 have HAA:=Lib.hid hA;clear hA
 clear hu
 go_enter Try.func29,Try.ntmps29
 go_wp2_with fail
 go_loopw [5,1] (fun i m wr=>∃ (j:Nat),j<=xs.length/\i = .int .i64 j/\m = .int .i64 (k+j)/\Below w.heap.size w wr) (fun i _ _=>xs.length-(intOf i).toNat)
 case atStart=>exact ⟨0,Nat.zero_le _,rfl,by simp,Below.refl _ _⟩
 case round=>
  obtain ⟨j,hj,rfl,rfl,hb⟩:=hrel
  by_cases hlt:j<xs.length
  ·obtain ⟨ba,oa,rfl,_,_,hba,hA⟩:=HAA.out (by omega)
   have ca1:=(hb.cell (p:=⟨ba,oa+j,none⟩) hba).trans (hA j hlt)
   rw [HG.out j hlt] at ca1
   clear hA
   go_wp2_with fail
   go_roundw
   case rel=>exact ⟨j+1,by omega,by go_num,congrArg (Value.int .i64) (by omega),hb⟩
   case measure=>simp [intOf];omega
  ·go_wp2_with fail
   go_ret
   exact ⟨ret_int (by omega),hb⟩
end Go.Proofs.Ytlmjnhnpahicmaa
