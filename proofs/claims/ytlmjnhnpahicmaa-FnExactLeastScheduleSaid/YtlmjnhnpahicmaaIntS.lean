/-
 Contracts of the laws' helpers at []int: toIntS, eqIntS, markIntS, heldIntS. Conditions: at most 1048576 elements; what is marked lies in a block of its own.
-/
import Derived.Test.YtlmjnhnpahicmaaMarkS
import Derived.Test.YtlmjnhnpahicmaaRow
import Derived.OpenShut
import Derived.BigRegion
namespace Go.Proofs.Ytlmjnhnpahicmaa
open Go.ChangeShapes Go.WideShapes Go.ChangeAt Go.RowKit
set_option maxRecDepth 100000
theorem Try.infoInt : (Try.prog.info? 3).map (fun i => (i.zero,i.size,i.bytes)) = some (some (.int .i64 0),1,8) := by kernel_rfl
theorem Ow.ints_mk {t : TypeId} {w : World} {lo hi g c : Nat} {cs : Array Value} {xs : List Int} (hB : Blk w g t cs) (hg : lo <= g /\ g < hi) (hcs : cs.size = c) (hx : xs.length <= c) (hc : c <= 9223372036854775807)
  (h : ∀ j (h : j < xs.length),cs[j]? = some (.int .i64 xs[j])) : Ow int1 1 t w lo hi (.slice (some ⟨g,0,none⟩) xs.length c) xs :=
 ⟨_,c,rfl,hx,hc,fun _ => ⟨g,cs,rfl,hg.1,hg.2,hB,by omega,fun k hk j u hu => by
  match j,hu with
  | 0,hu =>
   simp only [int1,List.getElem?_cons_zero,Option.some.injEq] at hu
   rw [<- hu,Nat.mul_one,Nat.add_zero]
   exact h k hk
  | n + 1,hu => simp [int1] at hu⟩⟩
theorem toIntS_any {lo hi : Nat} {u : Value} {xs : List Int} {w : World} (hu : Sl int1 1 w lo hi u xs) (hx : xs.length <= 1048576) :
  Calls Try.prog 14 #[u] w fun e w' => (∃ v,e = .returned v /\ Ow int1 1 3 w' w.heap.size w'.heap.size v xs) /\ Below w.heap.size w w' := by
 obtain ⟨A,ca,rfl,hca,hma,hA⟩ := hu.ints
 clear hma
 obtain ⟨i0,hi0,hz0,hz1,hz2⟩ := info_parts Try.infoInt
 have hmk := fun W => run_make_rowN (P:=Try.prog) 23 3 i0 _ Try.underlying23 hi0 hz0 .i64 .i64 xs.length xs.length (Nat.le_refl _) (by rw [hz2]; omega) (by omega) W
 rw [hz1] at hmk
 have HAA := Lib.hid hA; clear hA
 go_enter Try.func14,Try.ntmps14
 go_wp2_with fail
 clear hmk
 go_loopw [4] (fun i wr => ∃ (k : Nat) (cs : Array Value),k <= xs.length /\ i = .int .i64 k /\ Below w.heap.size w wr /\ Blk wr w.heap.size 3 cs /\ cs.size = xs.length /\ ∀ j (h : j < xs.length),j < k -> cs[j]? = some (.int .i64 xs[j])) (fun i _ => xs.length - (intOf i).toNat)
 case atStart =>
  exact ⟨0,_,Nat.zero_le _,rfl,(Below.refl _ _).alloc (Nat.le_refl _) _,Blk.new _ _ _,by simp [size_madeCells],fun j _ h => absurd h (by omega)⟩
 case round =>
  obtain ⟨k,cs,hk,rfl,hb,hB,hcs,hin⟩ := hrel
  have HI := Lib.hid hin; clear hin
  have HB := Lib.hid hB; have HCS := Lib.hid hcs
  have hgl := hB.lt
  by_cases hlt : k < xs.length
  ·obtain ⟨ba,oa,rfl,_,_,hba,hA⟩ := HAA.out (by omega)
   have ca1 := (hb.cell (p:=⟨ba,oa + k,none⟩) hba).trans (hA k hlt)
   clear hA
   have i1 : (0 : Int) <= (k : Int) := by omega
   have i2 : (k : Int) < (xs.length : Int) := by omega
   have f0 := hB.frozen k
   have e0 := hB.cell k
   have hz : k < cs.size := by omega
   rw [Array.getElem?_eq_getElem hz] at e0
   clear hB hcs
   go_wp2_with fail
   go_roundw
   case rel =>
    refine ⟨k + 1,cs.setIfInBounds k (.int .i64 xs[k]),by omega,by go_num,hb.setCell (by simp) _,HB.out.set_ _ _,by simp; exact HCS.out,?_⟩
    intro j h hj
    by_cases e : j = k
    ·subst e; exact set_get_same (by rw [HCS.out]; omega)
    ·rw [set_get_ne (by omega)]; exact HI.out j h (by omega)
   case measure => simp [intOf]; omega
  ·go_wp2_with fail
   go_ret
   exact ⟨⟨_,rfl,Ow.ints_mk HB.out ⟨Nat.le_refl _,hgl⟩ HCS.out (Nat.le_refl _) (by omega) (fun j h => HI.out j h (by omega))⟩,hb⟩
theorem eqIntS_any {lo hi lo' hi' : Nat} {u v : Value} {xs ys : List Int} {w : World} (hu : Sl int1 1 w lo hi u xs) (hv : Sl int1 1 w lo' hi' v ys) :
  Calls Try.prog 18 #[u,v] w fun e w' => e = .returned (.bool (decide (xs = ys))) /\ Below w.heap.size w w' := by
 obtain ⟨A,ca,rfl,hca,hma,hA⟩ := hu.ints
 obtain ⟨B,cb,rfl,hcb,hmb,hB⟩ := hv.ints
 have HAA := Lib.hid hA; clear hA
 have HBB := Lib.hid hB; clear hB
 by_cases hl : xs.length = ys.length
 ·have hl' : ((xs.length : Int) != (ys.length : Int)) = false := by simp [hl]
  have HL := Lib.hid hl; clear hl
  go_enter Try.func18,Try.ntmps18
  go_wp2_with fail
  go_loopw [5] (fun i wr => ∃ k : Nat,k <= xs.length /\ i = .int .i64 k /\ Below w.heap.size w wr /\ xs.take k = ys.take k) (fun i _ => xs.length - (intOf i).toNat)
  case atStart => exact ⟨0,Nat.zero_le _,rfl,Below.refl _ _,rfl⟩
  case round =>
   obtain ⟨k,hk,rfl,hb,he⟩ := hrel
   have HE := Lib.hid he; clear he
   by_cases hlt : k < xs.length
   ·obtain ⟨ba,oa,rfl,_,_,hba,hA⟩ := HAA.out (by omega)
    have hlt2 : k < ys.length := HL.out ▸ hlt
    obtain ⟨bb,ob,rfl,_,_,hbb,hB⟩ := HBB.out (by omega)
    have ca1 := (hb.cell (p:=⟨ba,oa + k,none⟩) hba).trans (hA k hlt)
    have cb1 := (hb.cell (p:=⟨bb,ob + k,none⟩) hbb).trans (hB k hlt2)
    clear hA hB
    have i1 : (0 : Int) <= (k : Int) := by omega
    have i2 : (k : Int) < (xs.length : Int) := by omega
    have i3 : (k : Int) < (ys.length : Int) := by omega
    have HX := Lib.hid (fun e : xs = ys => (by subst e; rfl : xs[k] = ys[k]))
    have HT := Lib.hid (fun e : xs[k] = ys[k] => take_eq_step hlt hlt2 HE.out e)
    generalize xs[k] = x at *
    generalize ys[k] = y at *
    by_cases hxy : x = y
    ·subst hxy
     go_wp2_with fail
     go_region
     go_wp2_with fail
     go_roundw
     case rel => exact ⟨k + 1,by omega,by go_num,hb.drew,HT.out trivial⟩
     case measure => simp [intOf]; omega
    ·go_wp2_with fail
     go_region
     go_wp2_with fail
     go_ret
     exact ⟨ret_bool (by simp; intro e; exact hxy (HX.out e)),hb.drew⟩
   ·have hkx : k = xs.length := by omega
    have hfin := take_all_eq HL.out (hkx ▸ HE.out)
    have HF := Lib.hid hfin; clear hfin
    go_wp2_with fail
    go_ret
    exact ⟨ret_bool (by simp [HF.out]),hb⟩
 ·have hl' : ((xs.length : Int) != (ys.length : Int)) = true := by simp; omega
  have hne : xs ≠ ys := fun e => hl (by rw [e])
  have HNE := Lib.hid hne; clear hne hl
  go_enter Try.func18,Try.ntmps18
  go_wp2_with fail
  go_ret
  exact ⟨ret_bool (by simp [HNE.out]),Below.refl _ _⟩
def markedI (k : Int) (n : Nat) : List Int := (List.range n).map fun (i : Nat) => k + (i : Int)
theorem markedI_length (k : Int) (n : Nat) : (markedI k n).length = n := by simp [markedI]
theorem markedI_get (k : Int) (n i : Nat) (h : i < (markedI k n).length) : (markedI k n)[i] = k + i := by simp [markedI]
theorem markIntS_any {t : TypeId} {lo hi : Nat} {v : Value} {xs : List Int} {k : Int} {w : World} (hu : Ow int1 1 t w lo hi v xs) (hk0 : 0 <= k) (hk1 : k + xs.length <= 1000000000) :
  Calls Try.prog 20 #[v,.int .i64 k] w fun e w' => e = .returned (.int .i64 (k + xs.length)) /\ Ow int1 1 t w' lo hi v (markedI k xs.length) /\ Fr lo hi w w' := by
 obtain ⟨A,c,rfl,hc,hm,hA⟩ := hu
 have hml : (markedI k xs.length).length = xs.length := markedI_length _ _
 by_cases hn : 0 < xs.length
 ·obtain ⟨g,cur,rfl,hg1,hg2,hB,hsz,hcur⟩ := hA hn
  clear hA hcur
  have HB0 := Lib.hid hB; clear hB
  have HS0 := Lib.hid hsz; clear hsz
  have HML := Lib.hid hml; clear hml
  go_enter Try.func20,Try.ntmps20
  go_wp2_with fail
  go_loopw [5,1] (fun i m wr => ∃ (j : Nat) (cs : Array Value),j <= xs.length /\ i = .int .i64 j /\ m = .int .i64 (k + j) /\ Blk wr g t cs /\ cs.size = c /\ (∀ i,i < j -> cs[i]? = some (.int .i64 (k + i))) /\ Fr lo hi w wr) (fun i _ _ => xs.length - (intOf i).toNat)
  case atStart => exact ⟨0,cur,Nat.zero_le _,rfl,by simp,HB0.out,by have := HS0.out; omega,fun i h => absurd h (by omega),Fr.refl _ _ _⟩
  case round =>
   obtain ⟨j,cs,hj,rfl,rfl,hB,hcs,hin,hgr⟩ := hrel
   have HI := Lib.hid hin; clear hin
   have HB := Lib.hid hB; have HCS := Lib.hid hcs
   by_cases hlt : j < xs.length
   ·have f0 := hB.frozen j
    have e0 := hB.cell j
    have hz : j < cs.size := by omega
    rw [Array.getElem?_eq_getElem hz] at e0
    clear hB hcs
    go_wp2_with fail
    go_roundw
    case rel =>
     refine ⟨j + 1,cs.setIfInBounds j (.int .i64 (k + j)),by omega,by go_num,congrArg (Value.int .i64) (by omega),HB.out.set_ _ _,by simp; exact HCS.out,?_,hgr.setCell ⟨by omega,by omega⟩ _⟩
     intro i hi
     by_cases e : i = j
     ·subst e; exact set_get_same hz
     ·rw [set_get_ne (by omega)]; exact HI.out i (by omega)
    case measure => simp [intOf]; omega
   ·have hjx : j = xs.length := by omega
    go_wp2_with fail
    go_ret
    refine ⟨ret_int (by rw [hjx]),?_,hgr⟩
    have := Ow.ints_mk (xs:=markedI k xs.length) HB.out ⟨hg1,hg2⟩ HCS.out (by rw [HML.out]; exact hc) hm (fun i hi => by
     rw [markedI_get]
     exact HI.out i (by rw [HML.out] at hi; omega))
    rw [HML.out] at this
    exact this
 ·have hx : xs = [] := List.eq_nil_of_length_eq_zero (by omega)
  have HX := Lib.hid hx
  have hx0 : xs.length = 0 := by omega
  clear hx hA hml hn
  rw [hx0]
  go_enter Try.func20,Try.ntmps20
  go_wp2_with fail
  refine wp_loop_rounds 1 ?_
  rw [rounds_succ]
  go_wp2_with fail
  go_ret
  exact ⟨ret_int (by simp),Ow.nil_ _ _ (by omega),Fr.refl _ _ _⟩
theorem heldIntS_any {lo hi : Nat} {v : Value} {k : Int} {n : Nat} {w : World} (hu : Sl int1 1 w lo hi v (markedI k n)) (hk0 : 0 <= k) (hk1 : k + n <= 1000000000) :
  Calls Try.prog 29 #[v,.int .i64 k] w fun e w' => e = .returned (.int .i64 (k + n)) /\ Below w.heap.size w w' := by
 obtain ⟨A,c,rfl,hc,hm,hA⟩ := hu.ints
 have hml : (markedI k n).length = n := markedI_length _ _
 have hg : ∀ (j : Nat) (h : j < (markedI k n).length),(markedI k n)[j] = k + j := fun j h => markedI_get k n j h
 generalize markedI k n = xs at *
 subst hml
 have HG := Lib.hid hg; clear hg
 have HAA := Lib.hid hA; clear hA
 clear hu
 go_enter Try.func29,Try.ntmps29
 go_wp2_with fail
 go_loopw [5,1] (fun i m wr => ∃ (j : Nat),j <= xs.length /\ i = .int .i64 j /\ m = .int .i64 (k + j) /\ Below w.heap.size w wr) (fun i _ _ => xs.length - (intOf i).toNat)
 case atStart => exact ⟨0,Nat.zero_le _,rfl,by simp,Below.refl _ _⟩
 case round =>
  obtain ⟨j,hj,rfl,rfl,hb⟩ := hrel
  by_cases hlt : j < xs.length
  ·obtain ⟨ba,oa,rfl,_,_,hba,hA⟩ := HAA.out (by omega)
   have ca1 := (hb.cell (p:=⟨ba,oa + j,none⟩) hba).trans (hA j hlt)
   rw [HG.out j hlt] at ca1
   clear hA
   go_wp2_with fail
   go_roundw
   case rel => exact ⟨j + 1,by omega,by go_num,congrArg (Value.int .i64) (by omega),hb⟩
   case measure => simp [intOf]; omega
  ·go_wp2_with fail
   go_ret
   exact ⟨ret_int (by omega),hb⟩
end Go.Proofs.Ytlmjnhnpahicmaa
