/-
 A candidate (a struct with a slice of ints and a slice of slices of ints) that may be written; contracts of laws.markIntSS, laws.markExec over it. No conditions.
-/
import Derived.Test.YtlmjnhnpahicmaaIntF
import Derived.Test.YtlmjnhnpahicmaaSt
namespace Go.Proofs.Ytlmjnhnpahicmaa
open Go.ChangeShapes Go.WideShapes Go.ChangeAt Go.RowKit
set_option maxRecDepth 100000
structure FrS (S:Nat->Prop) (w w':World):Prop where
 os:w'.os=w.os
 tape:w'.tape=w.tape
 output:w'.output=w.output
 size:w.heap.size<=w'.heap.size
 block:∀ k,k<w.heap.size -> ¬ S k->w'.heap[k]? = w.heap[k]?
section
variable {a b c:World} {S T:Nat->Prop} {lo hi:Nat}
theorem FrS.refl (S:Nat->Prop) (w:World):FrS S w w:=⟨rfl,rfl,rfl,Nat.le_refl _,fun _ _ _=>rfl⟩
theorem FrS.trans (h:FrS S a b) (k:FrS S b c):FrS S a c:=⟨k.os.trans h.os,k.tape.trans h.tape,k.output.trans h.output,Nat.le_trans h.size k.size,fun i hi hn=>(k.block i (Nat.lt_of_lt_of_le hi h.size) hn).trans (h.block i hi hn)⟩
theorem FrS.mono (h:FrS S a b) (hs:∀ k,S k->T k):FrS T a b:=⟨h.os,h.tape,h.output,h.size,fun k hk hn=>h.block k hk fun hS=>hn (hs k hS)⟩
theorem Fr.toS (h:Fr lo hi a b):FrS (fun k=>lo<=k/\k<hi) a b:=⟨h.os,h.tape,h.output,h.size,fun k hk hn=>h.block k hk (by omega)⟩
theorem FrS.toFr (h:FrS S a b) (hs:∀ k,S k->lo<=k/\k<hi):Fr lo hi a b:=⟨h.os,h.tape,h.output,h.size,fun k hk hn=>h.block k hk fun hS=>by have := hs k hS;omega⟩
theorem OwF.keepS {v:Value} {xs:List Int} (x:OwF a lo hi v xs) (h:FrS S a b) (hs:∀ k,lo<=k->k<hi -> ¬ S k):OwF b lo hi v xs:=x.keep fun k hk h1 h2=>h.block k hk (hs k h1 h2)
theorem FrS.cell (h:FrS S a b) {p:Addr} (hp:p.block<a.heap.size) (hn : ¬ S p.block):b.cell? p=a.cell? p:=World.cell?_of_block (w:=a) (h.block p.block hp hn)
end
def OwSS (w:World) (gO:Nat) (gs:Nat->Nat) (us:Nat->Value) (v:Value) (rows:List (List Int)):Prop:=
 ∃ A c o,v = .slice A rows.length c/\rows.length<=c/\c<=9223372036854775807/\(0<rows.length->A=some ⟨gO,o,none⟩/\gO<w.heap.size) /\
  (∀ i,i<rows.length->w.cell? ⟨gO,o+i,none⟩=some (us i)/\OwF w (gs i) (gs i+1) (us i) (rows.getD i [])/\gs i≠gO/\gs i<w.heap.size) /\
  ∀ i j,i<rows.length->j<rows.length->i≠j->gs i≠gs j
def markedSS (k:Int) (rows:List (List Int)):List (List Int):=(List.range rows.length).map fun i=>markedI (k+(total (rows.take i):Int)) (rows.getD i []).length
theorem markedSS_len (k:Int) (rows:List (List Int)):(markedSS k rows).length=rows.length:=by simp [markedSS]
theorem markedSS_get (k:Int) (rows:List (List Int)) {i:Nat} (h:i<rows.length):(markedSS k rows).getD i []=markedI (k+(total (rows.take i):Int)) (rows.getD i []).length:=by
 rw [List.getD_eq_getElem?_getD]
 simp [markedSS,h]
set_option maxHeartbeats 1000000 in
theorem markIntSS_any {gO:Nat} {gs:Nat->Nat} {us:Nat->Value} {v:Value} {rows:List (List Int)} {k:Int} {w:World} (hu:OwSS w gO gs us v rows) (hk0:0<=k) (hk1:k+total rows<=1000000000) (hrl:rows.length<=1000000000) :
  Calls Try.prog 55 #[v,.int .i64 k] w fun e w'=>e = .returned (.int .i64 (k+total rows))/\OwSS w' gO gs us v (markedSS k rows)/\FrS (fun b=>∃ i,i<rows.length/\b=gs i) w w':=by
 obtain ⟨A,c,o,rfl,hc,hm,hA,hR,hD⟩:=hu
 by_cases hn:0<rows.length
 ·obtain ⟨rfl,hlt0⟩:=hA hn
  clear hA
  have HR:=Lib.hid hR;clear hR
  have HD:=Lib.hid hD;clear hD
  go_enter Try.func55,Try.ntmps55
  go_wp2_with fail
  go_loopw [5,1] (fun i m wr=>∃ (j:Nat),j<=rows.length/\i = .int .i64 j/\m = .int .i64 (k+(total (rows.take j):Int))/\(∀ i,i<rows.length->OwF wr (gs i) (gs i+1) (us i) (if i<j then markedI (k+(total (rows.take i):Int)) (rows.getD i []).length else rows.getD i []))/\FrS (fun b=>∃ i,i<rows.length/\b=gs i) w wr) (fun i _ _=>rows.length-(intOf i).toNat)
  case atStart=>exact ⟨0,Nat.zero_le _,rfl,by simp [total],fun i hi=>by rw [if_neg (by omega)];exact (HR.out i hi).2.1,FrS.refl _ _⟩
  case round=>
   obtain ⟨j,hj,rfl,rfl,hrw,hfr⟩:=hrel
   have HRW:=Lib.hid hrw;clear hrw
   have HF:=Lib.hid hfr;clear hfr
   by_cases hlt:j<rows.length
   ·have e0:=(HF.out.cell (p:=⟨gO,o+j,none⟩) hlt0 (fun ⟨i,hi,hb⟩=>(HR.out i hi).2.2.1 hb.symm)).trans (HR.out j hlt).1
    have hrj:=HRW.out j hlt
    rw [if_neg (Nat.lt_irrefl j)] at hrj
    have HRJ:=Lib.hid hrj;clear hrj
    have hT:total (rows.take (j+1))=total (rows.take j)+(rows.getD j []).length:=by
     rw [total_take_succ rows j hlt]
     have : rows.getD j []=rows[j]:=by simp [hlt]
     rw [this]
    have hT1:total (rows.take j)+(rows.getD j []).length<=total rows:=by
     rw [<- hT]
     exact total_take_le rows (j+1)
    have hT2:k+(total (rows.take j):Int)+((rows.getD j []).length:Int)<=1000000000:=by omega
    have HT:=Lib.hid hT;clear hT
    have HT2:=Lib.hid hT2;clear hT2
    have HE9:=Lib.hid (show (rows.getD j []).length=rows[j].length by simp [hlt])
    have i1:(0:Int)<=(j:Int):=by omega
    have i2:(j:Int)<(rows.length:Int):=by omega
    go_wp2_with fail
    refine (markIntF_any HRJ.out (by omega) HT2.out).mono ?_
    rintro e w1 ⟨rfl,ho1,hq1⟩
    have HO:=Lib.hid ho1;clear ho1
    have HQ:=Lib.hid hq1.toS;clear hq1
    go_wp2_with fail
    go_roundw
    case rel=>
     refine ⟨j+1,by omega,by go_num,?_,fun i hi => ?_,HF.out.trans (HQ.out.mono fun b hb=>⟨j,hlt,by omega⟩)⟩
     ·have h2:=HT.out
      have h3:=HE9.out
      exact congrArg (Value.int .i64) (by omega)
     ·by_cases e:i=j
      ·subst e
       rw [if_pos (by omega)]
       exact HO.out
      ·have h1:=(HRW.out i hi).keepS HQ.out fun b b1 b2=>by
        have := HD.out i j hi hlt e
        omega
       by_cases e2:i<j
       ·rw [if_pos e2] at h1
        rw [if_pos (by omega)]
        exact h1
       ·rw [if_neg e2] at h1
        rw [if_neg (by omega)]
        exact h1
    case measure=>simp [intOf];omega
   ·have hjx:j=rows.length:=by omega
    go_wp2_with fail
    go_ret
    refine ⟨ret_int (by rw [hjx,List.take_length]),⟨_,c,o,by rw [markedSS_len],by rw [markedSS_len];exact hc,hm,fun _=>⟨rfl,Nat.lt_of_lt_of_le hlt0 HF.out.size⟩,fun i hi => ?_,fun i i' hi hi' => ?_⟩,HF.out⟩
    ·rw [markedSS_len] at hi
     obtain ⟨r1,r2,r3,r4⟩:=HR.out i hi
     refine ⟨(HF.out.cell (p:=⟨gO,o+i,none⟩) hlt0 (fun ⟨q,hq,hb⟩=>(HR.out q hq).2.2.1 hb.symm)).trans r1,?_,r3,Nat.lt_of_lt_of_le r4 HF.out.size⟩
     have := HRW.out i hi
     rw [if_pos (by omega)] at this
     rw [markedSS_get k rows hi]
     exact this
    ·rw [markedSS_len] at hi hi'
     exact HD.out i i' hi hi'
 ·have h0:rows=[]:=List.eq_nil_of_length_eq_zero (by omega)
  subst h0
  go_enter Try.func55,Try.ntmps55
  go_wp2_with fail
  refine wp_loop_rounds 1 ?_
  rw [rounds_succ]
  go_wp2_with fail
  go_ret
  exact ⟨ret_int (by simp [total]),⟨_,c,o,rfl,Nat.zero_le _,hm,fun h=>absurd h (by simp [markedSS]),fun i hi=>absurd hi (by simp [markedSS]),fun i j hi=>absurd hi (by simp [markedSS])⟩,FrS.refl _ _⟩
def OwX (w:World) (lo hi:Nat) (v:Value) (e:ZEx):Prop:=
 ∃ v1 v2 a b gO gs us,v = .agg #[v1,v2]/\OwF w a b v1 e.From/\OwSS w gO gs us v2 e.Order/\(lo<=a/\b<=hi/\b<=w.heap.size)/\(0<e.Order.length->lo<=gO/\gO<hi /\ ¬ (a<=gO/\gO<b))/\∀ i,i<e.Order.length->(lo<=gs i/\gs i<hi) /\ ¬ (a<=gs i/\gs i<b)
theorem OwSS.keep {w w':World} {gO:Nat} {gs:Nat->Nat} {us:Nat->Value} {v:Value} {rows:List (List Int)} (h:OwSS w gO gs us v rows) (hs:w.heap.size<=w'.heap.size) (hk:∀ b,b<w.heap.size->((0<rows.length/\b=gO)\/∃ i,i<rows.length/\b=gs i)->w'.heap[b]? = w.heap[b]?):OwSS w' gO gs us v rows:=by
 obtain ⟨A,c,o,e,hc,hm,hA,hR,hD⟩:=h
 refine ⟨A,c,o,e,hc,hm,fun hn=>⟨(hA hn).1,Nat.lt_of_lt_of_le (hA hn).2 hs⟩,fun i hi => ?_,hD⟩
 obtain ⟨r1,r2,r3,r4⟩:=hR i hi
 refine ⟨?_,r2.keep fun b hb h1 h2=>hk b hb (.inr ⟨i,hi,by omega⟩),r3,Nat.lt_of_lt_of_le r4 hs⟩
 exact (World.cell?_of_block (w:=w) (a:=⟨gO,o+i,none⟩) (hk gO (hA (by omega)).2 (.inl ⟨by omega,rfl⟩))).trans r1
section
variable {w w':World} {lo hi l h B:Nat} {v:Value} {e:ZEx}
theorem OwX.keep (x:OwX w lo hi v e) (hs:w.heap.size<=w'.heap.size) (hk:∀ b,b<w.heap.size->lo<=b->b<hi->w'.heap[b]? = w.heap[b]?):OwX w' lo hi v e:=by
 obtain ⟨v1,v2,a,b,gO,gs,us,e1,h1,h2,h3,h4,h5⟩:=x
 refine ⟨v1,v2,a,b,gO,gs,us,e1,h1.keep fun k hk' b1 b2=>hk k hk' (by omega) (by omega),h2.keep hs fun k hb hS => ?_,⟨h3.1,h3.2.1,Nat.le_trans h3.2.2 hs⟩,h4,h5⟩
 rcases hS with ⟨h0,rfl⟩ | ⟨i,hi',rfl⟩
 ·exact hk _ hb (h4 h0).1 (h4 h0).2.1
 ·exact hk _ hb (h5 i hi').1.1 (h5 i hi').1.2
theorem OwX.below (x:OwX w lo hi v e) (b:Below B w w') (hB:hi<=B):OwX w' lo hi v e:=x.keep b.size fun k _ _ h2=>b.block k (by omega)
theorem OwX.fr (x:OwX w lo hi v e) (b:Fr l h w w') (hB:hi<=l\/h<=lo):OwX w' lo hi v e:=x.keep b.size fun k hk h1 h2=>b.block k hk (by omega)
theorem OwX.nil (w:World) (lo hi:Nat) (h:lo<=hi) (hw:lo<=w.heap.size):OwX w lo hi (.agg #[.slice none 0 0,.slice none 0 0]) ⟨[],[]⟩:=
 ⟨_,_,lo,lo,0,fun _=>0,fun _ => .bool false,rfl,⟨none,0,rfl,Nat.le_refl _,by omega,fun h=>absurd h (by simp)⟩,⟨none,0,0,rfl,Nat.le_refl _,by omega,fun h=>absurd h (by simp),fun i hi=>absurd hi (by simp),fun i j hi=>absurd hi (by simp)⟩,⟨Nat.le_refl _,h,hw⟩,fun h=>absurd h (by simp),fun i hi=>absurd hi (by simp)⟩
end
def markedX (k:Int) (e:ZEx):ZEx:=⟨markedI k e.From.length,markedSS (k+(e.From.length:Int)) e.Order⟩
set_option maxHeartbeats 1000000 in
theorem markExec_any {lo hi:Nat} {v:Value} {e:ZEx} {k:Int} {w:World} (hu:OwX w lo hi v e) (hk0:0<=k) (hk1:k+e.From.length+total e.Order<=1000000000) (hrl:e.Order.length<=1000000000) :
  Calls Try.prog 28 #[v,.int .i64 k] w fun x w'=>x = .returned (.int .i64 (k+e.From.length+total e.Order))/\OwX w' lo hi v (markedX k e)/\Fr lo hi w w':=by
 obtain ⟨v1,v2,a,b,gO,gs,us,rfl,h1,h2,h3,h4,h5⟩:=hu
 have hv1:∃ A n c,v1 = .slice A n c:=by obtain ⟨A,c,e1,_⟩:=h1;exact ⟨A,_,c,e1⟩
 have hv2:∃ A n c,v2 = .slice A n c:=by obtain ⟨A,c,o,e1,_⟩:=h2;exact ⟨A,_,c,e1⟩
 obtain ⟨A1,n1,c1,rfl⟩:=hv1
 obtain ⟨A2,n2,c2,rfl⟩:=hv2
 have H1:=Lib.hid h1;clear h1
 have H2:=Lib.hid h2;clear h2
 have H4:=Lib.hid h4;clear h4
 have H5:=Lib.hid h5;clear h5
 go_enter Try.func28,Try.ntmps28
 go_wp2_with fail
 have HA1:=Lib.hid (fun ob:Obj=>show OwF (w.alloc ob) a b _ e.From from H1.out.keep fun q hq _ _=>Below.heap_alloc w ob q hq)
 have HA2:=Lib.hid (fun ob:Obj=>show OwSS (w.alloc ob) gO gs us _ e.Order from H2.out.keep (by simp) fun q hq _=>Below.heap_alloc w ob q hq)
 refine (markIntF_any (HA1.out _) (by omega) (by omega)).mono ?_
 rintro x w1 ⟨rfl,ho1,hq1⟩
 have HO:=Lib.hid ho1;clear ho1
 have HQ:=Lib.hid hq1;clear hq1
 have K2:=Lib.hid ((HA2.out _).keep HQ.out.size fun q hq hS=>HQ.out.block q hq (by
  rcases hS with ⟨h0,rfl⟩ | ⟨i,hi',rfl⟩
  ·have := (H4.out h0).2.2
   omega
  ·have := (H5.out i hi').2
   omega))
 have HC:=Lib.hid (fun (cs:Array Value) (t:TypeId)=>show (w.alloc (.cells cs t)).cell? ⟨w.heap.size,1,none⟩=cs[1]? from cell_of_row _ _ _ cs t _ Array.getElem?_push_size)
 have e1:=(HQ.out.cell (p:=⟨w.heap.size,1,none⟩) (by simp) (by show w.heap.size<a\/b<=w.heap.size;omega)).trans (HC.out _ _)
 simp only [List.getElem?_toArray,List.getElem?_cons_succ,List.getElem?_cons_zero] at e1
 go_wp2_with fail
 refine (markIntSS_any K2.out (by omega) (by omega) (by omega)).mono ?_
 rintro x w2 ⟨rfl,ho2,hq2⟩
 have HO2:=Lib.hid ho2;clear ho2
 have HQ2:=Lib.hid hq2;clear hq2
 go_wp2_with fail
 go_ret
 refine ⟨rfl,⟨_,_,a,b,gO,gs,us,rfl,HO.out.keepS HQ2.out fun q b1 b2 ⟨i,hi',hb⟩=>(H5.out i hi').2 (by omega),HO2.out,⟨h3.1,h3.2.1,Nat.le_trans h3.2.2 (Nat.le_trans (by simp) (Nat.le_trans HQ.out.size HQ2.out.size))⟩,fun h0=>H4.out (by simpa [markedX,markedSS_len] using h0),fun i hi'=>H5.out i (by simpa [markedX,markedSS_len] using hi')⟩,?_⟩
 exact (((Fr.refl lo hi w).alloc _).trans (HQ.out.mono h3.1 h3.2.1)).trans (HQ2.out.toFr fun q ⟨i,hi',hb⟩=>hb ▸ (H5.out i hi').1)
end Go.Proofs.Ytlmjnhnpahicmaa
