/-
 The drawn numbers of the laws: a reader's pick lies below its bound. Plain theorems. No conditions.
-/
import Derived.Test.YtlgfihlflchhgaaSQd
namespace Go.Proofs.Ytlgfihlflchhgaa
open Go.RowKit
set_option maxRecDepth 100000
section
variable {α:Type} {r:Option α}
theorem gdI_eq {n:Int} {x:Option α} (h : -9223372036854775808<=n/\n<=9223372036854775807) (hx:x=r):gd (inK .i64 n) x=r:=by rw [gd_true (inI_of h)];exact hx
theorem gdD_eq {A:Prop} [Decidable A] {x:Option α} (h:A) (hx:x=r):gd (decide A) x=r:=by rw [gd_true (decide_eq_true h)];exact hx
theorem bif_t {b:Bool} {x y:Option α} (h:b=true) (hx:x=r):(bif b then x else y)=r:=by rw [h];exact hx
theorem bif_f {b:Bool} {x y:Option α} (h:b=false) (hx:y=r):(bif b then x else y)=r:=by rw [h];exact hx
theorem bind_eq {β:Type} {o:Option β} {k:β->Option α} {v:β} (h:o=some v) (hx:k v=r):o.bind k=r:=by rw [h];exact hx
end
def Bts (b:List Int):Prop:=b.length<=1048576/\∀ y∈b,0<=y/\y<=255
theorem Bts.get {b:List Int} (h:Bts b) (k:Nat):0<=b.getD k default/\b.getD k default<=255:=by
 rw [List.getD_eq_getElem?_getD]
 by_cases hk:k<b.length
 ·rw [List.getElem?_eq_getElem hk]
  exact h.2 _ (List.getElem_mem _)
 ·rw [List.getElem?_eq_none (by omega)]
  exact ⟨by decide,by decide⟩
theorem bXor_pos {m n:Int} (hm:0<=m/\m<=1000000000000) (hn:0<=n/\n<=1000000000000):0<=bXor .i64 m n:=by
 have e1:∀ x:Int,0<=x->x<=1000000000000->(BitVec.ofInt 64 x).toNat<2 ^ 62:=by
  intro x h1 h2
  rw [BitVec.toNat_ofInt]
  have : x % ((2:Nat) ^ 64:Nat)=x:=by
   rw [Int.emod_eq_of_lt h1]
   omega
  omega
 have h3:(BitVec.ofInt 64 m ^^^ BitVec.ofInt 64 n).toNat<2 ^ 62:=by
  rw [BitVec.toNat_xor]
  exact Nat.xor_lt_two_pow (e1 m hm.1 hm.2) (e1 n hn.1 hn.2)
 have h4:=IntWalk.i64_in (((BitVec.ofInt 64 m ^^^ BitVec.ofInt 64 n).toNat:Nat):Int) ⟨by omega,by omega⟩
 unfold bXor
 rw [show IntKind.i64.bits=64 from rfl,h4]
 omega
theorem tmodB {a n:Int} (ha:0<=a) (hn:0<n):0<=a.tmod n/\a.tmod n<n:=by
 rw [Int.tmod_eq_emod_of_nonneg ha]
 exact ⟨Int.emod_nonneg _ (by omega),Int.emod_lt_of_pos _ hn⟩
theorem tdivB {a n:Int} (ha:0<=a) (hn:0<=n):0<=a.tdiv n/\a.tdiv n<=a:=by
 rw [Int.tdiv_eq_ediv_of_nonneg ha]
 exact ⟨Int.ediv_nonneg ha hn,Int.ediv_le_self _ ha⟩
theorem pick_ok {b:List Int} {p:Int} (hb:Bts b) (hp:0<=p/\p<=100000000) (n:Int):∃ v,F_spec_l17Rd_pick ⟨b,p⟩ n=some (⟨b,p+1⟩,v)/\0<=v/\(v<n\/v=0):=by
 have hl:=hb.1
 have e1:p+1-1=p:=by omega
 unfold F_spec_l17Rd_pick
 simp only [e1]
 by_cases h0:n<1\/b.length=0
 ·refine ⟨0,?_,Int.le_refl _,.inr rfl⟩
  refine gdI_eq (by omega) ?_
  refine bind_eq (v:=true) ?_ (bif_t rfl rfl)
  by_cases hn:n<1
  ·exact bif_t (by simp [hn]) rfl
  ·refine bif_f (by simp [hn]) ?_
   have : b.length=0:=by omega
   simp [this]
 ·have hn:1<=n:=by omega
  have hl0:0<(b.length:Int):=by omega
  by_cases hlt:p<(b.length:Int)
  ·have hg:=hb.get p.toNat
   have hv:=tmodB hg.1 (show (0:Int)<n by omega)
   refine ⟨(b.getD p.toNat default).tmod n,?_,hv.1,.inl hv.2⟩
   refine gdI_eq (by omega) ?_
   refine bind_eq (v:=false) (bif_f (by simp;omega) (congrArg some (beq_eq_false_iff_ne.2 (by omega)))) (bif_f rfl ?_)
   refine gdI_eq (by omega) (bif_t (by simpa using hlt) ?_)
   exact gdD_eq (by omega) (gdI_eq (by omega) (gdD_eq (by omega) rfl))
  ·have h1:=tmodB hp.1 hl0
   have h2:=tdivB hp.1 (show 0<=(b.length:Int) by omega)
   have h3:=tmodB (a:=p*7+3) (by omega) hl0
   have h4:=hb.get (p.tmod (b.length:Int)).toNat
   have h5:=hb.get ((p*7+3).tmod (b.length:Int)).toNat
   have hx:0<=(b.getD (p.tmod (b.length:Int)).toNat default)*131+(b.getD ((p*7+3).tmod (b.length:Int)).toNat default)*1117+p*29+p.tdiv (b.length:Int)*53 /\
    (b.getD (p.tmod (b.length:Int)).toNat default)*131+(b.getD ((p*7+3).tmod (b.length:Int)).toNat default)*1117+p*29+p.tdiv (b.length:Int)*53<=1000000000000:=by omega
   have h6:=tdivB hx.1 (show (0:Int)<=64 by omega)
   have h7:=bXor_pos hx ⟨h6.1,Int.le_trans h6.2 hx.2⟩
   have hv:=tmodB h7 (show (0:Int)<n by omega)
   refine ⟨_,?_,hv.1,.inl hv.2⟩
   refine gdI_eq (by omega) ?_
   refine bind_eq (v:=false) (bif_f (by simp;omega) (congrArg some (beq_eq_false_iff_ne.2 (by omega)))) (bif_f rfl ?_)
   refine gdI_eq (by omega) (bif_f (by simpa using hlt) ?_)
   refine gdD_eq (by omega) (gdD_eq h1 (gdI_eq (by omega) (gdI_eq (by omega) (gdI_eq (by omega) (gdI_eq (by omega) (gdD_eq h3 (gdI_eq (by omega) ?_)))))))
   refine gdI_eq (by omega) (gdI_eq (by omega) (gdI_eq (by omega) (gdI_eq (by omega) (gdI_eq (by omega) (gdI_eq (by omega) (gdI_eq (by omega) ?_))))))
   refine gdD_eq (by omega) (gdI_eq (by omega) (gdD_eq (by omega) rfl))
theorem num_ok {b:List Int} {p:Int} (hb:Bts b) (hp:0<=p/\p<=100000000) (l:List Int) (hl:l≠[]):∃ v,F_spec_l17Rd_num ⟨b,p⟩ l=some (⟨b,p+1⟩,v)/\v∈l:=by
 obtain ⟨v,h1,h2,h3⟩:=pick_ok hb hp (l.length:Int)
 have hpos:0<l.length:=List.length_pos_iff.2 hl
 have h4:v<(l.length:Int):=by omega
 refine ⟨l.getD v.toNat default,?_,?_⟩
 ·unfold F_spec_l17Rd_num
  exact bind_eq h1 (gdD_eq ⟨h2,h4⟩ rfl)
 ·rw [List.getD_eq_getElem?_getD,List.getElem?_eq_getElem (by omega)]
  exact List.getElem_mem _
theorem open_ok {b:List Int} (hb:Bts b):∃ b',F_spec_l17Open b=some ⟨b',0⟩/\Bts b':=by
 unfold F_spec_l17Open
 by_cases h:(2000:Int)<(b.length:Int)
 ·refine ⟨_,bind_eq (bif_t (by simpa using h) (gdD_eq (by omega) rfl)) rfl,?_,fun y hy => ?_⟩
  ·rw [List.length_take]
   omega
  ·exact hb.2 y (List.mem_of_mem_drop (List.mem_of_mem_take hy))
 ·exact ⟨b,bind_eq (bif_f (by simpa using h) rfl) rfl,hb⟩
end Go.Proofs.Ytlgfihlflchhgaa
