/-
 The drawn numbers: a reader's pick lies below its bound. Plain theorems. No conditions.
-/
import Derived.Test.YtlgfihlflchhgaaD4
import Derived.Test.YtlgfihlflchhgaaHo
namespace Go.Proofs.Ytlgfihlflchhgaa
open Go.RowKit
set_option maxRecDepth 100000
def Rd (k:Int) (r:Xspec_l17Rd):Prop:=Bts r.b/\0<=r.p/\r.p<=k
theorem Rd.mono {k k':Int} {r:Xspec_l17Rd} (h:Rd k r) (hk:k<=k'):Rd k' r:=⟨h.1,h.2.1,by have := h.2.2;omega⟩
theorem Rd.mk' {k:Int} {r:Xspec_l17Rd} (h:Rd k r):Rd k ⟨r.b,r.p⟩:=h
theorem pick_ret {k:Int} {r:Xspec_l17Rd} (h:Rd k r) (hk:k<=100000000) (n:Int):Ret (F_spec_l17Rd_pick r n) fun v=>Rd (k+1) v.1/\0<=v.2/\(v.2<n\/v.2=0):=by
 obtain ⟨b,p⟩:=r
 obtain ⟨h1,h2,h3⟩:=h
 obtain ⟨v,e,h4,h5⟩:=pick_ok h1 (p:=p) ⟨h2,by simp only at h3;omega⟩ n
 exact ⟨_,e,⟨h1,by simp only at h2 ⊢;omega,by simp only at h3 ⊢;omega⟩,h4,h5⟩
theorem num_ret {k:Int} {r:Xspec_l17Rd} (h:Rd k r) (hk:k<=100000000) (l:List Int) (hl:l≠[]):Ret (F_spec_l17Rd_num r l) fun v=>Rd (k+1) v.1/\v.2∈l:=by
 obtain ⟨b,p⟩:=r
 obtain ⟨h1,h2,h3⟩:=h
 obtain ⟨v,e,h4⟩:=num_ok h1 (p:=p) ⟨h2,by simp only at h3;omega⟩ l hl
 exact ⟨_,e,⟨h1,by simp only at h2 ⊢;omega,by simp only at h3 ⊢;omega⟩,h4⟩
theorem open_ret {b:List Int} (h:Bts b):Ret (F_spec_l17Open b) (Rd 0):=by
 obtain ⟨b',e,h'⟩:=open_ok h
 exact ⟨_,e,h',Int.le_refl _,Int.le_refl _⟩
end Go.Proofs.Ytlgfihlflchhgaa
