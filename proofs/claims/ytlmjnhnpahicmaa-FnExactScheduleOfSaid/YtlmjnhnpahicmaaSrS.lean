/-
 slices.Sort of numbers: what it does to a slice of the call's own. No conditions.
-/
import Derived.Test.YtlmjnhnpahicmaaSrSd
import Derived.Test.YtlmjnhnpahicmaaSrP
import Derived.Test.YtlmjnhnpahicmaaSoL
namespace Go.Proofs.Ytlmjnhnpahicmaa
open Go.ChangeShapes Go.WideShapes Go.ChangeAt Go.RowKit Go.Shelf Go.Sort
set_option maxRecDepth 100000
theorem F_slices_Sort_W (l:List Int) (g:Bool) (ver:Nat) (hg:g=true->l=[]) {q:List Int} (h:F_slices_Sort l=some q) :
  ACall Try.prog 113 [hS g 0 ver 1 l.length] [bE g ver 1 3 (l.map cI)] (.tup []) [bE g ver 1 3 (q.map cI)]:=by
 obtain ⟨hl,h⟩:=gdD h
 obtain rfl:=Option.some.inj h
 refine ⟨by kernel_rfl,fun c vs hH hr hall => ?_⟩
 obtain ⟨hsz,hrel⟩:=hall
 obtain ⟨u,rfl⟩:∃ u,vs = #[u]:=by
  match vs,hsz with
  | ⟨[u]⟩,_=>exact ⟨u,rfl⟩
 have hu:=hrel 0 _ u rfl rfl
 by_cases hn:0<l.length
 ·obtain rfl:g=false:=by
   cases g with
   | false=>rfl
   | true=>
    rw [hg rfl] at hn
    exact absurd hn (by simp)
  have hH:c.H=[some ⟨ver,1,3,l.map cI⟩]:=hH
  obtain ⟨cs,fr0,cap,hB,rfl,hc,hm,hcs,hHo,hblk⟩:=ints_row hr hH hu hn
  have hcon:=AnyM.slices_Sort_int sorLay (c.φ 0).1 (c.φ 0).2 cap l c.w hHo hblk hl
  refine (show Calls Try.prog 113 _ _ _ from hcon).mono ?_
  rintro e w' ⟨rfl,m,os,rfl⟩
  have hll:(srtI l).length=l.length:=(srtI_perm l).length_eq
  obtain ⟨c',w1,w2,w3,w4,w5,w6⟩:=ints_put hr hH hB (q:=srtI l) (ver':=ver) (d':=(srtI l).toArray) (by simpa using hll) (by simp) (fun k hk=>by
   rw [getElem!_pos _ k (by simpa using hk)]
   simp) (m:=m) (os:=os) (.inl ⟨rfl,hll⟩)
  exact ⟨_,c',rfl,w1,w2,w3,w4,.tup rfl (fun i x y hx=>by simp at hx)⟩
 ·obtain rfl:l=[]:=List.eq_nil_of_length_eq_zero (by omega)
  obtain ⟨A,cap,rfl⟩:∃ A cap,u = .slice A 0 cap:=by
   cases g with
   | true=>
    cases hu with
    | fr h=>cases h;exact ⟨_,_,rfl⟩
   | false=>
    obtain ⟨A,cap,h6,_⟩:=rel_hs_form hu
    exact ⟨A,cap,h6⟩
  refine (show Calls Try.prog 113 _ _ _ from AnyM.slices_Sort_int_none sorLay A cap c.w).mono ?_
  rintro e w' ⟨rfl,rfl⟩
  refine ⟨_,c,rfl,rfl,?_,hr,Ext.refl c,.tup rfl (fun i x y hx=>by simp at hx)⟩
  rw [hH,(srtI_perm []).eq_nil]
end Go.Proofs.Ytlmjnhnpahicmaa
