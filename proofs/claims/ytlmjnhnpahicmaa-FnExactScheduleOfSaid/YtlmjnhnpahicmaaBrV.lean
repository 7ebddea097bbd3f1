/-
 PROVED: ProgramValid, of impl and of spec, computes the function over plain values. No conditions.
-/
import Derived.Test.YtlmjnhnpahicmaaBrVd
import Derived.Test.YtlmjnhnpahicmaaSf
import Derived.Test.YtlmjnhnpahicmaaBr
namespace Go.Proofs.Ytlmjnhnpahicmaa
open Go.RowKit
set_option maxRecDepth 100000
theorem args1' {vs:Array Value} {a:AV} (hl:vs.size=[a].length):∃ u,vs = #[u]:=by
 obtain ⟨l⟩:=vs
 match l,hl with
 | [u],_=>exact ⟨u,rfl⟩
theorem F_impl_ProgramValid_P (p:List (List ZIn)) {q:Bool} (h:F_impl_ProgramValid p=some q):PCall Try.prog 76 [eL (cL ZIn.c) p] (Bo q):=by
 unfold F_impl_ProgramValid at h
 obtain ⟨⟨h1,h2⟩,h⟩:=gdD h
 obtain rfl:=Option.some.inj h
 refine ⟨by kernel_rfl,fun w fz vs hlt hl hrel => ?_⟩
 obtain ⟨u,rfl⟩:=args1' hl
 have hs:=slsl_of_frel (f:=Ins.cells) (s:=4) (e:=toIns) (fun _=>rfl) (fun _=>rfl) (hrel 0 _ u rfl rfl)
 refine (impl_ProgramValid_any hs (Nat.le_refl _) (by rw [total_map];exact h2)).mono fun e w' ⟨he,hb⟩ => ?_
 exact ⟨_,fz,he,hb,.v rfl,fun g hg=>hg,fun g hg => .inl hg,fun g hg=>Nat.lt_of_lt_of_le (hlt g hg) hb.size⟩
theorem F_spec_ProgramValid_P (p:List (List ZIn)) {q:Bool} (h:F_spec_ProgramValid p=some q):PCall Try.prog 79 [eL (cL ZIn.c) p] (Bo q):=by
 unfold F_spec_ProgramValid at h
 obtain ⟨⟨h1,h2⟩,h⟩:=gdD h
 obtain rfl:=Option.some.inj h
 refine ⟨by kernel_rfl,fun w fz vs hlt hl hrel => ?_⟩
 obtain ⟨u,rfl⟩:=args1' hl
 have hs:=slsl_of_frel (f:=Ins.cells) (s:=4) (e:=toIns) (fun _=>rfl) (fun _=>rfl) (hrel 0 _ u rfl rfl)
 refine (spec_ProgramValid_any hs (Nat.le_refl _) (by rw [total_map];exact h2)).mono fun e w' ⟨he,hb⟩ => ?_
 exact ⟨_,fz,he,hb,.v rfl,fun g hg=>hg,fun g hg => .inl hg,fun g hg=>Nat.lt_of_lt_of_le (hlt g hg) hb.size⟩
end Go.Proofs.Ytlmjnhnpahicmaa
