/- Texts joined. No conditions. -/
import Derived.Test.YtjcmfddobaplbaaGreatZ12
namespace Go.Proofs.YtjcmfddobaplbaaGreat
noncomputable section
open Go.RowKit
set_option maxRecDepth 100000
theorem aU (v:ah) (loc:Int) (place:Int) {q} (h:aO v loc place=some q):aW Tryz.prog 227 [.agg (ah.c v),I loc,Y place] (.agg<|ah.c q):=by
 refine pM Tryz.func227 Z (by kernel_rfl) Z<|jI<|oA (EvA.bx (cs:=(ah.c v)) Z Z Z)<|oA (EvA.al JJ Z Z)<|jA ?_;refine T.jU h (λs1=>[(6,.hp 1 0 3 0 0),(3,.hp 0 0 3 0 0)]) (λs1=>[some ⟨0,3,129,[[Y s1.1,Y s1.2.1,Y s1.2.2]]⟩,some ⟨0,3,129,[[Y U,Y U,Y U]]⟩]) (λs1 h=>?_) λs1 h=>?_
 ·refine jI<|oA (lh (.agg [Y s1.1,Y s1.2.1,Y s1.2.2]) cg Z Z Z)<|oV (sr [Y s1.1,Y s1.2.1,Y s1.2.2] cg Z Z Z Z)<|jA<|jK ?_;obtain rfl:=MH h
  repeat (first|refine gY ?_|refine gZ ?_)
  exact jQ (vs:=[.agg [Y s1.1,Y s1.2.1,Y s1.2.2]]) (.cons (.cell (.agg [Y s1.1,Y s1.2.1,Y s1.2.2]) cg Z Z Z Z Z Z) .nil)<|qC Z
 refine jI<|oN mv<|jD h λg2 h=>oN (MF.ixahp Tryz.underlying129 MS Z Z g2)<|oA (lh1 (λz0=>Y<|ah.get v z0) g2 MS Z Z Z Z Z)<|oN mv<|oN (MF.ige Z Z)<|jA ?_;refine jN Z h (λq3 h=>?_) λq3 h=>?_
 ·refine jC<|oN mv<|oN (MF.ixahp Tryz.underlying129 MS Z Z g2)<|oA (lh1 (λz0=>Y<|ah.get v z0) g2 MS Z Z Z Z Z)<|jW h λg4 h=>oN (MF.add Z Z g4)<|oN (MF.ixahp Tryz.underlying129 MS Z Z g2)<|oV (sr1 (λz0=>(ah.c<|ah.set v z0<|(ah.get v loc)+V)) g2 MS Z Z Z Z Z Z)<|jA ?_
  cases h
  exact ⟨(),trivial,kw Z Z⟩
 refine jG ?_
 cases h
 exact ⟨(),trivial,kw Z Z⟩
end
end Go.Proofs.YtjcmfddobaplbaaGreat
