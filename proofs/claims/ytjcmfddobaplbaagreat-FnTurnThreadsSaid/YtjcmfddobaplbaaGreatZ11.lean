/- Texts joined. No conditions. -/
import Derived.Laws.IdiomStrings
import Derived.Test.YtjcmfddobaplbaaGreatZ10
namespace Go.Proofs.YtjcmfddobaplbaaGreat
noncomputable section
open _root_.List renaming getElem?_map -> TZ
open _root_.Option renaming map_eq_some_iff -> T9
open Go.RowKit
set_option maxRecDepth 100000
def Cx.newF (c:Cx) (k:ABlk) (cs:Array Value) (fr:Nat×Nat):Cx:={ w:=c.w.alloc (.cells cs k.ty fr),fz:=c.fz,H:=c.H++[some k],φ:=λb=>if b=c.H.length then (c.w.heap.size,0) else c.φ b }
section
variable {c:Cx} {k:ABlk} {cs:Array Value} {fr:Nat×Nat}
theorem Cx.newF_live {b:Nat} {k':ABlk} (h:(c.newF k cs fr).live b k'):(b=c.H.length/\k'=k)\/(b<c.H.length/\c.live b k'):=Cx.new_live (cs:=#[]) h
theorem Cx.newF_ext (hr:HRel c) (k:ABlk) (cs:Array Value) (fr:Nat×Nat):Ext c (c.newF k cs fr) where
 os:=rfl
 tape:=rfl
 output:=rfl
 size:=by simp [Cx.newF]
 keep:=λg hg _=>Below.heap_alloc _ _ _ hg
 fz:=λ_ h=>h
 nQ:=λ_ h => .inl h
 N:=by simp [Cx.newF]
 born:=λ_ _ h=>Cx.new_born (cs:=#[]) h
 hd:=λb ver x hb hx=>by
  obtain ⟨k',hl,hv,o,hc,hx'⟩:=Cx.hd_some hx;have hlt:=eZ hb;rcases Cx.newF_live hl with ⟨rfl,_⟩ | ⟨_,hl'⟩
  ·omega
  have e:(c.newF k cs fr).φ b=c.φ b:=if_neg (by omega);rw [e] at hc hx';have hh:c.w.heap[(c.φ b).1]? = some o:=by
   rw [<- hc];exact (Below.heap_alloc _ _ _<|hr.live_lt hl').symm
  rw [<- hv];exact (Cx.hd_of hl' hh).trans hx'
 eU:=λb k' hl=>by
  rcases Cx.newF_live hl with ⟨rfl,rfl⟩ | ⟨hlt,hl'⟩
  ·left
   simp [Cx.newF]
  right
  exact ⟨b,k',hl',by rw [show (c.newF k cs fr).φ b=c.φ b from if_neg (by omega)]⟩
theorem Cx.newF_rel (hr:HRel c) (hs:0<k.s) (hf:k.rows.length*k.s<=cs.size) (hfr:∀ i,i<cs.size -> ¬ (fr.1<=i/\i<fr.2)) (hl:∀ (i:Nat) (row:List AV),k.rows[i]? = some row->row.length=k.s)
  (h:∀ (i:Nat) (row:List AV) (j:Nat) (a:AV),k.rows[i]? = some row->row[j]? = some a->∃ u,cs[i*k.s+j]? = some u/\u.oneCell'=true/\c.rel a u) (hk1:k.s=1:=by first | rfl | assumption | simp_all):HRel (c.newF k cs fr) where
 gl:=hr.glx<|Cx.newF_ext hr k cs fr
 lt:=λg hg=>by
  have := hr.lt g hg;simp [Cx.newF];omega
 blk:=λb k' hb=>by
  rcases Cx.newF_live hb with ⟨rfl,rfl⟩ | ⟨hlt,hl'⟩
  ·refine ⟨cs,some fr,?_⟩;have e:(c.newF k' cs fr).φ c.H.length=(c.w.heap.size,0):=if_pos rfl;refine ⟨by rw [e];exact heap_alloc_new _ _,by rw [e];exact λhz=>Nat.lt_irrefl _<|hr.lt _ hz,hs,λf hf i hi=>by cases hf;exact hfr i (by omega),by simp_all,hl,λi row j a h1 h2=>?_⟩;obtain ⟨u,h3,h4,h5⟩:=h i row j a h1 h2;exact ⟨u,by simp_all,h4,h5.ext hr<|Cx.newF_ext hr k' cs fr⟩
  obtain ⟨cs',fr',hB⟩:=hr.blk b k' hl';have e:(c.newF k cs fr).φ b=c.φ b:=if_neg (by omega);refine ⟨cs',fr',⟨by rw [e];exact (Below.heap_alloc _ _ _<|hr.live_lt hl').trans hB.at_,by rw [e];exact hB.nf,hB.pos,hB.free,by rw [e];exact hB.fits,hB.len,λi row j a h1 h2=>?_⟩⟩;obtain ⟨u,h3,h4,h5⟩:=hB.rel i row j a h1 h2;exact ⟨u,by simp_all,h4,h5.ext hr<|Cx.newF_ext hr k cs fr⟩
 inj:=λb b' k1 k2 h1 h2 hne=>by
  rcases Cx.newF_live h1 with ⟨rfl,rfl⟩ | ⟨hlt,hl'⟩
  ·rcases Cx.newF_live h2 with ⟨rfl,rfl⟩ | ⟨hlt2,hl2⟩
   ·omega
   have := hr.live_lt hl2;rw [show (c.newF k1 cs fr).φ c.H.length=(c.w.heap.size,0) from if_pos rfl,show (c.newF k1 cs fr).φ b'=c.φ b' from if_neg (by omega)];omega
  rcases Cx.newF_live h2 with ⟨rfl,rfl⟩ | ⟨hlt2,hl2⟩
  ·have := hr.live_lt hl';rw [show (c.newF k2 cs fr).φ c.H.length=(c.w.heap.size,0) from if_pos rfl,show (c.newF k2 cs fr).φ b=c.φ b from if_neg (by omega)];omega
  rw [show (c.newF k cs fr).φ b=c.φ b from if_neg (by omega),show (c.newF k cs fr).φ b'=c.φ b' from if_neg (by omega)];exact hr.inj b b' k1 k2 hl' hl2 hne
theorem Cx.newF_hs (c:Cx) (k:ABlk) (cs:Array Value) (fr:Nat×Nat) {n cap:Nat} (hn:n<=k.rows.length) (hc:n<=cap) (hm:cap<=9223372036854775807) (hs:cap*k.s<=cs.size):(c.newF k cs fr).rel (.hs c.H.length k.ver k.s 0 n) (.slice (some ⟨c.w.heap.size,0,none⟩) n cap):=by
 have hd:(c.newF k cs fr).hd c.H.length k.ver=some ⟨c.w.heap.size,0,k.s,k.rows.length,cs.size⟩:=by
  have := Cx.hd_of (c:=c.newF k cs fr) (o:=.cells cs k.ty fr) (Cx.new_live_new c k #[]) (by
   rw [show (c.newF k cs fr).φ c.H.length=(c.w.heap.size,0) from if_pos rfl];exact heap_alloc_new _ _)
  rw [show (c.newF k cs fr).φ c.H.length=(c.w.heap.size,0) from if_pos rfl] at this;exact this
 refine .hs (Cx.new_bornN c k #[]) hc hm (λ_=>⟨_,rfl⟩) λx hx=>?_;rw [hd] at hx
 grind
end
section
variable {P:Program} {ρ:Operand->AV} {H:AH} {x:Operand} {t d e:TypeId}
theorem EvA.s2b {s:ByteArray} (hs:P.underlying t=some .string) (hd:P.underlying d=some (.slice e)) (he:P.underlying e=some (.int .u8)) (hx:ρ x = .v (.string s)) (hn:s.size<=35184372088832) {bl:Nat} (hbl:H.length=bl) :
  EvA P ρ (.convert t d x) H (Go.Proofs.YtjcmfddobaplbaaGreat.hS false bl 0 1 (kU s).length) (H++[bE false 0 1 e ((kU s).map cY)]):=λo ho c a K Q hH hr hxs hK=>by
 subst hbl;have h1:=hxs x (by rw [ho];simp [Op.operands]);rw [hx] at h1;obtain ⟨h1,_⟩:=eu h1;have hrun:=run_bytes_of_string c.w t d e s hs hd he;have hge:=grownCap_ge c.w s.size 0 e;have hle:=grownCap_le_maxLen c.w s.size 0 e (by unfold maxLen;omega);generalize grownCap c.w s.size 0 e=cap at hrun hge hle;have hlen:(kU s).length=s.size:=by simp [kU]
 have hsz:(bytesRow s cap).size=cap:=by simp [bytesRow];omega
 have hdr:=Cx.drew_rel hr;have hrel:=Cx.newF_rel (k:=⟨0,1,e,(kU s).map cY⟩) (cs:=bytesRow s cap) (fr:=((bytesRow s cap).size,(bytesRow s cap).size+1)) hdr Nat.one_pos (by simp [hlen];omega) (λi hi h=>by omega) (λi row h=>by
  rw [TZ] at h;obtain ⟨b,_,rfl⟩:=T9.1 h
  rfl) λi row j a h h2=>by
  rw [TZ] at h;obtain ⟨b,hb,rfl⟩:=T9.1 h
  match j,h2 with
  | 0,h2=>
   injection h2 with h2;subst h2;have hi:=(ges hb).1;refine ⟨.int .u8 b,?_,rfl,cz rfl⟩;have hi':i<s.data.size:=by rw [hlen] at hi;exact hi
   have h3:=bytesRow_at s cap i hi';have h4:b=(s.data[i].toNat:Int):=by
    unfold kU at hb;rw [TZ,geq (by simpa using hi')] at hb;simpa using hb.symm
   simp only [Nat.mul_one,Nat.add_zero];rw [h3,h4]
 have hh:=Cx.newF_hs c.drew ⟨0,1,e,(kU s).map cY⟩ (bytesRow s cap) ((bytesRow s cap).size,(bytesRow s cap).size+1) (n:=s.size) (cap:=cap) (by simp [hlen]) hge (by unfold maxLen at hle;omega) (by simp [hsz]);unfold Oper.wp;have : (execOp a.eval o).run P c.w = .ok (.value<|.slice (some ⟨c.w.heap.size,0,none⟩) s.size cap) (c.w.drew.alloc<|.cells (bytesRow s cap) e ((bytesRow s cap).size,(bytesRow s cap).size+1)):=by
  rw [execOp,ho];simp only [h1];simp only [Sem.run_bind,hrun,Result.andThen_ok,Sem.run_pure]
 rw [this];refine hK _ (c.drew.newF ⟨0,1,e,(kU s).map cY⟩ (bytesRow s cap) ((bytesRow s cap).size,(bytesRow s cap).size+1)) (by rw [<- hH];rfl) hrel (c.drew_ext.trans<|Cx.newF_ext hdr _ _ _) ?_;rw [hlen,<- hH];exact hh
end
end
end Go.Proofs.YtjcmfddobaplbaaGreat
