/- Texts joined. No conditions. -/
import Derived.Laws.IdiomStrings
import Derived.Test.YtjcmfddobaplbaaGreatV8
namespace Go.Proofs.YtjcmfddobaplbaaGreat
noncomputable section
open _root_.List renaming getElem?_map -> PF
open _root_.Option renaming map_eq_some_iff -> PG
open Go.RowKit
section
variable {P:Program} {nt b0:Nat} {Q:Exit->Env->AH->Prop} {e:Env} {H:AH}
def yg (P:Program) (c:Code) (Q:Exit->Act->World->Prop) (a:Act) (w:World):Prop:=∀ (b:Frame) (k:List Item) (cs),∃ e a' w',Q e a' w'/\Arrives P (lone (b.at a (.code c :: .inLoop c::k)) cs w) b k cs e a' w'
theorem yg.loop {c:Code} {Q:Exit->Act->World->Prop} {a:Act} {w:World} (h:yg P c Q a w):(Code.loop c).wp P Q a w:=by
 intro b k cs;obtain ⟨e',a',w',hq',harr'⟩:=h b k cs;exact ⟨e',a',w',hq',.of_steps (.one step_loop) harr'⟩
theorem yg.mk {c:Code} {Q:Exit->Act->World->Prop} {a:Act} {w:World} (h:c.wp P (Exit.then (λa w=>yg P c Q a w) Q) a w):yg P c Q a w:=by
 intro b k cs;obtain ⟨e,a₁,w₁,hq,harr⟩:=h b (.inLoop c::k) cs
 cases e with
 | normal=>
  obtain ⟨e₂,a₂,w₂,hq₂,harr₂⟩:=hq b k cs;exact ⟨e₂,a₂,w₂,hq₂,.of_steps (Steps.trans harr<|.one step_inLoop) harr₂⟩
 | exit id=>exact ⟨_,a₁,w₁,hq,.pass (x:=.inLoop c) rfl (λ_ _ => .inl<|by simp) harr⟩
 | goto l=>exact ⟨_,a₁,w₁,hq,.pass (x:=.inLoop c) rfl (λ_ _ => .inl<|by simp) harr⟩
 | ret=>exact ⟨_,a₁,w₁,hq,.pass (x:=.inLoop c) rfl (λ_ _ => .inl<|by simp) harr⟩
 | panic ch=>exact ⟨_,a₁,w₁,hq,.pass (x:=.inLoop c) rfl (λ_ _ => .inl<|by simp) harr⟩
 | outgrown=>exact ⟨_,a₁,w₁,hq,.pass (x:=.inLoop c) rfl (λ_ _ => .inl<|by simp) harr⟩
def TLp (P:Program) (nt b0:Nat) (x:Code) (Q:Exit->Env->AH->Prop) (e:Env) (H:AH):Prop:=
 codeOk nt x=true->∀ (c c0:Cx) (a:Act),c.H=H->c0.H.length<=b0->Ext c0 c->SRel c nt e a->yg P x (Gm nt c0 Q) a c.w
theorem T.ofL {x:Code} (h:TLp P nt b0 x Q e H):T P nt b0 (.loop x) Q e H:=λhok c c0 a hH hb hx hr=>(h hok c c0 a hH hb hx hr).loop
theorem TLp.unr {x:Code} (h:T P nt b0 x (A7 (TLp P nt b0 x Q) Q) e H):TLp P nt b0 x Q e H:=by
 intro hok c c0 a hH hb hx hr;refine yg.mk<|wp_mono (h hok c c0 a hH hb hx hr) λex a' w' hl=>?_;obtain ⟨hg,c',e',rfl,hx',hs',hq⟩:=hl
 cases ex with
 | normal=>exact hq hok c' c0 a' rfl hb hx' hs'
 | exit i=>exact ⟨hg,c',e',rfl,hx',hs',hq⟩
 | ret=>exact ⟨hg,c',e',rfl,hx',hs',hq⟩
 | _=>exact hg.elim
variable {en:List (Nat×AV)} {ops:Array Oper} {l:List Oper} {d:Tmp} {t:TypeId} {pos:String} {af:Array Edge}
theorem oI {fn:Func} {body:Code} {e0:Env} {cl:Call} {f:Operand} {g:FuncId} {iX Jq:List AV} (hfn:P.funcs[g]? = some fn) (hbd:fn.body=some body) (hcall:eF P g=true) (hn:Nat.ble Jq.length fn.ntmps=true) (hok:codeOk fn.ntmps body=true)
  (hc:cl.callee = .value f) (hf:rho (ax en) f = .fn (.func g) iX) (ha:cl.args.toList.map (rho<|ax en)++iX=Jq) (hw:uK (CF Jq) e0)
  (h:T P fn.ntmps H.length body (SQ H.length<|Fin P fn λr G=>TO P nt b0 ops l Q (ax ((d,r)::en)) G) e0 H):TO P nt b0 ops (⟨some d,.call cl,t,pos,af,none⟩::l) Q (ax en) H:=by
 subst ha;exact TO.runG (.free rfl) (mS rfl hc hf<|dD.mkS hfn hbd hcall hn hok hw h) λr' H' hk=>hk
variable {cls:Nat->Xc} {i:Nat} {K:Env->AH->Prop} {li:List Nat} {op:Op}
theorem HL {W:List Nat} {H G:AH} (n:Nat) (h:(List.range n).all (W.contains ·)=true) (hd:G.drop n=H.drop n):nS W H G:=λb _ hn=>by
 rcases Nat.lt_or_ge b n with hb | hb
 ·have := List.all_eq_true.1 h b<|List.mem_range.2 hb;simp at this;exact absurd this hn
 obtain ⟨k,rfl⟩:∃ k,b=n+k:=⟨b-n,by omega⟩;rw [<- List.getElem?_drop,hd,List.getElem?_drop]
theorem xI {W:List Nat} (n:Nat) {fn:Func} {body:Code} {e0:Env} {cl:Call} {f:Operand} {g:FuncId} {iX Jq:List AV} (h0:ops[i]? = some ⟨some d,.call cl,t,pos,af,none⟩) (hci:cls i=(true,W)) (hkw:(List.range n).all (W.contains ·)=true)
  (hfn:P.funcs[g]? = some fn) (hbd:fn.body=some body) (hcall:eF P g=true) (hn:Nat.ble Jq.length fn.ntmps=true) (hok:codeOk fn.ntmps body=true)
  (hc:cl.callee = .value f) (hf:rho (ax en) f = .fn (.func g) iX) (ha:cl.args.toList.map (rho<|ax en)++iX=Jq) (hw:uK (CF Jq) e0)
  (h:T P fn.ntmps H.length body (SQ H.length<|Fin P fn λr G=>G.drop n=H.drop n/\TX P ops cls li K (ax ((d,r)::en)) G) e0 H):TX P ops cls (i::li) K (ax en) H:=by
 subst ha;exact xT h0 hci (mS rfl hc hf<|dD.mkS hfn hbd hcall hn hok hw h) λr' G hk=>⟨HL n hkw hk.1,hk.2⟩
end
set_option maxRecDepth 100000
def Cx.newF (c:Cx) (k:ABlk) (cs:Array Value) (fr:Nat×Nat):Cx:={ w:=c.w.alloc (.cells cs k.ty fr),fz:=c.fz,H:=c.H++[some k],φ:=λb=>if b=c.H.length then (c.w.heap.size,0) else c.φ b }
section
variable {c:Cx} {k:ABlk} {cs:Array Value} {fr:Nat×Nat}
theorem Cx.newF_live {b:Nat} {k':ABlk} (h:(c.newF k cs fr).live b k'):(b=c.H.length/\k'=k)\/(b<c.H.length/\c.live b k'):=Cx.new_live (cs:=#[]) h
theorem Cx.newF_ext (hr:HRel c) (k:ABlk) (cs:Array Value) (fr:Nat×Nat):Ext c (c.newF k cs fr) where
 os:=rfl
 tape:=rfl
 output:=rfl
 size:=by simp [Cx.newF]
 keep:=λg hg _=>Below.heap_alloc _ _ _ hg
 fz:=λ_ h=>h
 l8:=λ_ h => .inl h
 N:=by simp [Cx.newF]
 born:=λ_ _ h=>Cx.new_born (cs:=#[]) h
 hd:=λb ver x hb hx=>by
  obtain ⟨k',hl,hv,o,hc,hx'⟩:=Cx.hd_some hx;have hlt:=fT hb;rcases Cx.newF_live hl with ⟨rfl,_⟩ | ⟨_,hl'⟩
  ·omega
  have e:(c.newF k cs fr).φ b=c.φ b:=if_neg (by omega);rw [e] at hc hx';have hh:c.w.heap[(c.φ b).1]? = some o:=by
   rw [<- hc];exact (Below.heap_alloc _ _ _<|hr.live_lt hl').symm
  rw [<- hv];exact (Cx.hd_of hl' hh).trans hx'
 eB:=λb k' hl=>by
  rcases Cx.newF_live hl with ⟨rfl,rfl⟩ | ⟨hlt,hl'⟩
  ·left
   simp [Cx.newF]
  right
  exact ⟨b,k',hl',by rw [show (c.newF k cs fr).φ b=c.φ b from if_neg (by omega)]⟩
theorem Cx.newF_rel (hr:HRel c) (hs:0<k.s) (hf:k.rows.length*k.s<=cs.size) (hfr:∀ i,i<cs.size -> ¬ (fr.1<=i/\i<fr.2)) (hl:∀ (i:Nat) (row:List AV),k.rows[i]? = some row->row.length=k.s)
  (h:∀ (i:Nat) (row:List AV) (j:Nat) (a:AV),k.rows[i]? = some row->row[j]? = some a->∃ u,cs[i*k.s+j]? = some u/\u.oneCell'=true/\c.rel a u) (hk1:k.s=1:=by first | rfl | assumption | simp_all):HRel (c.newF k cs fr) where
 gl:=hr.glx<|Cx.newF_ext hr k cs fr
 lt:=λg hg=>by
  have := hr.lt g hg;simp [Cx.newF];omega
 blk:=λb k' hb=>by
  rcases Cx.newF_live hb with ⟨rfl,rfl⟩ | ⟨hlt,hl'⟩
  ·refine ⟨cs,some fr,?_⟩;have e:(c.newF k' cs fr).φ c.H.length=(c.w.heap.size,0):=if_pos rfl;refine ⟨by rw [e];exact heap_alloc_new _ _,by rw [e];exact λhz=>Nat.lt_irrefl _<|hr.lt _ hz,hs,λf hf i hi=>by cases hf;exact hfr i (by omega),by simp_all,hl,λi row j a h1 h2=>?_⟩;obtain ⟨u,h3,h4,h5⟩:=h i row j a h1 h2;exact ⟨u,by simp_all,h4,h5.ext hr<|Cx.newF_ext hr k' cs fr⟩
  obtain ⟨cs',fr',hB⟩:=hr.blk b k' hl';have e:(c.newF k cs fr).φ b=c.φ b:=if_neg (by omega);refine ⟨cs',fr',⟨by rw [e];exact (Below.heap_alloc _ _ _<|hr.live_lt hl').trans hB.at_,by rw [e];exact hB.nf,hB.pos,hB.free,by rw [e];exact hB.fits,hB.len,λi row j a h1 h2=>?_⟩⟩;obtain ⟨u,h3,h4,h5⟩:=hB.rel i row j a h1 h2;exact ⟨u,by simp_all,h4,h5.ext hr<|Cx.newF_ext hr k cs fr⟩
 inj:=λb b' k1 k2 h1 h2 hne=>by
  rcases Cx.newF_live h1 with ⟨rfl,rfl⟩ | ⟨hlt,hl'⟩
  ·rcases Cx.newF_live h2 with ⟨rfl,rfl⟩ | ⟨hlt2,hl2⟩
   ·omega
   have := hr.live_lt hl2;rw [show (c.newF k1 cs fr).φ c.H.length=(c.w.heap.size,0) from if_pos rfl,show (c.newF k1 cs fr).φ b'=c.φ b' from if_neg (by omega)];omega
  rcases Cx.newF_live h2 with ⟨rfl,rfl⟩ | ⟨hlt2,hl2⟩
  ·have := hr.live_lt hl';rw [show (c.newF k2 cs fr).φ c.H.length=(c.w.heap.size,0) from if_pos rfl,show (c.newF k2 cs fr).φ b=c.φ b from if_neg (by omega)];omega
  rw [show (c.newF k cs fr).φ b=c.φ b from if_neg (by omega),show (c.newF k cs fr).φ b'=c.φ b' from if_neg (by omega)];exact hr.inj b b' k1 k2 hl' hl2 hne
theorem Cx.newF_hs (c:Cx) (k:ABlk) (cs:Array Value) (fr:Nat×Nat) {n cap:Nat} (hn:n<=k.rows.length) (hc:n<=cap) (hm:cap<=9223372036854775807) (hs:cap*k.s<=cs.size):(c.newF k cs fr).rel (.hs c.H.length k.ver k.s 0 n) (.slice (some ⟨c.w.heap.size,0,none⟩) n cap):=by
 have hd:(c.newF k cs fr).hd c.H.length k.ver=some ⟨c.w.heap.size,0,k.s,k.rows.length,cs.size⟩:=by
  have := Cx.hd_of (c:=c.newF k cs fr) (o:=.cells cs k.ty fr) (Cx.new_live_new c k #[]) (by
   rw [show (c.newF k cs fr).φ c.H.length=(c.w.heap.size,0) from if_pos rfl];exact heap_alloc_new _ _)
  rw [show (c.newF k cs fr).φ c.H.length=(c.w.heap.size,0) from if_pos rfl] at this;exact this
 refine .hs (Cx.new_bornN c k #[]) hc hm (λ_=>⟨_,rfl⟩) λx hx=>?_;rw [hd] at hx
 grind
end
section
variable {P:Program} {ρ:Operand->AV} {H:AH} {x:Operand} {t d e:TypeId}
theorem EvA.s2b {s:ByteArray} (hs:P.underlying t=some .string) (hd:P.underlying d=some (.slice e)) (he:P.underlying e=some (.int .u8)) (hx:ρ x = .v (.string s)) (hn:s.size<=35184372088832) {bl:Nat} (hbl:H.length=bl) :
  EvA P ρ (.convert t d x) H (Go.Proofs.YtjcmfddobaplbaaGreat.hS false bl 0 1 (jl s).length) (H++[bE false 0 1 e ((jl s).map cY)]):=λo ho c a K Q hH hr hxs hK=>by
 subst hbl;have h1:=hxs x (by rw [ho];simp [Op.operands]);rw [hx] at h1;obtain ⟨h1,_⟩:=dE h1;have hrun:=run_bytes_of_string c.w t d e s hs hd he;have hge:=grownCap_ge c.w s.size 0 e;have hle:=grownCap_le_maxLen c.w s.size 0 e (by unfold maxLen;omega);generalize grownCap c.w s.size 0 e=cap at hrun hge hle;have hlen:(jl s).length=s.size:=by simp [jl]
 have hsz:(bytesRow s cap).size=cap:=by simp [bytesRow];omega
 have hdr:=Cx.drew_rel hr;have hrel:=Cx.newF_rel (k:=⟨0,1,e,(jl s).map cY⟩) (cs:=bytesRow s cap) (fr:=((bytesRow s cap).size,(bytesRow s cap).size+1)) hdr Nat.one_pos (by simp [hlen];omega) (λi hi h=>by omega) (λi row h=>by
  rw [PF] at h;obtain ⟨b,_,rfl⟩:=PG.1 h
  rfl) λi row j a h h2=>by
  rw [PF] at h;obtain ⟨b,hb,rfl⟩:=PG.1 h
  match j,h2 with
  | 0,h2=>
   injection h2 with h2;subst h2;have hi:=(ges hb).1;refine ⟨.int .u8 b,?_,rfl,bU rfl⟩;have hi':i<s.data.size:=by rw [hlen] at hi;exact hi
   have h3:=bytesRow_at s cap i hi';have h4:b=(s.data[i].toNat:Int):=by
    unfold jl at hb;rw [PF,geq (by simpa using hi')] at hb;simpa using hb.symm
   simp only [Nat.mul_one,Nat.add_zero];rw [h3,h4]
 have hh:=Cx.newF_hs c.drew ⟨0,1,e,(jl s).map cY⟩ (bytesRow s cap) ((bytesRow s cap).size,(bytesRow s cap).size+1) (n:=s.size) (cap:=cap) (by simp [hlen]) hge (by unfold maxLen at hle;omega) (by simp [hsz]);unfold Oper.wp;have : (execOp a.eval o).run P c.w = .ok (.value<|.slice (some ⟨c.w.heap.size,0,none⟩) s.size cap) (c.w.drew.alloc<|.cells (bytesRow s cap) e ((bytesRow s cap).size,(bytesRow s cap).size+1)):=by
  rw [execOp,ho];simp only [h1];simp only [Sem.run_bind,hrun,Result.andThen_ok,Sem.run_pure]
 rw [this];refine hK _ (c.drew.newF ⟨0,1,e,(jl s).map cY⟩ (bytesRow s cap) ((bytesRow s cap).size,(bytesRow s cap).size+1)) (by rw [<- hH];rfl) hrel (c.drew_ext.trans<|Cx.newF_ext hdr _ _ _) ?_;rw [hlen,<- hH];exact hh
end
end
end Go.Proofs.YtjcmfddobaplbaaGreat
