/- Texts joined. No conditions. -/
import Derived.Still
import Derived.MapKept
import Derived.WideKeyRuns
import Derived.Test.YtabfkkjdfhbngaaGreatDoorV1
namespace Go.Proofs.YtabfkkjdfhbngaaGreatDoor
noncomputable section
open _root_.Bool renaming true -> QX
open _root_.Bool renaming false -> QY
open _root_.Option renaming some -> QZ
open _root_.Option renaming none -> Q0
open _root_.Decidable renaming decide -> Q3
open _root_.Nat renaming le_refl -> RE, add_mul -> RF, lt_or_ge -> RI, lt_of_lt_of_le -> RJ, zero_add -> RL, mul_le_mul_right -> RN
open _root_.List renaming all_eq_true -> RG, mem_of_getElem? -> RH, size_toArray -> RQ, getElem?_map -> RR, mem_iff_getElem? -> RU, ext_getElem? -> R3
open _root_.Array renaming getElem?_append_left -> RO, size_append -> RP, getElem?_eq_getElem -> RS, length_toList -> RZ, range -> R4, getElem?_toList -> R5
open _root_.Option renaming bind_some -> RX, map_eq_some_iff -> RY
open Go.RowKit
section
variable {P:Program} {o:Oper} {ρ:Operand->AV}
theorem C8.get {c:Cx} {s:Nat} {rows:List (List AV)} {vs:List Value} (h:C8 c s rows vs) {i:Nat} {row:List AV} {j:Nat} {a:AV} (h1:rows[i]? = QZ row) (h2:row[j]? = QZ a):∃ u,vs[i*s+j]? = QZ u/\u.oneCell'=QX/\c.rel a u:=h.2.2 i row j a h1 h2
theorem qf {a:Act} {w:World} {cl:Call} {x y:Operand} {t u:TypeId} (ho:o.op = .call cl) (h1:cl.callee = .builtin .append) (h2:cl.args.toList=[x,y]) (h3:cl.argTypes.toList=[t,u]) {v:Value} {w':World}
  (h:(Builtin.append_ #[t,u] o.type #[a.eval x,a.eval y]).run P w = .ok v w'):(execOp a.eval o).run P w = .ok (.value v) w':=by
 obtain ⟨callee,args,ts⟩:=cl;simp only at h1 h2 h3;obtain rfl:args = #[x,y]:=by grind
 obtain rfl:ts = #[t,u]:=by grind
 subst h1;simp [execOp,ho,resolve,invoke,builtin,h]
theorem tP {cl:Call} {x y:Operand} (ho:o.op = .call cl) (h2:cl.args.toList=[x,y]):x∈o.op.operands/\y∈o.op.operands:=by
 have : cl.args = #[x,y]:=by
  cases hc:cl.args with
  | mk l=>simp_all
 rw [ho];simp [Op.operands,Call.operands,this]
theorem BM {cl:Call} {x y:Operand} {t u e:TypeId} {b ver s off len:Nat} {k:ABlk} {news:List (List AV)} {H:AH} (ho:o.op = .call cl) (h1:cl.callee = .builtin .append) (h2:cl.args.toList=[x,y]) (h3:cl.argTypes.toList=[t,u])
  (ht:P.underlying t=QZ (.slice e)) (hu:(∃ e2,P.underlying u=QZ (.slice e2))\/P.underlying u=QZ .string) (hx:ρ x = .hs b ver s off len) (hb:H[b]? = QZ (QZ k)) (hv:k.ver=ver) (hs:k.s=s) (hse:s=P.cellsOf e) (hlen:off+len<=k.rows.length)
  (hty:k.ty=e) (hz:(((P.info? e).bind (·.zero)).map λz=>z.cells.size)=QZ (P.cellsOf e)) (hb1:(len+news.length)*P.bytesOf e<=35184372088832) (hb2:len+news.length<=35184372088832)
  (hsrc:∀ (c:Cx) (v:Value),c.H=H->HRel c->c.rel (ρ y) v->∃ vs,SrcIs P c (P.cellsOf e) v news vs) :
  QC P o ρ H (.hs b (ver+1) s 0<|len+news.length) (H.set b<|QZ ⟨ver+1,s,k.ty,(k.rows.drop off).take len++news⟩):=by
 intro c a K Q hH hr hxs hK;obtain ⟨ox,oy⟩:=tP ho h2;have hx1:=hx ▸ hxs x ox;obtain ⟨vs,hvs⟩:=hsrc c _ hH hr<|hxs y oy;obtain ⟨hvl,hv1,_⟩:=hvs.is
 cases hi:P.info? e with
 | none=>simp_all
 | some i=>
  rw [hi] at hz;simp only [RX] at hz;obtain ⟨z,hz,hzs⟩:=RY.1 hz;have hby:P.bytesOf e=i.bytes:=by simp [Program.bytesOf,hi]
  have hce:P.cellsOf e=i.size:=by simp [Program.cellsOf,hi]
  have hl:c.live b k:=by unfold Cx.live;rw [hH];exact hb
  obtain ⟨cur,fr,hB⟩:=hr.blk b k hl;have hpos:0<s:=hs ▸ hB.pos;have hfits:=hB.fits;rw [hs] at hfits;generalize hux:a.eval x=ux at hx1
  cases hx1 with
  | fr h=>cases h
  | @hs _ _ _ _ _ cap A hbn hcl hcm h0' hh=>
   obtain ⟨fr,rfl,hat,hd⟩:=hB.cells hl λx hx=>(hh x<|hv ▸ hx).1.trans hs.symm;rw [hv] at hd;obtain ⟨_,_,hA,hcf⟩:=hh _ hd;simp only at hA hcf;have holdr:∀ (q:Nat) (r:List AV),((k.rows.drop off).take len)[q]? = QZ r->q<len/\k.rows[off+q]? = QZ r:=λq r hq=>by
    grind
   have hol:((k.rows.drop off).take len).length=len:=by simp;omega
   have hrl:∀ (q:Nat) (row:List AV),((k.rows.drop off).take len++news)[q]? = QZ row->row.length=s:=λq row hq=>by
    rcases RI q len with hlt | hge
    ·rw [gal (by omega)] at hq;rw [hB.len _ row (holdr q row hq).2,hs]
    rw [gar (by omega)] at hq;rw [hvs.rows _ row hq,hse]
   unfold Oper.wp
   by_cases hroom:len+news.length<=cap
   ·-- there is room
    have hst:∃ cs2:Array Value,cs2.size=cur.size/\(A=Q0->c.w.setRow (c.φ b).1 cs2=c.w)/\(∀ ad,A=QZ ad->(storeCells (ad.add<|len*i.size) vs.toArray.toList).run P c.w = .ok () (c.w.setRow (c.φ b).1 cs2)) /\
      ∀ q,cs2[q]? = if (c.φ b).2+off*s+len*s<=q/\q<(c.φ b).2+off*s+len*s+vs.length then vs[q-((c.φ b).2+off*s+len*s)]? else cur[q]? := by
     rcases Nat.eq_zero_or_pos cap with h0 | h0
     ·have hv0:vs=[]:=List.eq_nil_of_length_eq_zero (by simp_all);subst hv0;have hsf:=setRow_self c.w _ cur k.ty fr hat;refine ⟨cur,rfl,λ_=>hsf,λad _=>?_,λq=>by grind⟩;rw [hsf]
      rfl
     obtain rfl:=hA h0;have hle:(c.φ b).2+off*s+len*s+vs.length<=cur.toList.length:=by
      have h5:(len+news.length)*s<=cap*s:=RN _ hroom;rw [RF] at h5;have hct:cur.toList.length=cur.size:=RZ;rw [hvl,hct,<- hse];omega
     have hst:=mO (P:=P) (c.φ b).1 ((c.φ b).2+off*s+len*s) k.ty fr vs 0 cur c.w hat (hB.fre fr rfl) (by simpa using hle) hv1;rw [Nat.add_zero] at hst;have hg2:=λq=>IP cur.toList _ _ hle q;have hs2:=GG cur.toList _ _ hle;generalize cur.toList.take ((c.φ b).2+off*s+len*s)++vs++cur.toList.drop ((c.φ b).2+off*s+len*s+vs.length)=ls at *;refine ⟨ls.toArray,by simpa using hs2,λh=>(by cases h),λad had=>?_,λq=>?_⟩
     ·injection had with had;subst had;simp only [add0,<- hce,<- hse];exact hst
     simp_all
    obtain ⟨cs2,hsz2,hrn,hrunst,hget⟩:=hst;have hrun:=xZ (ty:=o.type) ht hu hi (A:=A) (n:=len) (cap:=cap) (m:=news.length) (x:=a.eval y) (news:=vs.toArray) (hvs.len c.w) (by rw [<- hce];exact hvs.cells c.w rfl) hroom hrn hrunst;rw [qf ho h1 h2 h3 (by rw [hux];exact hrun)];have hext:=Cx.upd_ext (k:=⟨ver+1,s,k.ty,(k.rows.drop off).take len++news⟩) (o:=(c.φ b).2+off*s) (cs:=cs2) hr hl hB hsz2<|.inr (by simp_all);have htot:off*s+(len+news.length)*s<=off*s+cap*s:=Nat.add_le_add_left (RN _ hroom) _;have hnl:((k.rows.drop off).take len++news).length=len+news.length:=by simp_all
    have hfit2:(c.φ b).2+off*s+((k.rows.drop off).take len++news).length*s<=cs2.size:=by
     rw [hnl,hsz2];omega
    have hrel:=Cx.upd_rel (k:=⟨ver+1,s,k.ty,(k.rows.drop off).take len++news⟩) (o:=(c.φ b).2+off*s) (cs:=cs2) hr hl hB hsz2 rfl hext hpos hfit2 hrl (λq row j a' hq hj=>by
      simp only at hq ⊢;have hj1:j<s:=by
       have := (ges hj).1;rw [hrl q row hq] at this;exact this
      rcases RI q len with hlt | hge
      ·rw [gal (by omega)] at hq;obtain ⟨u',g1,g2,g3⟩:=hB.rel _ row j a' (holdr q row hq).2 hj;have := Be (s:=s) hlt (j:=j+1) hj1;refine ⟨u',?_,g2,g3⟩;rw [hget,if_neg (by omega),<- g1,hs,RF]
       grind
      rw [gar (by omega),hol] at hq;obtain ⟨u',g1,g2,g3⟩:=hvs.is.get hq hj;have hq2:q-len<news.length:=(ges hq).1;have := Be (s:=s) hq2 (j:=j+1) hj1;have e:q*s=(q-len)*s+len*s:=by
       rw [<- RF]
       congr 1
       omega
      rw [<- hse] at g1 hvl;refine ⟨u',?_,g2,g3⟩;rw [hget,if_pos (by omega),<- g1]
      congr 1
      omega)
    refine hK _ _ (by rw [<- hH];rfl) hrel hext ?_;have hlv:=Cx.upd_live_self (k:=⟨ver+1,s,k.ty,(k.rows.drop off).take len++news⟩) (p:=((c.φ b).1,(c.φ b).2+off*s)) (cs:=cs2) hl;exact NV (k:=⟨ver+1,s,k.ty,(k.rows.drop off).take len++news⟩) hlv (cs:=cs2) (t:=k.ty) (fr:=fr) (by
      rw [Cx.upd_φ_self];exact setRow_heap c.w (c.φ b).1 cur cs2 k.ty fr hat) (by simp_all) hroom hcm (λh=>by rw [Cx.upd_φ_self];grind) (by rw [Cx.upd_φ_self,hsz2];omega)
   -- it moves
   have hroom':cap<len+news.length:=by omega
   have hold:GH c (c.φ b).1 ((c.φ b).2+off*s) s ((k.rows.drop off).take len):=by
    refine ⟨λq r hq=>by rw [hB.len _ r (holdr q r hq).2,hs],λq r j a' hq hj=>?_⟩;obtain ⟨u',g1,g2,g3⟩:=hB.rel _ r j a' (holdr q r hq).2 hj;refine ⟨u',?_,g2,g3⟩;rw [cell_of_row c.w _ _ cur k.ty fr hat,<- g1,hs,RF]
    congr 1
    omega
   obtain ⟨ovs,ho1⟩:=xY (P:=P) (cap:=cap) (A:=A) hol (λh=>hA<|by omega) hold;obtain ⟨hovl,hov1,_⟩:=ho1.is;have hfo:=ho1.cells c.w.drew rfl;rw [hol,hse,hce] at hfo;have hfn:=hvs.cells c.w.drew rfl;rw [hce] at hfn;obtain ⟨nc,hnc1,hnc2,hrun⟩:=rL (ty:=o.type) ht hu hi hz (hvs.len c.w) hfo hfn hroom' hb2 (by rw [<- hby];exact hb1);rw [qf ho h1 h2 h3 (by rw [hux];exact hrun)];generalize hcs3:ovs.toArray++vs.toArray++Builtin.zeroCells z.cells (nc-(len+news.length))=cs3;have hovs:ovs.length=len*s:=by rw [hovl,hol]
   have hvss:vs.length=news.length*s:=by rw [hvl,hse]
   have hdr:=Cx.drew_rel hr;have hld:c.drew.live b k:=hl;have hlt:k.ver<ver+1:=by rw [hv];exact Nat.lt_succ_self _
   have hnl:((k.rows.drop off).take len++news).length=len+news.length:=by rw [lla,hol]
   have hget3:∀ q u',(ovs++vs)[q]? = QZ u'->cs3[q]? = QZ u':=λq u' hq=>by
    have hq2:=(ges hq).1;rw [<- hcs3,RO (by simpa using hq2)];simpa using hq
   have hsz3:len*s+news.length*s<=cs3.size:=by
    rw [<- hcs3];simp only [RP,RQ];omega
   have hext:=Cx.mov_ext (k:=⟨ver+1,s,k.ty,(k.rows.drop off).take len++news⟩) (cs:=cs3) hdr hld hlt;have hrel:=Cx.mov_rel (k:=⟨ver+1,s,k.ty,(k.rows.drop off).take len++news⟩) (cs:=cs3) hdr hld hlt hpos (by simp only;rw [hnl,RF];exact hsz3) hrl (λq row j a' hq hj=>by
     simp only at hq ⊢;rcases RI q len with hlt | hge
     ·rw [gal (by omega)] at hq;obtain ⟨u',g1,g2,g3⟩:=ho1.is.get hq hj;have g4:=(ges g1).1;exact ⟨u',hget3 _ _ (by rw [gal g4];exact g1),g2,g3.ext hr c.drew_ext⟩
     rw [gar (by omega),hol] at hq;obtain ⟨u',g1,g2,g3⟩:=hvs.is.get hq hj;have e:q*s=(q-len)*s+len*s:=by
      rw [<- RF]
      congr 1
      omega
     rw [<- hse] at g1;refine ⟨u',hget3 _ _ ?_,g2,g3.ext hr c.drew_ext⟩;rw [gar (by omega),<- g1]
     congr 1
     omega)
   have hty2:(c.drew.mov b ⟨ver+1,s,k.ty,(k.rows.drop off).take len++news⟩ cs3).w=c.w.drew.alloc (.cells cs3 e):=by
    show c.w.drew.alloc (.cells cs3 k.ty)=_;rw [hty]
   rw [<- hty2];refine hK _ _ (by rw [<- hH];rfl) hrel (c.drew_ext.trans hext) ?_;have hlv:=Cx.mov_live_self (k:=⟨ver+1,s,k.ty,(k.rows.drop off).take len++news⟩) (cs:=cs3) hld;refine NV (k:=⟨ver+1,s,k.ty,(k.rows.drop off).take len++news⟩) hlv (cs:=cs3) (t:=k.ty) (fr:=(0,0)) (by
     rw [Cx.mov_φ_self];exact heap_alloc_new _ _) (by simp only;omega) hnc1 hnc2 (λ_=>by rw [Cx.mov_φ_self];rfl) ?_
   rw [Cx.mov_φ_self,<- hcs3];simp only [RP,RQ,qd,hovs,hvss,hzs,<- hse];rw [<- RF,<- RF,RL]
   simp_all
theorem FG {cl:Call} {x y:Operand} {t u e:TypeId} {news:List (List AV)} {H:AH} (ho:o.op = .call cl) (h1:cl.callee = .builtin .append) (h2:cl.args.toList=[x,y]) (h3:cl.argTypes.toList=[t,u])
  (ht:P.underlying t=QZ (.slice e)) (hu:(∃ e2,P.underlying u=QZ (.slice e2))\/P.underlying u=QZ .string) (hx:ρ x = .nil) (hpos:0<P.cellsOf e)
  (hz:(((P.info? e).bind (·.zero)).map λz=>z.cells.size)=QZ (P.cellsOf e)) (hb1:news.length*P.bytesOf e<=35184372088832) (hb2:news.length<=35184372088832) (hn:news.length≠0)
  (hsrc:∀ (c:Cx) (v:Value),c.H=H->HRel c->c.rel (ρ y) v->∃ vs,SrcIs P c (P.cellsOf e) v news vs) :
  QC P o ρ H (.hs H.length 0 (P.cellsOf e) 0 news.length) (H++[QZ ⟨0,P.cellsOf e,e,news⟩]):=by
 intro c a K Q hH hr hxs hK;obtain ⟨ox,oy⟩:=tP ho h2;have hx1:=eX<|hx ▸ hxs x ox;obtain ⟨vs,hvs⟩:=hsrc c _ hH hr<|hxs y oy;obtain ⟨hvl,hv1,_⟩:=hvs.is
 cases hi:P.info? e with
 | none=>simp_all
 | some i=>
  rw [hi] at hz;simp only [RX] at hz;obtain ⟨z,hz,hzs⟩:=RY.1 hz;have hby:P.bytesOf e=i.bytes:=by simp [Program.bytesOf,hi]
  have hce:P.cellsOf e=i.size:=by simp [Program.cellsOf,hi]
  have hfn:=hvs.cells c.w.drew rfl;rw [hce] at hfn;have hfo:(Builtin.firstCells i.size 0<|.slice Q0 0 0).run P c.w.drew = .ok #[] c.w.drew:=by simp [Builtin.firstCells]
  obtain ⟨nc,hnc1,hnc2,hrun⟩:=rL (ty:=o.type) ht hu hi hz (hvs.len c.w) hfo hfn (by omega) (by omega) (by simp_all);unfold Oper.wp;rw [qf ho h1 h2 h3 (by rw [hx1];exact hrun)];generalize hcs3 : #[]++vs.toArray++Builtin.zeroCells z.cells (nc-(0+news.length))=cs3;have hdr:=Cx.drew_rel hr;have hsz3:nc*P.cellsOf e<=cs3.size:=by
   rw [<- hcs3];simp only [RP,RQ,qd,hzs,hvl,List.length_nil,RL];rw [<- RF];exact RN _ (by omega)
  have hget3:∀ q u',vs[q]? = QZ u'->cs3[q]? = QZ u':=λq u' hq=>by
   have hq2:=(ges hq).1;rw [<- hcs3,RO (by simpa using hq2)]
   simp_all
  have hrel:=Cx.new_rel (k:=⟨0,P.cellsOf e,e,news⟩) (cs:=cs3) hdr hpos (by
    grind) (λq row hq=>hvs.rows q row hq) (λq row j a' hq hj=>by
    obtain ⟨u',g1,g2,g3⟩:=hvs.is.get hq hj;exact ⟨u',hget3 _ _ g1,g2,g3.ext hr c.drew_ext⟩)
  have hh:=Cx.new_hs c.drew ⟨0,P.cellsOf e,e,news⟩ cs3 (n:=news.length) (cap:=nc) (RE _) (by omega) hnc2 hsz3;rw [RL];have := hK _ (c.drew.new ⟨0,P.cellsOf e,e,news⟩ cs3) (by rw [<- hH];rfl) hrel (c.drew_ext.trans<|Cx.new_ext hdr _ _) (by rw [<- hH];exact hh);exact this
theorem z6 {cl:Call} {x y:Operand} {t u e:TypeId} {news:List (List AV)} {H:AH} (ho:o.op = .call cl) (h1:cl.callee = .builtin .append) (h2:cl.args.toList=[x,y]) (h3:cl.argTypes.toList=[t,u])
  (ht:P.underlying t=QZ (.slice e)) (hu:(∃ e2,P.underlying u=QZ (.slice e2))\/P.underlying u=QZ .string) (hx:ρ x = .nil)
  (hz:(((P.info? e).bind (·.zero)).map λz=>z.cells.size)=QZ (P.cellsOf e)) (hn:news.length=0)
  (hsrc:∀ (c:Cx) (v:Value),c.H=H->HRel c->c.rel (ρ y) v->∃ vs,SrcIs P c (P.cellsOf e) v news vs):QC P o ρ H .nil H:=by
 intro c a K Q hH hr hxs hK;obtain ⟨ox,oy⟩:=tP ho h2;have hx1:=eX<|hx ▸ hxs x ox;obtain ⟨vs,hvs⟩:=hsrc c _ hH hr<|hxs y oy
 cases hi:P.info? e with
 | none=>simp_all
 | some i=>
  have hce:P.cellsOf e=i.size:=by simp [Program.cellsOf,hi]
  have hrun:=xZ (ty:=o.type) ht hu hi (A:=none) (n:=0) (cap:=0) (m:=news.length) (x:=a.eval y) (news:=vs.toArray) (w':=c.w) (hvs.len c.w) (by rw [<- hce];exact hvs.cells c.w rfl) (by omega) (λ_=>rfl) (λad h=>by cases h);unfold Oper.wp;rw [qf ho h1 h2 h3 (by rw [hx1];exact hrun),hn];exact hK _ c hH hr (Ext.refl c)<|.fr .nil
theorem IV {cl:Call} {H:AH} {K:AV->AH->Prop} (ho:o.op = .call cl) (h:IB P ρ cl.callee cl.args.toList cl.argTypes.toList H K):∃ r H',QC P o ρ H r H'/\K r H':=by
 unfold IB at h
 split at h
 ·rename_i x y t u h1 h2 h3
  split at h
  ·rename_i e ht hu;obtain ⟨news,h,hsrc⟩:=IU h;have hu2:(∃ e2,P.underlying u=QZ (.slice e2))\/P.underlying u=QZ .string:=by
    unfold Hm at hu
    split at hu
    ·rename_i e2 h;exact .inl ⟨e2,h⟩
    ·rename_i h;exact .inr h
    cases hu
   split at h
   ·rename_i b ver s off len hx
    split at h
    ·rename_i k hk;obtain ⟨⟨g1,g2,g4,g7,g8⟩,hK⟩:=h;obtain ⟨hk2,hK⟩:=Ck.elim hK;simp only [bae,beq_iff_eq] at hk2;obtain ⟨⟨g3,g5⟩,g6⟩:=hk2;exact ⟨_,_,BM ho h1 h2 h3 ht hu2 hx hk g1 g2 g3 g4 g5 g6 g7 g8 hsrc,hK⟩
    exact h.elim
   ·rename_i hx;obtain ⟨⟨g3,g4⟩,hK⟩:=h;obtain ⟨hk2,hK⟩:=Ck.elim hK;simp only [bae,beq_iff_eq,dte] at hk2;obtain ⟨g1,g2⟩:=hk2;rcases hK.elim with ⟨hb,hK⟩ | ⟨hb,hK⟩
    ·exact ⟨_,_,z6 ho h1 h2 h3 ht hu2 hx g2 (by simpa using hb) hsrc,hK⟩
    exact ⟨_,_,FG ho h1 h2 h3 ht hu2 hx g1 g2 g3 g4 (by simpa using hb) hsrc,hK⟩
   exact h.elim
  simp_all
 obtain ⟨r,hv,hK⟩:=EE ho h;exact ⟨r,H,hv.op H,hK⟩
theorem IW {H:AH} {K:AV->AH->Prop} (h:Fx P ρ o.op H K):∃ r H',QC P o ρ H r H'/\K r H':=by
 unfold Fx at h
 split at h
 case h_1 t ho=>
  split at h
  ·rename_i i hi
   split at h
   ·rename_i z hz;obtain ⟨hk,h⟩:=Ck.elim h;simp only [bae,dte] at hk;exact ⟨_,_,IK ho hi hz hk.1 hk.2,h⟩
   exact h.elim
  simp_all
 case h_2 t x ho=>
  split at h
  ·rename_i cs hc;obtain ⟨hk,h⟩:=Ck.elim h;exact ⟨_,_,Mq ho hc<|of_decide_eq_true hk,h⟩
  simp_all
 case h_3 t n parts ho=>
  split at h
  ·rename_i e ht
   split at h
   ·rename_i rows hrows;obtain ⟨hk,hK⟩:=Ck.elim h;simp only [bae,beq_iff_eq,dte,RG] at hk;obtain ⟨⟨⟨⟨⟨g1,g2⟩,g3⟩,g4⟩,g5⟩,g6⟩:=hk;exact ⟨_,_,CH ho ht hrows g1 g2 g3 g4 g5 g6,hK⟩
   exact h.elim
  simp_all
 case h_4 t l c ho=>
  split at h
  ·rename_i e l' c' ht hl hc
   split at h
   ·rename_i z hz;obtain ⟨⟨g1,g2,g3,g4⟩,hK⟩:=h;obtain ⟨hk,hK⟩:=Ck.elim hK;simp only [bae,beq_iff_eq,dte] at hk;obtain ⟨⟨g5,g6⟩,g7⟩:=hk;exact ⟨_,_,DR ho ht hl hc hz g1 g2 g3 g4 g5 g6 g7,hK⟩
   exact h.elim
  simp_all
 case h_5 t x ho=>
  split at h
  ·rename_i b ver s i j hx
   split at h
   ·rename_i k hk;obtain ⟨⟨g1,g2,g3⟩,hK⟩:=h;obtain ⟨r,hp,hK⟩:=xS hK;exact ⟨_,_,IM ho hx hk g1 g2 g3 hp,hK⟩
   simp_all
  obtain ⟨r,hv,hK⟩:=DL (o:=o) (K:=λr=>K r H) (by rw [ho];exact h);exact ⟨r,H,hv.op H,hK⟩
 case h_6 t x y ho=>
  split at h
  ·rename_i b ver s i j cs hx hy
   split at h
   ·rename_i k hk;obtain ⟨⟨g1,g2,g3,g5⟩,hK⟩:=h;obtain ⟨hk2,hK⟩:=Ck.elim hK;simp only [bae,beq_iff_eq] at hk2;obtain ⟨g4,g6⟩:=hk2;exact ⟨_,_,IR ho hx hy hk g1 g2 g3 g4 g5 g6,sJ.1 hK⟩
   exact h.elim
  simp_all
 case h_7 cl ho=>exact IV ho h
 case h_8=>
  obtain ⟨r,hv,hK⟩:=DL (o:=o) (K:=λr=>K r H) h;exact ⟨r,H,hv.op H,hK⟩
end
def iH (P:Program) (f:FuncId):Bool:=match P.funcs[f]? with
 | some fn => !(fn.name == "runtime.NumGoroutine") && fn.body.isSome
 | none=>QY
def EF (c:Cx) (QV:List AV) (vs:Array Value):Prop:=vs.size=QV.length/\∀ (i:Nat) (a:AV) (v:Value),QV[i]? = QZ a->vs[i]? = QZ v->c.rel a v
def dX (P:Program) (f:FuncId) (QV:List AV) (H:AH) (r:AV) (H':AH):Prop:=
 iH P f=QX/\∀ (c:Cx) (vs:Array Value),c.H=H->HRel c->EF c QV vs->Calls P f vs c.w λe w'=>∃ v c',e = .returned v/\c'.w=w'/\c'.H=H'/\HRel c'/\Ext c c'/\c'.rel r v
def C9 (P:Program) (f:FuncId) (QV:List AV) (H:AH) (K:AV->AH->Prop):Prop:=∃ r H',dX P f QV H r H'/\K r H'
def Hv (P:Program) (f:FuncId) (QV:List AV) (K:AV->Prop):Prop:=∃ r,(∀ H,dX P f QV H r H)/\K r
def aop (P:Program) (ρ:Operand->AV) (op:Op) (H:AH) (K:AV->AH->Prop):Prop:=match op with
 | .call c=>(match c.callee with
  | .value f=>(match ρ f with
   | .fn (.func g) p6=>C9 P g (c.args.toList.map ρ++p6) H K
   | _=>False)
  | _=>Fx P ρ (.call c) H K)
 | op=>Fx P ρ op H K
def NE (P:Program) (ρ:Operand->AV) (op:Op) (K:AV->Prop):Prop:=match op with
 | .call c=>(match c.callee with
  | .value f=>(match ρ f with
   | .fn (.func g) p6=>Hv P g (c.args.toList.map ρ++p6) K
   | _=>False)
  | _=>xI P ρ (.call c) K)
 | op=>xI P ρ op K
section
variable {P:Program} {o:Oper} {ρ:Operand->AV}
theorem vk {f:FuncId} (h:iH P f=QX) (vs:Array Value) (w:World):(callFunc f vs).run P w = .ok (.enter f vs) w:=by
 unfold iH at h
 split at h
 ·rename_i fn hf;simp only [bae,Bool.not_eq_true'] at h;obtain ⟨h1,h2⟩:=h;have h3:fn.body≠Q0:=λhb=>by rw [hb] at h2;cases h2
  have h1' : fn.name ≠ "runtime.NumGoroutine" := by simpa using h1
  simp [callFunc,program,hf,h1',h3,Sem.run]
 grind
theorem GI {cl:Call} {f:Operand} {g:FuncId} {p6:List AV} {H H':AH} {r:AV} (ho:o.op = .call cl) (hc:cl.callee = .value f) (hf:ρ f = .fn (.func g) p6) (h:dX P g (cl.args.toList.map ρ++p6) H r H'):QC P o ρ H r H':=by
 intro c a K Q hH hr hxs hK;have hf1:=hf ▸ hxs f (by rw [ho];simp [Op.operands,Call.operands,hc]);obtain ⟨vs,he,hl,hrel⟩:=Bx hf1;have hargs:EF c (cl.args.toList.map ρ++p6) (cl.args.map a.eval++vs):=by
  refine ⟨by simp [hl],λi q v hq hv=>?_⟩;rcases RI i cl.args.size with hlt | hge
  ·rw [gal (by simpa using hlt),RR,R5,RS hlt] at hq;rw [RO (by simpa using hlt),Array.getElem?_map,RS hlt] at hv;simp only [Option.map_some,sie] at hq hv;subst hq hv;refine hxs _ ?_;rw [ho];simp [Op.operands,Call.operands]
  rw [gar (by simpa using hge)] at hq;rw [Array.getElem?_append_right (by simpa using hge)] at hv;simp only [llm,RZ,Array.size_map] at hq hv;exact hrel _ q v hq hv
 have hrun:(execOp a.eval o).run P c.w = .ok (.enter g<|cl.args.map a.eval++vs) c.w:=by
  rw [execOp,ho];simp only [resolve,hc,he,Deferred.ofValue,Sem.run_bind,Sem.run_pure,Result.andThen_ok,invoke];have := vk h.1 (cl.args.map a.eval++vs) c.w;simpa using this
 unfold Oper.wp;rw [hrun,Oper.upon_enter];refine (h.2 c _ hH hr hargs).mono λe w' ⟨v,c',he,hw,hH',hr',hx,hv⟩ => ?_
 grind
theorem NW {H:AH} {K:AV->AH->Prop} (h:aop P ρ o.op H K):∃ r H',QC P o ρ H r H'/\K r H':=by
 unfold aop at h
 split at h
 ·rename_i cl ho
  split at h
  ·rename_i f hc
   split at h
   ·rename_i g p6 hf;obtain ⟨r,H',h1,h2⟩:=h;exact ⟨r,H',GI ho hc hf h1,h2⟩
   simp_all
  exact IW (by simp_all)
 exact IW h
theorem Mr {K:AV->Prop} (h:NE P ρ o.op K):∃ r,(∀ H,QC P o ρ H r H)/\K r:=by
 unfold NE at h
 split at h
 ·rename_i cl ho
  split at h
  ·rename_i f hc
   split at h
   ·rename_i g p6 hf;obtain ⟨r,h1,h2⟩:=h;exact ⟨r,λH=>GI ho hc hf<|h1 H,h2⟩
   simp_all
  obtain ⟨r,h1,h2⟩:=DL (o:=o) (K:=K) (by rw [ho];exact h);exact ⟨r,λH=>h1.op H,h2⟩
 obtain ⟨r,h1,h2⟩:=DL h;exact ⟨r,λH=>h1.op H,h2⟩
theorem QC.congr {ρ':Operand->AV} {H H':AH} {r:AV} (h:QC P o ρ H r H') (he:∀ x∈o.op.operands,ρ x=ρ' x):QC P o ρ' H r H':=
 λc a K Q hH hr hxs hK=>h c a K Q hH hr (λx hx=>by simp_all) hK
def Hw (P:Program) (k:Nat) (o:Oper) (ρ:Operand->AV) (H:AH) (r:AV) (H':AH):Prop:=
 (k=0/\H'=H/\∀ G,QC P o ρ G r G)\/(k=1/\H'=H/\QC P o ρ H r H)\/(k=2/\QC P o ρ H r H')
theorem Hw.op {k:Nat} {H H':AH} {r:AV} (h:Hw P k o ρ H r H'):QC P o ρ H r H':=by
 rcases h with ⟨_,rfl,h⟩ | ⟨_,rfl,h⟩ | ⟨_,h⟩
 ·exact h _
 ·exact h
 omega
theorem Hw.congr {ρ':Operand->AV} {k:Nat} {H H':AH} {r:AV} (h:Hw P k o ρ H r H') (he:∀ x∈o.op.operands,ρ x=ρ' x):Hw P k o ρ' H r H':=by
 rcases h with ⟨h1,h2,h⟩ | ⟨h1,h2,h⟩ | ⟨h1,h⟩
 ·exact .inl ⟨h1,h2,λG=>(h G).congr he⟩
 ·exact .inr<|.inl ⟨h1,h2,h.congr he⟩
 exact .inr<|.inr ⟨h1,h.congr he⟩
def NY (a b:Nat):Bool:=a==0||b==0||(a<=1&&b<=1)
theorem KN {e:Env} {d:Option Tmp} {r:AV} {x:Operand} (h:∀ t,d=QZ t->x ≠ .tmp t):rho (sI e d r) x=rho e x:=by
 cases d with
 | none=>rfl
 | some d=>
  cases x with
  | tmp t=>
   have : t≠d:=λhe=>h d rfl<|he ▸ rfl;simp [rho,xK,this]
  | _=>rfl
theorem sM {ops:Array Oper} {e:Env} {oi oj:Oper} {r:AV} (h:∀ d,oi.dst=QZ d->d∉oj.looksAt ops):∀ x∈oj.op.operands,rho (sI e oi.dst r) x=rho e x:=by
 intro x hx;refine KN λt ht hxt=>h t ht ?_;subst hxt;exact List.mem_append_left _<|List.mem_filterMap.2 ⟨.tmp t,by simp_all,rfl⟩
theorem yc {e:Env} {x y:Option Tmp} {r q:AV} (h:∀ d,x=QZ d->y≠QZ d):sI (sI e x r) y q=sI (sI e y q) x r:=by
 cases x with
 | none=>rfl
 | some d=>
  cases y with
  | none=>rfl
  | some d'=>
   have hne:d≠d':=λhe=>h d rfl<|he ▸ rfl
   funext t
   simp only [xK]
   grind
end
theorem C9.intro {P:Program} {f:FuncId} {QV:List AV} {H H':AH} {r:AV} {K:AV->AH->Prop} (h:dX P f QV H r H') (k:K r H'):C9 P f QV H K:=⟨r,H',h,k⟩
theorem Hv.intro {P:Program} {f:FuncId} {QV:List AV} {r:AV} {K:AV->Prop} (h:∀ H,dX P f QV H r H) (k:K r):Hv P f QV K:=⟨r,h,k⟩
attribute [irreducible] C9 Hv
def dL (all:List Oper) (e:Env) (j:Nat):AV:=match (all[j]?).bind (·.dst) with
 | some d=>e d
 | none => .top
def Da (P:Program) (cls:Nat->Nat):Nat->List Oper->(Env->AH->Prop)->Env->AH->Prop
 | _,[],K,e,H=>K e H
 | k,o::rest,K,e,H=>match cls k with
  | 0=>NE P (rho e) o.op λr=>Da P cls (k+1) rest K (sI e o.dst r) H
  | 1=>aop P (rho e) o.op H λr H'=>H'=H/\Da P cls (k+1) rest K (sI e o.dst r) H
  | 2=>aop P (rho e) o.op H λr H'=>Da P cls (k+1) rest K (sI e o.dst r) H'
  | _=>False
def Ms (ops:Array Oper) (cls:Nat->Nat):Bool:=
 Region.lexB .any ops&&ops.all (λo=>o.guard.isNone) &&
 (List.range ops.size).all λi=>(List.range ops.size).all λj=>Q3 (j<=i)||NY (cls i) (cls j)||match ops[j]? with
  | some oj=>oj.after.any λed=>Region.binds .any ed&&ed.on==i
  | none=>QX
def EG (P:Program) (ops:Array Oper) (K:Env->AH->Prop) (e:Env) (H:AH):Prop:=P.follows .mixedOrders=QX/\∃ cls,Ms ops cls=QX/\Da P cls 0 ops.toList K e H
section
variable {P:Program}
def Mt:Exit->Prop
 | .normal | .exit _ | .ret=>True
 | _=>False
def NF (nt:Nat) (c:Cx) (Q:Exit->Env->AH->Prop):Exit->Act->World->Prop:=λx a w=>Mt x/\∃ c' e,c'.w=w/\Ext c c'/\SRel c' nt e a/\Q x e c'.H
def Hy (nt:Nat) (ops:List Oper):Bool:=ops.all λo=>match o.dst with
 | some d=>Q3 (d<nt)
 | none=>QX
theorem nR {nt:Nat} {ops:List Oper} (h:Hy nt ops=QX) {o:Oper} (ho:o∈ops):∀ t,o.dst=QZ t->t<nt:=λt ht=>by
 have := RG.1 h o ho
 simp_all
end
theorem EG.intro {P:Program} {ops:Array Oper} {K:Env->AH->Prop} {e:Env} {H:AH} (h:P.follows .mixedOrders=QX/\∃ cls,Ms ops cls=QX/\Da P cls 0 ops.toList K e H):EG P ops K e H:=h
attribute [irreducible] EG
inductive Fz (m:Nat) (H:AH):AV->AV->Prop
 | v {x:Value}:Fz m H (.v x) (.v x)
 | nil:Fz m H .nil .nil
 | nil0 {row:Nat->List AV}:Fz m H .nil (.sl 0 row)
 | eqv {a r r':AV} (h:Fz m H a r) (he:∀ (w:World) (fz:Nat->Prop) (v:Value),FRel w fz r v->FRel w fz r' v):Fz m H a r'
 | sl {n:Nat} {row row':Nat->List AV} (h:∀ i,i<n->row i=row' i):Fz m H (.sl n row) (.sl n row')
 | fp {row:List AV} {j:Nat}:Fz m H (.fp row j) (.fp row j)
 | agg {cs ds:List AV} (hl:cs.length=ds.length) (h:∀ (i:Nat) (c d:AV),cs[i]? = QZ c->ds[i]? = QZ d->Fz m H c d):Fz m H (.agg cs) (.agg ds)
 | tup {cs ds:List AV} (hl:cs.length=ds.length) (h:∀ (i:Nat) (c d:AV),cs[i]? = QZ c->ds[i]? = QZ d->Fz m H c d):Fz m H (.tup cs) (.tup ds)
 | ifc {t:TypeId} {x y:AV} (h:Fz m H x y):Fz m H (.ifc t x) (.ifc t y)
 | fn {f:Fn} {cs ds:List AV} (hl:cs.length=ds.length) (h:∀ (i:Nat) (c d:AV),cs[i]? = QZ c->ds[i]? = QZ d->Fz m H c d):Fz m H (.fn f cs) (.fn f ds)
 | hs {b ver s off len:Nat} {k:ABlk} {row':Nat->List AV} (hm:m<=b) (hk:H[b]? = QZ (QZ k)) (hv:k.ver=ver) (hks:k.s=s) (hn:off+len<=k.rows.length)
   (hl:∀ (i:Nat) (r:List AV),i<len->k.rows[off+i]? = QZ r->r.length=(row' i).length)
   (h:∀ (i:Nat) (r:List AV) (j:Nat) (c d:AV),i<len->k.rows[off+i]? = QZ r->r[j]? = QZ c->(row' i)[j]? = QZ d->Fz m H c d):Fz m H (.hs b ver s off len) (.sl len row')
 | hp {b ver s i j:Nat} {k:ABlk} {r row':List AV} (hm:m<=b) (hk:H[b]? = QZ (QZ k)) (hv:k.ver=ver) (hks:k.s=s) (hi:k.rows[i]? = QZ r) (hl:r.length=row'.length)
   (h:∀ (j:Nat) (c d:AV),r[j]? = QZ c->row'[j]? = QZ d->Fz m H c d):Fz m H (.hp b ver s i j) (.fp row' j)
def Cx.all (c:Cx) (m g:Nat):Prop:=c.fz g\/∃ b k,m<=b/\c.live b k/\(c.φ b).1=g
theorem Cx.all_lt {c:Cx} {m:Nat} (hr:HRel c) {g:Nat} (h:c.all m g):g<c.w.heap.size:=by
 rcases h with h | ⟨b,k,_,h1,rfl⟩
 ·exact hr.lt g h
 exact hr.live_lt h1
theorem bP {α:Type} {l m:List α} (h:l.length=m.length) {i:Nat} {a:α} (hi:l[i]? = QZ a):∃ b,m[i]? = QZ b:=by
 grind
theorem Fz.sound {m:Nat} {c:Cx} (hr:HRel c) {a r:AV} (h:Fz m c.H a r):∀ v,c.rel a v->FRel c.w (c.all m) r v:=by
 induction h with
 | v=>
  intro u hu;obtain ⟨rfl,hp⟩:=iR hu;exact .v hp
 | nil=>
  intro u hu;obtain rfl:=eX hu;exact .nil
 | eqv _ he ih=>simp_all
 | nil0=>
  intro u hu;obtain rfl:=eX hu;exact .sl (s:=0) (g:=0) (o:=0) (λ_ _=>undef) (RE _) (by omega) (λh=>absurd h<|by omega) (λi hi=>absurd hi<|by omega) (λi j c hi=>absurd hi<|by omega) (λi j c hi=>absurd hi<|by omega) λi j c hi=>absurd hi (by omega)
 | @sl n row row' he=>
  intro u hu;have hf:=(uB hu).mono (w':=c.w) (fz':=c.all m) (RE _) λg hg _=>⟨rfl,.inl hg⟩
  cases hf with
  | @sl _ cap s g o _ a us hc hm ha hs hu2 h1 h=>
   refine .sl (s:=s) (g:=g) (o:=o) us hc hm ha (λi hi=>?_) (λi j a hi hj=>?_) (λi j a hi hj=>?_) λi j a hi hj=>?_
   ·rw [<- he i hi];exact hs i hi
   ·rw [<- he i hi] at hj;exact hu2 i j a hi hj
   ·rw [<- he i hi] at hj;exact h1 i j a hi hj
   simp_all
 | fp=>
  intro u hu;exact (uC hu).mono (RE _) λg hg _=>⟨rfl,.inl hg⟩
 | agg hl _ ih=>
  intro u hu;obtain ⟨vs,rfl,h1,h2,h3⟩:=tK hu;refine .agg (h1.trans hl) h2 λi d u hd hu=>?_
  grind
 | tup hl _ ih=>
  intro u hu;obtain ⟨vs,rfl,h1,h3⟩:=yO hu;refine .tup (h1.trans hl) λi d u hd hu=>?_
  grind
 | ifc _ ih=>
  intro u hu;obtain ⟨y,rfl,h⟩:=yP hu;exact .ifc<|ih y h
 | fn hl _ ih=>
  intro u hu;obtain ⟨vs,rfl,h1,h3⟩:=Bx hu;refine .fn (h1.trans hl) λi d u hd hu=>?_
  grind
 | @hs b ver s off len k row' hmb hk hv hks hn hl _ ih=>
  intro u hu;have hlv:c.live b k:=hk;obtain ⟨cs,fr,hB⟩:=hr.blk b k hlv
  cases hu with
  | fr h=>cases h
  | @hs _ _ _ _ _ cap A hb hc hm h0 hh=>
   obtain ⟨fr,rfl,hat,hd⟩:=hB.cells hlv λx hx=>(hh x<|hv ▸ hx).1.trans hks.symm;rw [hv] at hd;obtain ⟨hs',_,hA,_⟩:=hh _ hd;have hrow:∀ i,i<len->∃ r,k.rows[off+i]? = QZ r:=λi hi=>⟨_,geq<|by omega⟩;refine .sl (g:=(c.φ b).1) (o:=(c.φ b).2+off*s) (s:=s) (λi j=>(cs[(c.φ b).2+(off+i)*s+j]?).getD undef) hc hm (λhn=>⟨hA (by omega),.inr ⟨b,k,hmb,hlv,rfl⟩,hr.live_lt hlv⟩) (λi hi=>?_) (λi j d hi hj=>?_) (λi j d hi hj=>?_) λi j d hi hj=>?_
   ·obtain ⟨r,hr'⟩:=hrow i hi;rw [<- hl i r hi hr',hB.len _ r hr'];exact hs'
   all_goals
    obtain ⟨r,hr'⟩:=hrow i hi;obtain ⟨q,hq⟩:=bP (hl i r hi hr').symm hj;obtain ⟨u,g1,g2,g3⟩:=hB.rel _ r j q hr' hq;have hs2:k.s=s:=hs';rw [hs2] at g1
   ·rw [cell_of_row c.w _ _ cs k.ty fr hat];have e:(c.φ b).2+off*s+i*s+j=(c.φ b).2+(off+i)*s+j:=by rw [RF];omega
    rw [e,g1]
    rfl
   ·rw [g1];exact g2
   grind
 | @hp b ver s i j k r row' hmb hk hv hks hi hl _ ih=>
  intro u hu;have hlv:c.live b k:=hk;obtain ⟨cs,fr,hB⟩:=hr.blk b k hlv
  cases hu with
  | fr h=>cases h
  | hp hb hh=>
   obtain ⟨fr,rfl,hat,hd⟩:=hB.cells hlv λx hx=>(hh x<|hv ▸ hx).1.trans hks.symm;rw [hv] at hd;obtain ⟨hs',rfl⟩:=hh _ hd;have hs2:k.s=s:=hs';refine .fp (g:=(c.φ b).1) (o:=(c.φ b).2+i*s) (λj=>(cs[(c.φ b).2+i*s+j]?).getD undef) (.inr ⟨b,k,hmb,hlv,rfl⟩) (hr.live_lt hlv) (λq d hq=>?_) (λq d hq=>?_) λq d hq=>?_
   all_goals
    obtain ⟨x,hx⟩:=bP hl.symm hq;obtain ⟨u,g1,g2,g3⟩:=hB.rel _ r q x hi hx;rw [hs2] at g1
   ·rw [cell_of_row c.w _ _ cs k.ty fr hat,g1]
    rfl
   ·rw [g1];exact g2
   grind
inductive Stl (m:Nat) (H:AH):AV->AV->Prop
 | fz {a a':AV} (h:Fz m H a a'):Stl m H a a'
 | top {a:AV}:Stl m H a .top
 | agg {cs ds:List AV} (hl:cs.length=ds.length) (h:∀ (i:Nat) (c d:AV),cs[i]? = QZ c->ds[i]? = QZ d->Stl m H c d):Stl m H (.agg cs) (.agg ds)
 | tup {cs ds:List AV} (hl:cs.length=ds.length) (h:∀ (i:Nat) (c d:AV),cs[i]? = QZ c->ds[i]? = QZ d->Stl m H c d):Stl m H (.tup cs) (.tup ds)
 | ifc {t:TypeId} {x y:AV} (h:Stl m H x y):Stl m H (.ifc t x) (.ifc t y)
 | fn {f:Fn} {cs ds:List AV} (hl:cs.length=ds.length) (h:∀ (i:Nat) (c d:AV),cs[i]? = QZ c->ds[i]? = QZ d->Stl m H c d):Stl m H (.fn f cs) (.fn f ds)
 | hs {b ver s off len:Nat} (hb:b<m):Stl m H (.hs b ver s off len) (.hs b ver s off len)
 | hp {b ver s i j:Nat} (hb:b<m):Stl m H (.hp b ver s i j) (.hp b ver s i j)
 | mp {b s:Nat} (hb:b<m):Stl m H (.mp b s) (.mp b s)
def Cx.settle (c:Cx) (m:Nat) (H0:AH):Cx:={ w:=c.w,fz:=c.all m,H:=H0,φ:=c.φ }
structure Stay (m:Nat) (H H0:AH):Prop where
 len:H0.length=m
 le:m<=H.length
 none_:∀ (b:Nat),b<m->H[b]? = QZ Q0->H0[b]? = QZ Q0
 some_:∀ (b:Nat) (k:ABlk),b<m->H[b]? = QZ (QZ k)->∃ k0,H0[b]? = QZ (QZ k0)/\k0.ver=k.ver/\k0.s=k.s/\k0.ty=k.ty/\k0.rows.length=k.rows.length /\
  ∀ (i:Nat) (r r0:List AV),k.rows[i]? = QZ r->k0.rows[i]? = QZ r0->r.length=r0.length/\∀ (j:Nat) (a a0:AV),r[j]? = QZ a->r0[j]? = QZ a0->Stl m H a a0
section
variable {m:Nat} {c:Cx} {H0:AH}
theorem Stay.back (h:Stay m c.H H0) {b:Nat} {k0:ABlk} (hl:(c.settle m H0).live b k0):b<m/\∃ k,c.live b k/\k0.ver=k.ver/\k0.s=k.s/\k0.ty=k.ty/\k0.rows.length=k.rows.length /\
  ∀ (i:Nat) (r r0:List AV),k.rows[i]? = QZ r->k0.rows[i]? = QZ r0->r.length=r0.length/\∀ (j:Nat) (a a0:AV),r[j]? = QZ a->r0[j]? = QZ a0->Stl m c.H a a0:=by
 have hl':H0[b]? = QZ (QZ k0):=hl;have hb:b<m:=by rw [<- h.len];exact (ges hl').1
 have hlt:b<c.H.length:=RJ hb h.le;have hg:=geq hlt;refine ⟨hb,?_⟩
 cases hx:c.H[b] with
 | none=>
  rw [hx] at hg;rw [h.none_ b hb hg] at hl'
  grind
 | some k=>
  rw [hx] at hg;obtain ⟨k1,h1,h2⟩:=h.some_ b k hb hg;rw [h1] at hl';injection hl' with hl';injection hl' with hl';subst hl';exact ⟨k,hg,h2⟩
theorem yd (h:Stay m c.H H0) {b ver:Nat} (hb:b<m):(c.settle m H0).hd b ver=c.hd b ver:=by
 have hlt:b<c.H.length:=RJ hb h.le;have hg:=geq hlt
 cases hx:c.H[b] with
 | none=>
  rw [hx] at hg;have h1:=h.none_ b hb hg;simp only [Cx.hd,Cx.settle,h1,hg]
 | some k=>
  rw [hx] at hg;obtain ⟨k1,h1,h2,h3,h4,h5,_⟩:=h.some_ b k hb hg;have e:hdo k1 (c.φ b)=hdo k (c.φ b):=funext λo=>Ex h3 h5 _ o;simp only [Cx.hd,Cx.settle,h1,hg,h2,e]
theorem tQ (h:Stay m c.H H0) {b ver:Nat} (hb:b<m) (hn:c.born b ver):(c.settle m H0).born b ver:=by
 have hlt:b<c.H.length:=RJ hb h.le;have hg:=geq hlt
 cases hx:c.H[b] with
 | none=>
  rw [hx] at hg;simp only [Cx.born,hg] at hn
 | some k=>
  rw [hx] at hg;obtain ⟨k1,h1,h2,_⟩:=h.some_ b k hb hg;simp only [Cx.born,hg] at hn;simp only [Cx.born,Cx.settle,h1,h2];exact hn
theorem Stl.sound (hr:HRel c) (h:Stay m c.H H0) {a a':AV} (hs:Stl m c.H a a'):∀ v,c.rel a v->(c.settle m H0).rel a' v:=by
 induction hs with
 | fz hz=>exact λv hv => .fr (Fz.sound hr hz v hv)
 | top=>exact λv _ => .top
 | agg hl _ ih=>
  intro u hu;obtain ⟨vs,rfl,h1,h2,h3⟩:=tK hu;refine .agg (h1.trans hl) h2 λi d u hd hu=>?_;obtain ⟨q,hq⟩:=bP hl.symm hd;exact ih i q d hq hd u<|h3 i q u hq hu
 | tup hl _ ih=>
  intro u hu;obtain ⟨vs,rfl,h1,h3⟩:=yO hu;refine .tup (h1.trans hl) λi d u hd hu=>?_;obtain ⟨q,hq⟩:=bP hl.symm hd;exact ih i q d hq hd u<|h3 i q u hq hu
 | ifc _ ih=>
  intro u hu;obtain ⟨y,rfl,h⟩:=yP hu;exact .ifc<|ih y h
 | fn hl _ ih=>
  intro u hu;obtain ⟨vs,rfl,h1,h3⟩:=Bx hu;refine .fn (h1.trans hl) λi d u hd hu=>?_;obtain ⟨q,hq⟩:=bP hl.symm hd;exact ih i q d hq hd u<|h3 i q u hq hu
 | hs hb=>
  intro u hu
  cases hu with
  | fr hf=>cases hf
  | hs hbn hc hm h0 hh=>exact .hs (tQ h hb hbn) hc hm h0 (λx hx=>hh x<|by rw [<- yd h hb];exact hx)
 | hp hb=>
  intro u hu
  cases hu with
  | fr hf=>cases hf
  | hp hbn hh=>exact .hp (tQ h hb hbn) (λx hx=>hh x<|by rw [<- yd h hb];exact hx)
 | mp hb=>
  intro u hu
  cases hu with
  | fr hf=>cases hf
  | mp hbn hh=>exact .mp (tQ h hb hbn) (λx hx=>hh x<|by rw [<- yd h hb];exact hx)
theorem FH (hr:HRel c) (h:Stay m c.H H0):HRel (c.settle m H0) where
 gl:=hr.gl.mono (RE _) λ_ hg _=>⟨rfl,.inl hg⟩
 lt:=λg hg=>Cx.all_lt hr hg
 blk:=λb k0 hl=>by
  obtain ⟨hb,k,h1,h2,h3,h4,h5,h6⟩:=h.back hl;obtain ⟨cs,fr,hB⟩:=hr.blk b k h1;refine ⟨cs,fr,⟨?_,?_,?_,by rw [h3];exact hB.free,?_,λi r0 h8=>?_,λi r0 j a0 h8 h9=>?_⟩⟩
  ·rw [CU h3 h4 h5];exact hB.at_
  ·rintro (hg | ⟨b',k',hm,hl',he⟩)
   ·exact hB.nf hg
   exact hr.inj b' b k' k hl' h1 (by omega) he
  ·rw [h3];exact hB.pos
  ·rw [h3,h5];exact hB.fits
  ·obtain ⟨r,hr1⟩:=bP h5 h8;rw [h3,<- hB.len i r hr1]
   grind
  obtain ⟨r,hr1⟩:=bP h5 h8;obtain ⟨h10,h11⟩:=h6 i r r0 hr1 h8;obtain ⟨a,ha⟩:=bP h10.symm h9;obtain ⟨u,g1,g2,g3⟩:=hB.rel i r j a hr1 ha;exact ⟨u,by rw [h3];exact g1,g2,(h11 j a a0 ha h9).sound hr h u g3⟩
 inj:=λb b' k k' hl hl' hne=>by
  obtain ⟨_,k1,h1,_⟩:=h.back hl;obtain ⟨_,k2,h2,_⟩:=h.back hl';exact hr.inj b b' k1 k2 h1 h2 hne
theorem Hz {c0:Cx} (hx:Ext c0 c) (h:Stay m c.H H0) (hm:c0.H.length<=m):Ext c0 (c.settle m H0) where
 os:=hx.os
 tape:=hx.tape
 output:=hx.output
 size:=hx.size
 keep:=hx.keep
 fz:=λg hg => .inl<|hx.fz g hg
 wN:=λg hg=>by
  rcases hg with hg | ⟨b,k,_,hl,rfl⟩
  ·exact hx.wN g hg
  exact .inr<|hx.iG b k hl
 N:=by
  show _<=H0.length;rw [h.len];exact hm
 born:=λb ver hb=>by
  refine tQ h ?_<|hx.born b ver hb;exact RJ (iz hb) hm
 hd:=λb ver x hb hx'=>by
  refine hx.hd b ver x hb ?_;rw [<- yd h]
  ·omega
  exact RJ (iz hb) hm
 iG:=λb k0 hl=>by
  obtain ⟨_,k,h1,_⟩:=h.back hl;exact hx.iG b k h1
theorem EH {nt:Nat} {e e0:Env} {a:Act} (hs:SRel c nt e a) (h:Stay m c.H H0) (he:∀ t,Stl m c.H (e t)<|e0 t):SRel (c.settle m H0) nt e0 a:=
 ⟨hs.size,hs.defers,λt=>(he t).sound hs.heap h _<|hs.rel t,FH hs.heap h⟩
def dz (base:Nat) (e:Env) (H:AH) (e0:Env) (H0:AH):Prop:=(H0=H/\CV e e0)\/∃ m,base<=m/\Stay m H H0/\∀ t,Stl m H (e t)<|e0 t
theorem dz.state {nt base:Nat} {c0:Cx} {e e0:Env} {a:Act} (hx:Ext c0 c) (hs:SRel c nt e a) (hb:c0.H.length<=base) (h:dz base e c.H e0 H0):∃ c',c'.w=c.w/\Ext c0 c'/\SRel c' nt e0 a/\c'.H=H0:=by
 rcases h with ⟨rfl,hw⟩ | ⟨m,hm,hst,he⟩
 ·exact ⟨c,rfl,hx,hs.weak hw,rfl⟩
 exact ⟨c.settle m H0,rfl,Hz hx hst<|Nat.le_trans hb hm,EH hs hst he,rfl⟩
end
def FI:Nat->Nat->AV->Bool
 | 0,_,_=>QY
 | n+1,m,x=>match x with
  | .v _ | .nil | .sl _ _ | .fp _ _ | .top=>QX
  | .agg cs=>cs.all (FI n m)
  | .tup cs=>cs.all (FI n m)
  | .ifc _ x=>FI n m x
  | .fn _ cs=>cs.all (FI n m)
  | .hs b _ _ _ _=>Nat.blt b m
  | .hp b _ _ _ _=>Nat.blt b m
  | .mp b _=>Nat.blt b m
theorem dY {α:Type} {l:List α} {i:Nat} {c d:α} (h:l[i]? = QZ c) (h':l[i]? = QZ d):c=d/\c∈l:=by
 grind
theorem Stl.low {m:Nat} {H:AH}:∀ (n:Nat) (a:AV),FI n m a=QX->Stl m H a a
 | 0,_,h=>by cases h
 | n+1,a,h=>by
  cases a with
  | v x=>exact .fz .v
  | nil=>exact .fz .nil
  | sl k row=>exact .fz (.sl λ_ _=>rfl)
  | fp row j=>exact .fz .fp
  | top=>exact .top
  | agg cs=>
   simp only [FI,RG] at h;exact .agg rfl (λi c d hc hd=>by obtain ⟨rfl,hm⟩:=dY hc hd;exact Stl.low n _<|h _ hm)
  | tup cs=>
   simp only [FI,RG] at h;exact .tup rfl (λi c d hc hd=>by obtain ⟨rfl,hm⟩:=dY hc hd;exact Stl.low n _<|h _ hm)
  | fn f cs=>
   simp only [FI,RG] at h;exact .fn rfl (λi c d hc hd=>by obtain ⟨rfl,hm⟩:=dY hc hd;exact Stl.low n _<|h _ hm)
  | ifc t x=>
   simp only [FI] at h;exact .ifc<|Stl.low n x h
  | hs b q s o l=>exact .hs (nlb h)
  | hp b q s i j=>exact .hp (nlb h)
  | mp b s=>exact .mp (nlb h)
inductive StayB (m:Nat) (H:AH):Option ABlk->Option ABlk->Prop
 | dead:StayB m H Q0 Q0
 | same {ver s:Nat} {ty:TypeId} {rows CC:List (List AV)} (hl:rows.length=CC.length) (h:∀ (i:Nat) (r r0:List AV),rows[i]? = QZ r->CC[i]? = QZ r0->r.length=r0.length/\∀ (j:Nat) (a a0:AV),r[j]? = QZ a->r0[j]? = QZ a0->Stl m H a a0) :
   StayB m H (QZ ⟨ver,s,ty,rows⟩) (QZ ⟨ver,s,ty,CC⟩)
theorem StayB.keep {m:Nat} {H:AH} {ver s:Nat} {ty:TypeId} {rows:List (List AV)} (h:∀ r∈rows,∀ a∈r,FI 9 m a=QX):StayB m H (QZ ⟨ver,s,ty,rows⟩) (QZ ⟨ver,s,ty,rows⟩):=
 .same rfl λi r r0 hr hr0=>by
  obtain ⟨rfl,hm⟩:=dY hr hr0;exact ⟨rfl,λj a a0 ha ha0=>by
   obtain ⟨rfl,hm2⟩:=dY ha ha0;exact Stl.low 9 _ (h _ hm _ hm2)⟩
inductive StayL (m:Nat) (H:AH):AH->AH->Prop
 | nil {l:AH}:StayL m H l []
 | cons {x y:Option ABlk} {l k:AH} (h:StayB m H x y) (t:StayL m H l k):StayL m H (x::l) (y::k)
theorem StayL.spec {m:Nat} {H l k:AH} (h:StayL m H l k):k.length<=l.length/\∀ b,b<k.length->∃ x y,l[b]? = QZ x/\k[b]? = QZ y/\StayB m H x y:=by
 induction h with
 | nil=>simp_all
 | @cons x y l k h t ih=>
  grind
theorem Stay.of {H H0:AH} (h:StayL H0.length H H H0):Stay H0.length H H0:=by
 obtain ⟨h1,h2⟩:=h.spec;refine ⟨rfl,h1,λb hb hn=>?_,λb k hb hk=>?_⟩
 ·obtain ⟨x,y,h3,h4,h5⟩:=h2 b hb;rw [hn] at h3;injection h3 with h3;subst h3
  cases h5
  exact h4
 obtain ⟨x,y,h3,h4,h5⟩:=h2 b hb;rw [hk] at h3;injection h3 with h3;subst h3
 cases h5 with
 | same hl h=>grind
def EI (f:(Exit->Env->AH->Prop)->Env->AH->Prop) (Q:Exit->Env->AH->Prop) (e:Env) (G:AH):Prop:=
 ∃ I:Nat->Env->AH->Prop,(∃ n e0,CV e e0/\I n e0 G)/\∀ n e H,I n e H->f (λx e' H'=>match x with
  | .normal=>∃ n' e0 H0,n'<n/\dz G.length e' H' e0 H0/\I n' e0 H0
  | x=>Q x e' H') e H
def codeOk (nt:Nat):Code->Bool
 | .seq a b=>codeOk nt a&&codeOk nt b
 | .cond _ a b=>codeOk nt a&&codeOk nt b
 | .block _ a=>codeOk nt a
 | .loop a=>codeOk nt a
 | .region _ ops _=>Hy nt ops.toList
 | _=>QX
section
variable {P:Program}
theorem HE {c:Code} {Q:Exit->Act->World->Prop} (I:Nat->Act->World->Prop) {n:Nat} {a:Act} {w:World} (h0:I n a w) (round:∀ n a w,I n a w->c.wp P (Exit.then (λa' w'=>∃ n',n'<n/\I n' a' w') Q) a w):(Code.loop c).wp P Q a w:=by
 intro b k cs;have key:∀ n a w,I n a w->∃ e a' w',Q e a' w'/\Arrives P (lone (b.at a (.code c :: .inLoop c::k)) cs w) b k cs e a' w':=by
  intro n
  induction n using Nat.strongRecOn with
  | _ n ih=>
   intro a w hI;obtain ⟨e,a₁,w₁,hq,harr⟩:=round n a w hI b (.inLoop c::k) cs
   cases e with
   | normal=>
    obtain ⟨n',hlt,hI₁⟩:=hq;obtain ⟨e₂,a₂,w₂,hq₂,harr₂⟩:=ih n' hlt a₁ w₁ hI₁;exact ⟨e₂,a₂,w₂,hq₂,.of_steps (Steps.trans harr<|.one step_inLoop) harr₂⟩
   | exit id=>exact ⟨_,a₁,w₁,hq,.pass (x:=.inLoop c) rfl (λ_ _ => .inl<|by simp) harr⟩
   | goto l=>exact ⟨_,a₁,w₁,hq,.pass (x:=.inLoop c) rfl (λ_ _ => .inl<|by simp) harr⟩
   | ret=>exact ⟨_,a₁,w₁,hq,.pass (x:=.inLoop c) rfl (λ_ _ => .inl<|by simp) harr⟩
   | panic ch=>exact ⟨_,a₁,w₁,hq,.pass (x:=.inLoop c) rfl (λ_ _ => .inl<|by simp) harr⟩
   | outgrown=>exact ⟨_,a₁,w₁,hq,.pass (x:=.inLoop c) rfl (λ_ _ => .inl<|by simp) harr⟩
 obtain ⟨e,a',w',hq,harr⟩:=key n a w h0;exact ⟨e,a',w',hq,.of_steps (.one step_loop) harr⟩
def KO (QV:List AV):Env:=λt=>QV.getD t .top
def Db (tmps:Array Value) (r:ResultVar):Sem Value:=match r with
 | .tmp t=>pure (tmps.getD t undef)
 | .cell a t=>do loadVar t (<- asAddr (tmps.getD a undef))
def fG (P:Program) (f:FuncId) (QV:List AV) (H:AH) (R:AV->AH->Prop):Prop:=
 iH P f=QX/\∀ (c:Cx) (vs:Array Value),c.H=H->HRel c->EF c QV vs->Calls P f vs c.w λe w'=>∃ v c' r,e = .returned v/\c'.w=w'/\R r c'.H/\HRel c'/\Ext c c'/\c'.rel r v
theorem fG.acall {f:FuncId} {QV:List AV} {H H':AH} {r:AV} (h:fG P f QV H λr' G=>r'=r/\G=H'):dX P f QV H r H':=by
 refine ⟨h.1,λc vs hH hr hall=>(h.2 c vs hH hr hall).mono λe w' ⟨v,c',r',he,hw,hR,h1,h2,h3⟩ => ?_⟩
 grind
end
theorem EI.intro {f:(Exit->Env->AH->Prop)->Env->AH->Prop} {Q:Exit->Env->AH->Prop} {e:Env} {G:AH} (h:∃ I:Nat->Env->AH->Prop,(∃ n e0,CV e e0/\I n e0 G)/\∀ n e H,I n e H->f (λx e' H'=>match x with
 | .normal=>∃ n' e0 H0,n'<n/\dz G.length e' H' e0 H0/\I n' e0 H0
 | x=>Q x e' H') e H):EI f Q e G:=h
attribute [irreducible] EI
theorem Br.yes {b:Bool} {X Y:Prop} (h:b=QX) (x:X):Br b X Y := .intro (λ_=>x) λk=>Br.absT h k
theorem Br.no {b:Bool} {X Y:Prop} (h:b=QY) (y:Y):Br b X Y := .intro (λk=>Br.absT k h) λ_=>y
section
variable {P:Program}
theorem C9.mk {f:FuncId} {QV:List AV} {H H':AH} {r:AV} {K:AV->AH->Prop} (h:dX P f QV H r H') (k:K r H'):C9 P f QV H K := .intro h k
theorem Hv.mk {f:FuncId} {QV:List AV} {r:AV} {K:AV->Prop} (h:∀ H,dX P f QV H r H) (k:K r):Hv P f QV K := .intro h k
theorem EG.mk {ops:Array Oper} {K:Env->AH->Prop} {e:Env} {H:AH} (cls:Nat->Nat) (hm:P.follows .mixedOrders=QX) (hc:Ms ops cls=QX) (h:Da P cls 0 ops.toList K e H):EG P ops K e H := .intro ⟨hm,cls,hc,h⟩
def ai:List (Nat×AV)->Env
 | []=>λ_ => .top
 | p::l=>λt=>bif Nat.beq t p.1 then p.2 else ai l t
theorem Dc (d:Nat) (a:AV) (l:List<|Nat×AV) (t:Nat):(t=d/\ai ((d,a)::l) t=a)\/ai ((d,a)::l) t=ai l t:=by
 show (t=d/\(bif Nat.beq t d then a else ai l t)=a)\/(bif Nat.beq t d then a else ai l t)=ai l t
 cases hb:Nat.beq t d
 ·exact .inr rfl
 simp_all
theorem wkN {e:Env}:CV e (ai []):=λ_ => .inl rfl
theorem QD {e:Env} {t:Nat} {a:AV} {l:List (Nat×AV)} (h:e t=a) (w:CV e<|ai l):CV e (ai ((t,a)::l)):=by
 intro q;rcases Dc t a l q with ⟨rfl,h1⟩ | h1
 ·simp_all
 rw [h1];exact w q
def LH {S:Type} (inv:S->Prop) (slots:S->List (Nat×AV)) (heap:S->AH) (μ:S->Nat) (n:Nat) (e:Env) (H:AH):Prop:=∃ s,inv s/\μ s=n/\e=ai (slots s)/\H=heap s
theorem EI.mk {f:(Exit->Env->AH->Prop)->Env->AH->Prop} {Q:Exit->Env->AH->Prop} {e:Env} {H:AH} {S:Type} (inv:S->Prop) (slots:S->List (Nat×AV)) (heap:S->AH) (μ:S->Nat) (s0:S) (h0:inv s0) (hH:H=heap s0) (hw:CV e<|ai<|slots s0)
  (round:∀ s,inv s->f (λx e' H'=>match x with
   | .normal=>∃ n' e0 H0,n'<μ s/\dz H.length e' H' e0 H0/\LH inv slots heap μ n' e0 H0
   | x=>Q x e' H') (ai (slots s)) (heap s)):EI f Q e H:=by
 refine .intro ⟨LH inv slots heap μ,⟨μ s0,_,hw,s0,h0,rfl,rfl,hH⟩,?_⟩;rintro n e' H' ⟨s,hs,rfl,rfl,rfl⟩
 simp_all
theorem aF {m:Nat} {H:AH} {e:Env}:∀ t,Stl m H (e t) (ai [] t):=λ_ => .top
theorem aj {m:Nat} {H:AH} {e:Env} {t:Nat} {a:AV} {l:List (Nat×AV)} (h:Stl m H (e t) a) (w:∀ q,Stl m H (e q)<|ai l q):∀ q,Stl m H (e q) (ai ((t,a)::l) q):=by
 intro q;rcases Dc t a l q with ⟨rfl,h1⟩ | h1
 ·rw [h1];exact h
 simp_all
end
def ax (P:Program) (f:FuncId) (QV:List AV) (r:AV):Prop:=
 iH P f=QX/\∀ (w:World) (fz:Nat->Prop) (vs:Array Value),(∀ g,fz g->g<w.heap.size)->Gl w fz->vs.size=QV.length->(∀ (i:Nat) (a:AV) (v:Value),QV[i]? = QZ a->vs[i]? = QZ v->FRel w fz a v) ->
  Calls P f vs w λe w'=>∃ v fz',e = .returned v/\Below w.heap.size w w'/\FRel w' fz' r v/\(∀ g,fz g->fz' g)/\(∀ g,fz' g->fz g\/w.heap.size<=g)/\∀ g,fz' g->g<w'.heap.size
section
variable {P:Program} {f:FuncId} {QV:List AV}
theorem ax.of {r:AV} (h:fG P f QV [] λr0 G=>Fz 0 G r0 r):ax P f QV r:=by
 refine ⟨h.1,λw fz vs hlt hgl hl hrel=>?_⟩;have hr:HRel { w:=w,fz:=fz,H:=[],φ:=λ_=>(0,0) }:=⟨hlt,λb k hl=>by simp [Cx.live] at hl,λb b' k k' hl=>by simp [Cx.live] at hl,hgl⟩;refine (h.2 { w:=w,fz:=fz,H:=[],φ:=λ_=>(0,0) } vs rfl hr ⟨hl,λi a v ha hv => .fr<|hrel i a v ha hv⟩).mono λe w' ⟨v,c',r0,he,hw,hz,hr',hx,hv⟩ => ?_;subst he hw;refine ⟨v,c'.all 0,rfl,⟨hx.os,hx.tape,hx.output,hx.size,λg hg=>hx.keep g hg λb k hl=>by simp [Cx.live] at hl⟩,Fz.sound hr' hz v hv,λg hg => .inl<|hx.fz g hg,λg hg=>?_,λg hg=>Cx.all_lt hr' hg⟩;rcases hg with hg | ⟨b,k,_,h1,rfl⟩
 ·rcases hx.wN g hg with h1 | h1 | ⟨b,k,h1,_⟩
  ·simp_all
  ·simp_all
  simp [Cx.live] at h1
 rcases hx.iG b k h1 with h2 | ⟨b0,k0,h2,_⟩
 ·simp_all
 simp [Cx.live] at h2
def isF:Nat->AV->Bool
 | 0,_=>QY
 | n+1,x=>match x with
  | .v _ | .nil | .sl _ _ | .fp _ _=>QX
  | .agg cs=>cs.all (isF n)
  | .tup cs=>cs.all (isF n)
  | .ifc _ x=>isF n x
  | .fn _ cs=>cs.all (isF n)
  | _=>QY
theorem yR {c:Cx}:∀ (n:Nat) (x:AV) (v:Value),isF n x=QX->c.rel x v->FRel c.w c.fz x v
 | 0,_,_,h,_=>by cases h
 | n+1,x,v,h,hr=>by
  cases x with
  | v a=>obtain ⟨rfl,hp⟩:=iR hr;exact .v hp
  | nil=>obtain rfl:=eX hr;exact .nil
  | sl m row=>exact uB hr
  | fp row j=>exact uC hr
  | agg cs=>
   simp only [isF,RG] at h;obtain ⟨vs,rfl,h1,h2,h3⟩:=tK hr;exact .agg h1 h2 λi q u hq hu=>yR n q u (h q<|RH hq)<|h3 i q u hq hu
  | tup cs=>
   simp only [isF,RG] at h;obtain ⟨vs,rfl,h1,h3⟩:=yO hr;exact .tup h1 λi q u hq hu=>yR n q u (h q<|RH hq)<|h3 i q u hq hu
  | ifc t y=>
   simp only [isF] at h;obtain ⟨u,rfl,h1⟩:=yP hr;exact .ifc<|yR n y u h h1
  | fn g cs=>
   simp only [isF,RG] at h;obtain ⟨vs,rfl,h1,h3⟩:=Bx hr;exact .fn h1 λi q u hq hu=>yR n q u (h q<|RH hq)<|h3 i q u hq hu
  | hs b q s o l=>cases h
  | hp b q s i j=>cases h
  | mp b s=>cases h
  | top=>cases h
theorem BN {c:Cx} (hr:HRel c) {w':World} (hb:Below c.w.heap.size c.w w') {fz':Nat->Prop} (h1:∀ g,fz' g->c.all 0 g\/c.w.heap.size<=g) (h2:∀ g,fz' g->g<w'.heap.size) (h3:∀ b k,c.live b k -> ¬ fz' (c.φ b).1) :
  HRel { w:=w',fz:=λg=>c.fz g\/fz' g,H:=c.H,φ:=c.φ }/\Ext c { w:=w',fz:=λg=>c.fz g\/fz' g,H:=c.H,φ:=c.φ }:=by
 have hx:Ext c { w:=w',fz:=λg=>c.fz g\/fz' g,H:=c.H,φ:=c.φ }:=by
  refine ⟨hb.os,hb.tape,hb.output,hb.size,λg hg _=>hb.block g hg,λg hg => .inl hg,λg hg=>?_,RE _,λ_ _ h=>h,λb ver x hbn hx=>?_,λb k hl => .inr ⟨b,k,hl,rfl⟩⟩
  ·rcases hg with hg | hg
   ·simp_all
   rcases h1 g hg with (h | ⟨b,k,_,h,rfl⟩) | h
   ·exact .inl h
   ·exact absurd hg<|h3 b k h
   omega
  obtain ⟨k,hl,rfl,o,hc,hx'⟩:=Cx.hd_some hx;have hl':c.live b k:=hl;have hc':c.w.heap[(c.φ b).1]? = QZ o:=by
   rw [<- hb.block _ (hr.live_lt hl')];exact hc
  exact (Cx.hd_of hl' hc').trans hx'
 refine ⟨⟨λg hg=>?_,λb k hl=>?_,hr.inj,hr.glx hx⟩,hx⟩
 ·rcases hg with hg | hg
  ·exact RJ (hr.lt g hg) hb.size
  simp_all
 have hl':c.live b k:=hl;obtain ⟨cs,fr,hB⟩:=hr.blk b k hl';refine ⟨cs,fr,⟨(hb.block _<|hr.live_lt hl').trans hB.at_,?_,hB.pos,hB.free,hB.fits,hB.len,λi row j a h4 h5=>?_⟩⟩
 ·rintro (h | h)
  ·exact hB.nf h
  grind
 obtain ⟨u,g1,g2,g3⟩:=hB.rel i row j a h4 h5;exact ⟨u,g1,g2,g3.ext hr hx⟩
theorem ax.acall {r:AV} (h:ax P f QV r) (hF:QV.all (isF 9)=QX) (H:AH):dX P f QV H r H:=by
 refine ⟨h.1,λc vs hH hr hall=>?_⟩;obtain ⟨hl,hrel⟩:=hall;refine (h.2 c.w c.fz vs hr.lt hr.gl hl (λi a v ha hv=>yR 9 a v (RG.1 hF a (RH ha)) (hrel i a v ha hv))).mono λe w' ⟨v,fz',he,hb,hv,h1,h2,h3⟩ => ?_;obtain ⟨g1,g2⟩:=BN hr hb (fz':=fz') (λg hg=>(h2 g hg).imp .inl id) h3 (λb k hlv hz=>by
  rcases h2 _ hz with h4 | h4
  ·exact hr.not_fz hlv h4
  have := hr.live_lt hlv;omega)
 exact ⟨v,{ w:=w',fz:=λg=>c.fz g\/fz' g,H:=c.H,φ:=c.φ },he,rfl,hH,g1,g2,.fr<|hv.mono (RE _) λg hg _=>⟨rfl,.inr hg⟩⟩
def dry:Nat->AV->Bool
 | 0,_=>QY
 | n+1,x=>match x with
  | .v _ | .nil=>QX
  | .agg cs=>cs.all (dry n)
  | .tup cs=>cs.all (dry n)
  | _=>QY
theorem DT {w w':World} {fz fz':Nat->Prop}:∀ (n:Nat) (x:AV) (v:Value),dry n x=QX->FRel w fz x v->FRel w' fz' x v
 | 0,_,_,h,_=>by cases h
 | n+1,x,v,h,hr=>by
  cases hr with
  | v hp=>exact .v hp
  | nil=>exact .nil
  | agg h1 h2 h3=>
   simp only [dry,RG] at h;exact .agg h1 h2 λi q u hq hu=>DT n q u (h q<|RH hq)<|h3 i q u hq hu
  | tup h1 h3=>
   simp only [dry,RG] at h;exact .tup h1 λi q u hq hu=>DT n q u (h q<|RH hq)<|h3 i q u hq hu
  | _=>cases h
theorem ax.tmp {r:AV} {as':List AV} (h:ax P f as' r) {H:AH} (hl0:QV.length=as'.length) (hz:∀ (i:Nat) (a a':AV),QV[i]? = QZ a->as'[i]? = QZ a'->Fz 0 H a a') (hd:dry 9 r=QX):dX P f QV H r H:=by
 refine ⟨h.1,λc vs hH hr hall=>?_⟩;obtain ⟨hl,hrel⟩:=hall;refine (h.2 c.w (c.all 0) vs (λg hg=>Cx.all_lt hr hg) (hr.gl.mono (RE _) λ_ hg _=>⟨rfl,.inl hg⟩) (hl.trans hl0) λi a v ha hv=>?_).mono λe w' ⟨v,fz',he,hb,hv,h1,h2,h3⟩ => ?_
 ·obtain ⟨q,hq⟩:=bP hl0.symm ha;exact Fz.sound hr (by grind) v<|hrel i q v hq hv
 obtain ⟨g1,g2⟩:=BN hr hb (fz':=λ_=>False) (λg hg=>hg.elim) (λg hg=>hg.elim) λb k hlv hz=>hz.elim;exact ⟨v,{ w:=w',fz:=λg=>c.fz g\/False,H:=c.H,φ:=c.φ },he,rfl,hH,g1,g2,.fr<|DT 9 r v hd hv⟩
end
inductive Ren (S:Nat->Nat->Prop):AV->AV->Prop
 | v {x:Value}:Ren S (.v x) (.v x)
 | nil:Ren S .nil .nil
 | sl {n:Nat} {row:Nat->List AV}:Ren S (.sl n row) (.sl n row)
 | fp {row:List AV} {j:Nat}:Ren S (.fp row j) (.fp row j)
 | top {a:AV}:Ren S a .top
 | agg {cs ds:List AV} (hl:cs.length=ds.length) (h:∀ (i:Nat) (c d:AV),cs[i]? = QZ c->ds[i]? = QZ d->Ren S c d):Ren S (.agg cs) (.agg ds)
 | tup {cs ds:List AV} (hl:cs.length=ds.length) (h:∀ (i:Nat) (c d:AV),cs[i]? = QZ c->ds[i]? = QZ d->Ren S c d):Ren S (.tup cs) (.tup ds)
 | ifc {t:TypeId} {x y:AV} (h:Ren S x y):Ren S (.ifc t x) (.ifc t y)
 | fn {f:Fn} {cs ds:List AV} (hl:cs.length=ds.length) (h:∀ (i:Nat) (c d:AV),cs[i]? = QZ c->ds[i]? = QZ d->Ren S c d):Ren S (.fn f cs) (.fn f ds)
 | hs {b b' ver s off len:Nat} (hb:S b b'):Ren S (.hs b ver s off len) (.hs b' ver s off len)
 | hp {b b' ver s i j:Nat} (hb:S b b'):Ren S (.hp b ver s i j) (.hp b' ver s i j)
 | mp {b b' s:Nat} (hb:S b b'):Ren S (.mp b s) (.mp b' s)
theorem Ren.rel {S:Nat->Nat->Prop} {c1 c2:Cx} (hs:c1.w.heap.size<=c2.w.heap.size) (hf:∀ g,c1.fz g->g<c1.w.heap.size->c2.w.heap[g]? = c1.w.heap[g]? /\ c2.fz g)
  (hb:∀ b b' ver,S b b'->c1.born b ver->c2.born b' ver) (hh:∀ b b' ver x,S b b'->c1.born b ver->c2.hd b' ver=QZ x->c1.hd b ver=QZ x) {a a':AV} (h:Ren S a a'):∀ v,c1.rel a v->c2.rel a' v:=by
 induction h with
 | v=>exact λv hv=>by obtain ⟨rfl,hp⟩:=iR hv;exact .fr<|.v hp
 | nil=>exact λv hv=>by obtain rfl:=eX hv;exact .fr .nil
 | sl=>exact λv hv => .fr ((uB hv).mono hs hf)
 | fp=>exact λv hv => .fr ((uC hv).mono hs hf)
 | top=>exact λv _ => .top
 | agg hl _ ih=>
  intro u hu;obtain ⟨vs,rfl,h1,h2,h3⟩:=tK hu;refine .agg (h1.trans hl) h2 λi d u hd hu=>?_;obtain ⟨q,hq⟩:=bP hl.symm hd;exact ih i q d hq hd u<|h3 i q u hq hu
 | tup hl _ ih=>
  intro u hu;obtain ⟨vs,rfl,h1,h3⟩:=yO hu;refine .tup (h1.trans hl) λi d u hd hu=>?_;obtain ⟨q,hq⟩:=bP hl.symm hd;exact ih i q d hq hd u<|h3 i q u hq hu
 | ifc _ ih=>
  intro u hu;obtain ⟨y,rfl,h⟩:=yP hu;exact .ifc<|ih y h
 | fn hl _ ih=>
  intro u hu;obtain ⟨vs,rfl,h1,h3⟩:=Bx hu;refine .fn (h1.trans hl) λi d u hd hu=>?_;obtain ⟨q,hq⟩:=bP hl.symm hd;exact ih i q d hq hd u<|h3 i q u hq hu
 | hs hS=>
  intro u hu
  cases hu with
  | fr hf=>cases hf
  | hs hbn hc hm h0 hx=>exact .hs (hb _ _ _ hS hbn) hc hm h0 (λx h=>hx x<|hh _ _ _ _ hS hbn h)
 | hp hS=>
  intro u hu
  cases hu with
  | fr hf=>cases hf
  | hp hbn hx=>exact .hp (hb _ _ _ hS hbn) (λx h=>hx x<|hh _ _ _ _ hS hbn h)
 | mp hS=>
  intro u hu
  cases hu with
  | fr hf=>cases hf
  | mp hbn hx=>exact .mp (hb _ _ _ hS hbn) (λx h=>hx x<|hh _ _ _ _ hS hbn h)
structure RenK (S:Nat->Nat->Prop) (k k':ABlk):Prop where
 ver:k'.ver=k.ver
 s:k'.s=k.s
 ty:k'.ty=k.ty
 len:k.rows.length=k'.rows.length
 rows:∀ (i:Nat) (r r':List AV),k.rows[i]? = QZ r->k'.rows[i]? = QZ r'->r.length=r'.length/\∀ (j:Nat) (a a':AV),r[j]? = QZ a->r'[j]? = QZ a'->Ren S a a'
theorem RenK.blk {S:Nat->Nat->Prop} {c1 c2:Cx} {b b':Nat} {k k':ABlk} {cs:Array Value} {fr:Option (Nat×Nat)} (h:RenK S k k') (hB:BRel c1 b k cs fr) (hφ:c2.φ b'=c1.φ b) (hat:c2.w.heap[(c1.φ b).1]? = c1.w.heap[(c1.φ b).1]?) (hnf : ¬ c2.fz (c1.φ b).1)
  (hrel:∀ a a',Ren S a a'->∀ v,c1.rel a v->c2.rel a' v):BRel c2 b' k' cs fr where
 at_:=by rw [hφ,hat,CU h.s h.ty h.len.symm];exact hB.at_
 nf:=by simp_all
 pos:=by rw [h.s];exact hB.pos
 free:=by rw [h.s];exact hB.free
 fits:=by rw [hφ,h.s,<- h.len];exact hB.fits
 len:=λi r' hr'=>by
  obtain ⟨r,hr⟩:=bP h.len.symm hr';rw [h.s,<- hB.len i r hr];exact (h.rows i r r' hr hr').1.symm
 rel:=λi r' j a' hr' ha'=>by
  obtain ⟨r,hr⟩:=bP h.len.symm hr';obtain ⟨h1,h2⟩:=h.rows i r r' hr hr';obtain ⟨a,ha⟩:=bP h1.symm ha';obtain ⟨u,g1,g2,g3⟩:=hB.rel i r j a hr ha;exact ⟨u,by rw [hφ,h.s];exact g1,g2,hrel a a' (h2 j a a' ha ha') u g3⟩
def sg (ids:List Nat) (N i b:Nat):Prop:=ids[i]? = QZ b\/(ids.length<=i/\b=N+(i-ids.length))
theorem NZ {ids:List Nat} {N i b b':Nat} (h:sg ids N i b) (h':sg ids N i b'):b=b':=by
 rcases h with h | ⟨h1,h2⟩ <;> rcases h' with k | ⟨k1,k2⟩
 ·simp_all
 ·simp_all
 ·simp_all
 omega
theorem IX {ids:List Nat} {N i j b:Nat} (hn:ids.Nodup) (hlt:∀ x∈ids,x<N) (h:sg ids N i b) (h':sg ids N j b):i=j:=by
 rcases h with h | ⟨h1,h2⟩ <;> rcases h' with k | ⟨k1,k2⟩
 ·obtain ⟨hi,h3⟩:=ges h;obtain ⟨hj,h4⟩:=ges k;have hp:=List.pairwise_iff_getElem.1 hn
  grind
 ·have := hlt b<|RH h;omega
 ·have := hlt b<|RH k;omega
 omega
structure Frd (ids:List Nat) (H G0 H':AH):Prop where
 le:ids.length<=G0.length
 len:H'.length=H.length+(G0.length-ids.length)
 dead:∀ i b,i<G0.length->sg ids H.length i b->G0[i]? = QZ Q0->H'[b]? = QZ Q0
 some_:∀ i b k0,sg ids H.length i b->G0[i]? = QZ (QZ k0)->∃ k,H'[b]? = QZ (QZ k)/\RenK (sg ids H.length) k0 k
 rest:∀ b,b<H.length->b∉ids->H'[b]? = H[b]?
theorem vo {c1 c2:Cx} {b b' ver:Nat} (h:c1.born b ver) (_hd:c1.H[b]? = QZ Q0->c2.H[b']? = QZ Q0) (hs:∀ k,c1.H[b]? = QZ (QZ k)->∃ k',c2.H[b']? = QZ (QZ k')/\k'.ver=k.ver):c2.born b' ver:=by
 unfold Cx.born at h
 split at h
 ·rename_i k hk;obtain ⟨k',h1,h2⟩:=hs k hk;unfold Cx.born;rw [h1];simp only;omega
 simp_all
theorem xa {c1 c2:Cx} {b b' ver:Nat} {x:HI} (h:c2.hd b' ver=QZ x) (hφ:c2.φ b'=c1.φ b) (hat:c2.w.heap[(c1.φ b).1]? = c1.w.heap[(c1.φ b).1]?) (hs:∀ k',c2.H[b']? = QZ (QZ k')->∃ k,c1.H[b]? = QZ (QZ k)/\k.ver=k'.ver/\k.s=k'.s/\k.rows.length=k'.rows.length):c1.hd b ver=QZ x:=by
 obtain ⟨k',hl,hv,o,hc,hx⟩:=Cx.hd_some h;obtain ⟨k,h1,h2,h3,h4⟩:=hs k' hl;rw [hφ] at hc hx;rw [hat] at hc;have := Cx.hd_of (c:=c1) (k:=k) h1 hc;rw [h2,hv] at this;rw [this,Ex h3 h4];exact hx
theorem BO {c:Cx} {b ver:Nat} (h:c.H[b]? = QZ Q0) (hb:c.born b ver):False:=by
 unfold Cx.born at hb
 simp_all
theorem Mv {c:Cx} {b ver:Nat} {x:HI} (h:c.H[b]? = QZ Q0) (hb:c.hd b ver=QZ x):False:=by
 unfold Cx.hd at hb
 simp_all
section
variable {P:Program}
open Classical in
theorem fG.frameN {f:FuncId} {as0 QV:List AV} {H0 H:AH} {R R':AV->AH->Prop} (h:fG P f as0 H0 R) (ids:List Nat) (hn:ids.Nodup) (hl:ids.length=H0.length)
  (hin:∀ (i b:Nat),ids[i]? = QZ b->(H[b]? = QZ Q0/\H0[i]? = QZ Q0)\/∃ k k0,H[b]? = QZ (QZ k)/\H0[i]? = QZ (QZ k0)/\RenK (λb i=>ids[i]? = QZ b) k k0)
  (hla:QV.length=as0.length) (has:∀ (i:Nat) (a a0:AV),QV[i]? = QZ a->as0[i]? = QZ a0->Ren (λb i=>ids[i]? = QZ b) a a0)
  (hF:∀ r0 G0,R r0 G0->∃ r H',Frd ids H G0 H'/\Ren (sg ids H.length) r0 r/\R' r H'):fG P f QV H R':=by
 refine ⟨h.1,λc vs hH hr hall=>?_⟩;subst hH;have hidlt:∀ x∈ids,x<c.H.length:=λx hx=>by
  obtain ⟨i,hi⟩:=RU.1 hx
  grind
 let c0:Cx:={ w:=c.w,fz:=c.fz,H:=H0,φ:=λi=>c.φ (ids.getD i 0) };have φ0:∀ {i b},ids[i]? = QZ b->c0.φ i=c.φ b:=λ{i b} hi=>by
  grind
 have rel0:∀ a a0,Ren (λb i=>ids[i]? = QZ b) a a0->∀ v,c.rel a v->c0.rel a0 v:=λa a0 hra=>by
  refine Ren.rel (c1:=c) (c2:=c0) (RE _) (λg hg _=>⟨rfl,hg⟩) (λb i ver hS hb=>?_) (λb i ver x hS hb hx=>?_) hra
  ·rcases hin i b hS with ⟨h1,_⟩ | ⟨k,k0,h1,h2,h3⟩
   ·exact (BO h1 hb).elim
   refine vo hb (λhd=>by simp_all) λk1 hk1=>⟨k0,h2,?_⟩;rw [h1] at hk1;injection hk1 with hk1;injection hk1 with hk1;rw [<- hk1];exact h3.ver
  rcases hin i b hS with ⟨_,h1⟩ | ⟨k,k0,h1,h2,h3⟩
  ·exact (Mv (c:=c0) h1 hx).elim
  refine xa hx (φ0 hS) rfl λk1 hk1=>⟨k,h1,?_⟩;have hk2:H0[i]? = QZ (QZ k1):=hk1;rw [h2] at hk2;injection hk2 with hk2;injection hk2 with hk2;subst hk2;exact ⟨h3.ver.symm,h3.s.symm,h3.len⟩
 have live0:∀ {i k0},c0.live i k0->∃ b k,ids[i]? = QZ b/\c.live b k/\RenK (λb i=>ids[i]? = QZ b) k k0:=λ{i k0} hlv=>by
  have hlv':H0[i]? = QZ (QZ k0):=hlv;obtain ⟨hi,_⟩:=ges hlv';have hb:=geq (l:=ids) (i:=i) (by omega);rcases hin i _ hb with ⟨_,h2⟩ | ⟨k,k1,h1,h2,h3⟩
  ·simp_all
  rw [hlv'] at h2;injection h2 with h2;injection h2 with h2;subst h2;exact ⟨_,k,hb,h1,h3⟩
 have hr0:HRel c0:=by
  refine ⟨hr.lt,λi k0 hlv=>?_,λi j k k' hi hj hne=>?_,hr.gl⟩
  ·obtain ⟨b,k,h1,h2,h3⟩:=live0 hlv;obtain ⟨cs,fr,hB⟩:=hr.blk b k h2;exact ⟨cs,fr,h3.blk hB (φ0 h1) rfl hB.nf rel0⟩
  obtain ⟨b,q,h1,h2,_⟩:=live0 hi;obtain ⟨b',q',h1',h2',_⟩:=live0 hj;rw [φ0 h1,φ0 h1'];refine hr.inj b b' q q' h2 h2' λhe=>hne ?_;subst he;exact IX hn hidlt (.inl h1)<|.inl h1'
 obtain ⟨hal,hrel⟩:=hall;refine (h.2 c0 vs rfl hr0 ⟨hal.trans hla,λi a0 v ha0 hv=>?_⟩).mono λe w' ⟨v,c1,r0,he,hw,hR,hr1,hx1,hv⟩ => ?_
 ·obtain ⟨a,ha⟩:=bP hla.symm ha0
  grind
 subst hw;obtain ⟨r,H',hout,hres,hR'⟩:=hF r0 c1.H hR;let φ':Nat->Nat×Nat:=λb=>if hb:∃ i,i<c1.H.length/\sg ids c.H.length i b then c1.φ (Classical.choose hb) else c.φ b;have φ1:∀ {i b},i<c1.H.length->sg ids c.H.length i b->φ' b=c1.φ i:=λ{i b} hi hs=>by
  have hb:∃ i,i<c1.H.length/\sg ids c.H.length i b:=⟨i,hi,hs⟩;show (if hb:∃ i,i<c1.H.length/\sg ids c.H.length i b then c1.φ (Classical.choose hb) else c.φ b)=_;rw [dif_pos hb,IX hn hidlt (Classical.choose_spec hb).2 hs]
 have φ2:∀ {b},b<c.H.length->b∉ids->φ' b=c.φ b:=λ{b} hb hni=>by
  show (if hb:∃ i,i<c1.H.length/\sg ids c.H.length i b then c1.φ (Classical.choose hb) else c.φ b)=_;rw [dif_neg];rintro ⟨i,_,hs | ⟨_,hs⟩⟩
  ·grind
  omega
 let c2:Cx:={ w:=c1.w,fz:=c1.fz,H:=H',φ:=φ' };have back:∀ {b k},H'[b]? = QZ (QZ k)->(∃ i k1,sg ids c.H.length i b/\c1.H[i]? = QZ (QZ k1)/\RenK (sg ids c.H.length) k1 k)\/(b<c.H.length/\b∉ids/\c.H[b]? = QZ (QZ k)):=λ{b k} hk=>by
  have hbl:=(ges hk).1;rw [hout.len] at hbl;have hle:=hout.le
  by_cases hb:∃ i,i<c1.H.length/\sg ids c.H.length i b
  ·obtain ⟨i,hi,hs⟩:=hb
   left
   have hg:=geq hi
   cases hc:c1.H[i] with
   | none=>
    rw [hc] at hg;rw [hout.dead i b hi hs hg] at hk
    cases hk
   | some k1=>
    rw [hc] at hg;obtain ⟨k2,h1,h2⟩:=hout.some_ i b k1 hs hg
    grind
  right
  have hni:b∉ids:=λhm=>by
   obtain ⟨i,hi⟩:=RU.1 hm;have := (ges hi).1;exact hb ⟨i,by omega,.inl hi⟩
  have hlt:b<c.H.length:=by
   rcases RI b c.H.length with h1 | h1
   ·exact h1
   exact absurd ⟨ids.length+(b-c.H.length),by omega,.inr ⟨by omega,by omega⟩⟩ hb
  exact ⟨hlt,hni,by rw [<- hout.rest b hlt hni];exact hk⟩
 have rel2:∀ a a',Ren (sg ids c.H.length) a a'->∀ v,c1.rel a v->c2.rel a' v:=λa a' hra=>by
  refine Ren.rel (c1:=c1) (c2:=c2) (RE _) (λg hg _=>⟨rfl,hg⟩) (λi b ver hS hb=>?_) (λi b ver x hS hb hx=>?_) hra
  ·exact vo hb (λhd=>hout.dead i b (iz hb) hS hd) (λk hk=>by
    obtain ⟨k',h1,h2⟩:=hout.some_ i b k hS hk;exact ⟨k',h1,h2.ver⟩)
  refine xa hx (φ1 (iz hb) hS) rfl λk' hk' => ?_;have hg:=geq<|iz hb;have hk2:H'[b]? = QZ (QZ k'):=hk'
  cases hc:c1.H[i]'(iz hb) with
  | none=>
   rw [hc] at hg;rw [hout.dead i b (iz hb) hS hg] at hk2
   grind
  | some k1=>
   rw [hc] at hg;obtain ⟨k2,h1,h2⟩:=hout.some_ i b k1 hS hg;rw [hk2] at h1;injection h1 with h1;injection h1 with h1;subst h1;exact ⟨k1,hg,h2.ver.symm,h2.s.symm,h2.len⟩
 have notlive:∀ {b k},b∉ids->c.live b k->∀ i k0,c0.live i k0->(c0.φ i).1≠(c.φ b).1:=λ{b k} hni hlv i k0 hl0 he=>by
  obtain ⟨b0,q,h1,h2,_⟩:=live0 hl0;rw [φ0 h1] at he;refine hr.inj b0 b q k h2 hlv (λhbb=>hni ?_) he
  grind
 have hx:Ext c c2:=by
  refine ⟨hx1.os,hx1.tape,hx1.output,hx1.size,λg hg hng=>hx1.keep g hg λi k0 hl0=>?_,hx1.fz,λg hg=>?_,?_,λb ver hb=>?_,λb ver x hb hhd=>?_,λb k hlv=>?_⟩
  ·grind
  ·rcases hx1.wN g hg with h1 | h1 | ⟨i,k0,hl0,he⟩
   ·exact .inl h1
   ·exact .inr<|.inl h1
   grind
  ·show c.H.length<=H'.length;rw [hout.len];omega
  ·by_cases hm:b∈ids
   ·obtain ⟨i,hi⟩:=RU.1 hm;rcases hin i b hi with ⟨h1,_⟩ | ⟨k,k0,h1,h2,h3⟩
    ·exact (BO h1 hb).elim
    have b0:c0.born i ver:=vo hb (λhd=>by simp_all) (λk1 hk1=>⟨k0,h2,by
     rw [h1] at hk1;injection hk1 with hk1;injection hk1 with hk1;rw [<- hk1];exact h3.ver⟩)
    have b1:=hx1.born i ver b0;exact vo b1 (λhd=>hout.dead i b (iz b1) (.inl hi) hd) (λk1 hk1=>by
     obtain ⟨k',h4,h5⟩:=hout.some_ i b k1 (.inl hi) hk1;exact ⟨k',h4,h5.ver⟩)
   have he:=hout.rest b (iz hb) hm;exact vo hb (λhd=>he.trans hd) λk hk=>⟨k,he.trans hk,rfl⟩
  ·by_cases hm:b∈ids
   ·obtain ⟨i,hi⟩:=RU.1 hm;rcases hin i b hi with ⟨h1,_⟩ | ⟨k,k0,h1,h2,h3⟩
    ·exact (BO h1 hb).elim
    have b0:c0.born i ver:=vo hb (λhd=>by simp_all) (λk1 hk1=>⟨k0,h2,by
     rw [h1] at hk1;injection hk1 with hk1;injection hk1 with hk1;rw [<- hk1];exact h3.ver⟩)
    have b1:=hx1.born i ver b0;have e1:c1.hd i ver=QZ x:=by
     refine xa hhd (φ1 (iz b1)<|.inl hi) rfl λk' hk' => ?_;rcases back hk' with ⟨i',k1,g1,g2,g3⟩ | ⟨_,g2,_⟩
     ·obtain rfl:=IX hn hidlt (.inl hi) g1;exact ⟨k1,g2,g3.ver.symm,g3.s.symm,g3.len⟩
     simp_all
    have e0:=hx1.hd i ver x b0 e1;refine xa e0 (φ0 hi) rfl λk' hk'=>⟨k,h1,?_⟩;have hk2:H0[i]? = QZ (QZ k'):=hk';rw [h2] at hk2;injection hk2 with hk2;injection hk2 with hk2;subst hk2;exact ⟨h3.ver.symm,h3.s.symm,h3.len⟩
   have hlt:=iz hb;obtain ⟨k',hl',_⟩:=Cx.hd_some hhd;have hl2:c.live b k':=(hout.rest b hlt hm).symm.trans hl';refine xa hhd (φ2 hlt hm) (hx1.keep _ (hr.live_lt hl2)<|notlive hm hl2) λk1 hk1=>⟨k1,(hout.rest b hlt hm).symm.trans hk1,rfl,rfl,rfl⟩
  rcases back hlv with ⟨i,k1,g1,g2,g3⟩ | ⟨g1,g2,g3⟩
  ·have hi:=(ges g2).1;show _<=(φ' b).1\/∃ b0 k0,c.live b0 k0/\(c.φ b0).1=(φ' b).1;rw [φ1 hi g1];rcases hx1.iG i k1 g2 with h1 | ⟨j,k0,h1,h2⟩
   ·exact .inl h1
   grind
  refine .inr ⟨b,k,g3,?_⟩
  grind
 refine ⟨v,c2,r,he,rfl,hR',⟨hr1.lt,λb k hlv=>?_,λb b' k k' hlv hlv' hne=>?_,hr1.gl⟩,hx,rel2 _ _ hres v hv⟩
 ·rcases back hlv with ⟨i,k1,g1,g2,g3⟩ | ⟨g1,g2,g3⟩
  ·have hi:=(ges g2).1;obtain ⟨cs,fr,hB⟩:=hr1.blk i k1 g2;exact ⟨cs,fr,g3.blk hB (φ1 hi g1) rfl hB.nf rel2⟩
  obtain ⟨cs,fr,hB⟩:=hr.blk b k g3;have hkp:=hx1.keep _ (hr.live_lt g3)<|notlive g2 g3;refine ⟨cs,fr,⟨?_,?_,hB.pos,hB.free,?_,hB.len,λi row j a h1 h2=>?_⟩⟩
  ·show c1.w.heap[(φ' b).1]? = QZ (Ml k (φ' b).2 cs fr);rw [φ2 g1 g2,hkp];exact hB.at_
  ·show ¬ c1.fz (φ' b).1;rw [φ2 g1 g2];intro hz;rcases hx1.wN _ hz with h1 | h1 | ⟨i,k0,h1,h2⟩
   ·exact hB.nf h1
   ·have h3:=hr.live_lt g3
    grind
   exact notlive g2 g3 i k0 h1 h2
  ·show (φ' b).2+_<=_;rw [φ2 g1 g2];exact hB.fits
  obtain ⟨u,g4,g5,g6⟩:=hB.rel i row j a h1 h2;refine ⟨u,?_,g5,g6.ext hr hx⟩
  grind
 show (φ' b).1≠(φ' b').1;have old:∀ {b i k k1},b<c.H.length->b∉ids->c.H[b]? = QZ (QZ k)->c1.H[i]? = QZ (QZ k1)->(c1.φ i).1≠(c.φ b).1:=λ{b i k k1} g1 g2 g3 g4 he=>by
  rcases hx1.iG i k1 g4 with h1 | ⟨j,k0,h1,h2⟩
  ·have h3:=hr.live_lt (b:=b) (k:=k) g3
   grind
  exact notlive (b:=b) (k:=k) g2 g3 j k0 h1<|h2.trans he
 rcases back hlv with ⟨i,k1,g1,g2,g3⟩ | ⟨g1,g2,g3⟩ <;> rcases back hlv' with ⟨j,k2,h1,h2,h3⟩ | ⟨h1,h2,h3⟩
 ·rw [φ1 (ges g2).1 g1,φ1 (ges h2).1 h1];refine hr1.inj i j k1 k2 g2 h2 λhij=>hne ?_;subst hij;exact NZ g1 h1
 ·grind
 ·grind
 rw [φ2 g1 g2,φ2 h1 h2];exact hr.inj b b' k k' g3 h3 hne
theorem fG.frame {f:FuncId} {as0 QV:List AV} {H0 H:AH} {R R':AV->AH->Prop} (h:fG P f as0 H0 R) (ids:List Nat) (hn:ids.Nodup) (hl:ids.length=H0.length)
  (hin:∀ (i b:Nat),ids[i]? = QZ b->∃ k k0,H[b]? = QZ (QZ k)/\H0[i]? = QZ (QZ k0)/\RenK (λb i=>ids[i]? = QZ b) k k0)
  (hla:QV.length=as0.length) (has:∀ (i:Nat) (a a0:AV),QV[i]? = QZ a->as0[i]? = QZ a0->Ren (λb i=>ids[i]? = QZ b) a a0)
  (hF:∀ r0 G0,R r0 G0->∃ r H',Frd ids H G0 H'/\Ren (sg ids H.length) r0 r/\R' r H'):fG P f QV H R':=
 h.frameN ids hn hl (λi b hi => .inr<|hin i b hi) hla has hF
theorem dX.frame {f:FuncId} {as0 QV:List AV} {H0 G0 H H':AH} {r0 r:AV} (h:dX P f as0 H0 r0 G0) (ids:List Nat) (hn:ids.Nodup) (hl:ids.length=H0.length)
  (hin:∀ (i b:Nat),ids[i]? = QZ b->∃ k k0,H[b]? = QZ (QZ k)/\H0[i]? = QZ (QZ k0)/\RenK (λb i=>ids[i]? = QZ b) k k0)
  (hla:QV.length=as0.length) (has:∀ (i:Nat) (a a0:AV),QV[i]? = QZ a->as0[i]? = QZ a0->Ren (λb i=>ids[i]? = QZ b) a a0)
  (hout:Frd ids H G0 H') (hres:Ren (sg ids H.length) r0 r):dX P f QV H r H':=by
 have hB:fG P f as0 H0 λr' G=>r'=r0/\G=G0:=⟨h.1,λc vs hH hr hall=>(h.2 c vs hH hr hall).mono λe w' ⟨v,c',he,hw,hG,hr',hx,hv⟩=>⟨v,c',r0,he,hw,⟨rfl,hG⟩,hr',hx,hv⟩⟩;exact (hB.frame (R':=λr' G=>r'=r/\G=H') ids hn hl hin hla has λr1 G1 ⟨e1,e2⟩=>⟨r,H',by simp_all,by simp_all,rfl,rfl⟩).acall
end
section
variable {P:Program}
def Cx.res (c:Cx):Cx:={ w:=c.w,fz:=c.fz,H:=c.H++[Q0],φ:=c.φ }
theorem Cx.res_live {c:Cx} {b:Nat} {k:ABlk} (h:c.res.live b k):c.live b k:=by
 unfold Cx.live Cx.res at h;simp only at h;rcases Nat.lt_trichotomy b c.H.length with hlt | rfl | hgt
 ·rw [gal hlt] at h;exact h
 ·rw [gar (RE _),Nat.sub_self] at h;simp at h
 grind
theorem Cx.res_ext (c:Cx):Ext c c.res where
 os:=rfl
 tape:=rfl
 output:=rfl
 size:=RE _
 keep:=λ_ _ _=>rfl
 fz:=λ_ h=>h
 wN:=λ_ h => .inl h
 N:=by simp [Cx.res]
 born:=λb ver h=>by
  have hlt:=iz h;unfold Cx.born at *;simp only [Cx.res,gal hlt];exact h
 hd:=λb ver x hb hx=>by
  have hlt:=iz hb;unfold Cx.hd at *;simp only [Cx.res,gal hlt] at hx;exact hx
 iG:=λb k hl => .inr ⟨b,k,Cx.res_live hl,rfl⟩
theorem Cx.res_heap {c:Cx} (hr:HRel c):HRel c.res where
 gl:=hr.gl
 lt:=hr.lt
 blk:=λb k hl=>by
  obtain ⟨cs,fr,hB⟩:=hr.blk b k (Cx.res_live hl);exact ⟨cs,fr,⟨hB.at_,hB.nf,hB.pos,hB.free,hB.fits,hB.len,λi row j a h1 h2=>by
   obtain ⟨u,h3,h4,h5⟩:=hB.rel i row j a h1 h2;exact ⟨u,h3,h4,h5.ext hr c.res_ext⟩⟩⟩
 inj:=λb b' k k' h1 h2 hne=>hr.inj b b' k k' (Cx.res_live h1) (Cx.res_live h2) hne
def Cx.newAt (c:Cx) (b:Nat) (k:ABlk) (cs:Array Value):Cx:={ w:=c.w.alloc (.cells cs k.ty),fz:=c.fz,H:=c.H.set b (QZ k),φ:=λq=>if q=b then (c.w.heap.size,0) else c.φ q }
section
variable {c:Cx} {b:Nat} {k:ABlk} {cs:Array Value}
theorem Cx.newAt_live {q:Nat} {k':ABlk} (h:(c.newAt b k cs).live q k'):(q=b/\k'=k)\/(q≠b/\c.live q k'):=by
 unfold Cx.live Cx.newAt at h;simp only at h
 by_cases e:q=b
 ·grind
 rw [List.getElem?_set_ne (Ne.symm e)] at h;exact .inr ⟨e,h⟩
theorem Cx.newAt_self (hb:c.H[b]? = QZ Q0):(c.newAt b k cs).live b k:=by
 unfold Cx.live Cx.newAt
 grind
theorem Cx.newAt_born {q ver:Nat} (hb:c.H[b]? = QZ Q0) (h:c.born q ver):q≠b/\(c.newAt b k cs).born q ver:=by
 have hne:q≠b:=λe=>by subst e;unfold Cx.born at h;rw [hb] at h;exact h
 refine ⟨hne,?_⟩;unfold Cx.born at *;simp only [Cx.newAt]
 grind
theorem Cx.newAt_φ {q:Nat} (h:q≠b):(c.newAt b k cs).φ q=c.φ q:=if_neg h
theorem Cx.newAt_ext (hr:HRel c) (hb:c.H[b]? = QZ Q0):Ext c (c.newAt b k cs) where
 os:=rfl
 tape:=rfl
 output:=rfl
 size:=by simp [Cx.newAt]
 keep:=λg hg _=>Below.heap_alloc _ _ _ hg
 fz:=λ_ h=>h
 wN:=λ_ h => .inl h
 N:=by simp [Cx.newAt]
 born:=λ_ _ h=>(Cx.newAt_born hb h).2
 hd:=λq ver x hq hx=>by
  obtain ⟨k',hl,hv,o,hc,hx'⟩:=Cx.hd_some hx;have hne:=(Cx.newAt_born (k:=k) (cs:=cs) hb hq).1;rcases Cx.newAt_live hl with ⟨e,_⟩ | ⟨_,hl'⟩
  ·omega
  rw [Cx.newAt_φ hne] at hc hx';have hh:c.w.heap[(c.φ q).1]? = QZ o:=by
   rw [<- hc];exact (Below.heap_alloc _ _ _<|hr.live_lt hl').symm
  rw [<- hv];exact (Cx.hd_of hl' hh).trans hx'
 iG:=λq k' hl=>by
  rcases Cx.newAt_live hl with ⟨rfl,rfl⟩ | ⟨hne,hl'⟩
  ·left
   simp [Cx.newAt]
  exact .inr ⟨q,k',hl',by rw [Cx.newAt_φ hne]⟩
theorem Cx.newAt_rel (hr:HRel c) (hb:c.H[b]? = QZ Q0) (hs:0<k.s) (hf:k.rows.length*k.s<=cs.size) (hl:∀ (i:Nat) (row:List AV),k.rows[i]? = QZ row->row.length=k.s)
  (h:∀ (i:Nat) (row:List AV) (j:Nat) (a:AV),k.rows[i]? = QZ row->row[j]? = QZ a->∃ u,cs[i*k.s+j]? = QZ u/\u.oneCell'=QX/\c.rel a u):HRel (c.newAt b k cs) where
 gl:=hr.glx<|Cx.newAt_ext hr hb
 lt:=λg hg=>by
  have := hr.lt g hg;simp [Cx.newAt];omega
 blk:=λq k' hq=>by
  rcases Cx.newAt_live hq with ⟨rfl,rfl⟩ | ⟨hne,hl'⟩
  ·refine ⟨cs,QZ (0,0),?_⟩;have e:(c.newAt q k' cs).φ q=(c.w.heap.size,0):=if_pos rfl;refine ⟨by rw [e];exact heap_alloc_new _ _,by rw [e];exact λhz=>Nat.lt_irrefl _<|hr.lt _ hz,hs,λf hf i _=>by grind,by simp_all,hl,λi row j a h1 h2=>?_⟩;obtain ⟨u,h3,h4,h5⟩:=h i row j a h1 h2;exact ⟨u,by simp_all,h4,h5.ext hr<|Cx.newAt_ext hr hb⟩
  obtain ⟨cs',fr,hB⟩:=hr.blk q k' hl';refine ⟨cs',fr,⟨by rw [Cx.newAt_φ hne];exact (Below.heap_alloc _ _ _<|hr.live_lt hl').trans hB.at_,by rw [Cx.newAt_φ hne];exact hB.nf,hB.pos,hB.free,by rw [Cx.newAt_φ hne];exact hB.fits,hB.len,λi row j a h1 h2=>?_⟩⟩;obtain ⟨u,h3,h4,h5⟩:=hB.rel i row j a h1 h2;exact ⟨u,by rw [Cx.newAt_φ hne];exact h3,h4,h5.ext hr<|Cx.newAt_ext hr hb⟩
 inj:=λq q' k1 k2 h1 h2 hne=>by
  rcases Cx.newAt_live h1 with ⟨rfl,rfl⟩ | ⟨hn1,hl1⟩
  ·rcases Cx.newAt_live h2 with ⟨rfl,rfl⟩ | ⟨hn2,hl2⟩
   ·omega
   have := hr.live_lt hl2;rw [show (c.newAt q k1 cs).φ q=(c.w.heap.size,0) from if_pos rfl,Cx.newAt_φ hn2];omega
  rcases Cx.newAt_live h2 with ⟨rfl,rfl⟩ | ⟨hn2,hl2⟩
  ·have := hr.live_lt hl1;rw [show (c.newAt q' k2 cs).φ q'=(c.w.heap.size,0) from if_pos rfl,Cx.newAt_φ hn1];omega
  rw [Cx.newAt_φ hn1,Cx.newAt_φ hn2];exact hr.inj q q' k1 k2 hl1 hl2 hne
theorem Cx.newAt_hs (hb:c.H[b]? = QZ Q0) {n cap:Nat} (hn:n<=k.rows.length) (hc:n<=cap) (hm:cap<=9223372036854775807) (hs:cap*k.s<=cs.size):(c.newAt b k cs).rel (.hs b k.ver k.s 0 n) (.slice (QZ ⟨c.w.heap.size,0,Q0⟩) n cap):=by
 have hl:=Cx.newAt_self (k:=k) (cs:=cs) hb;have hφ:(c.newAt b k cs).φ b=(c.w.heap.size,0):=if_pos rfl;have hh:(c.newAt b k cs).hd b k.ver=QZ ⟨c.w.heap.size,0,k.s,k.rows.length,cs.size⟩:=by
  have := Cx.hd_of hl (o:=.cells cs k.ty (0,0)) (by rw [hφ];exact heap_alloc_new _ _);rw [hφ] at this;exact this
 refine .hs ?_ hc hm (λ_=>⟨_,rfl⟩) λx hx=>?_
 ·unfold Cx.born;rw [show (c.newAt b k cs).H[b]? = QZ (QZ k) from hl];exact RE _
 simp_all
end
variable {o:Oper} {ρ:Operand->AV}
theorem FJ {cl:Call} {x y:Operand} {t u e:TypeId} {news:List (List AV)} {H:AH} {b:Nat} {ver:Nat} (hb:H[b]? = QZ Q0) (ho:o.op = .call cl) (h1:cl.callee = .builtin .append) (h2:cl.args.toList=[x,y]) (h3:cl.argTypes.toList=[t,u])
  (ht:P.underlying t=QZ (.slice e)) (hu:(∃ e2,P.underlying u=QZ (.slice e2))\/P.underlying u=QZ .string) (hx:ρ x = .nil) (hpos:0<P.cellsOf e)
  (hz:(((P.info? e).bind (·.zero)).map λz=>z.cells.size)=QZ (P.cellsOf e)) (hb1:news.length*P.bytesOf e<=35184372088832) (hb2:news.length<=35184372088832) (hn:news.length≠0)
  (hsrc:∀ (c:Cx) (v:Value),c.H=H->HRel c->c.rel (ρ y) v->∃ vs,SrcIs P c (P.cellsOf e) v news vs) :
  QC P o ρ H (.hs b ver (P.cellsOf e) 0 news.length) (H.set b<|QZ ⟨ver,P.cellsOf e,e,news⟩):=by
 intro c a K Q hH hr hxs hK;subst hH;obtain ⟨ox,oy⟩:=tP ho h2;have hx1:=eX<|hx ▸ hxs x ox;obtain ⟨vs,hvs⟩:=hsrc c _ rfl hr<|hxs y oy;obtain ⟨hvl,hv1,_⟩:=hvs.is
 cases hi:P.info? e with
 | none=>simp_all
 | some i=>
  rw [hi] at hz;simp only [RX] at hz;obtain ⟨z,hz,hzs⟩:=RY.1 hz;have hby:P.bytesOf e=i.bytes:=by simp [Program.bytesOf,hi]
  have hce:P.cellsOf e=i.size:=by simp [Program.cellsOf,hi]
  have hfn:=hvs.cells c.w.drew rfl;rw [hce] at hfn;have hfo:(Builtin.firstCells i.size 0<|.slice Q0 0 0).run P c.w.drew = .ok #[] c.w.drew:=by simp [Builtin.firstCells]
  obtain ⟨nc,hnc1,hnc2,hrun⟩:=rL (ty:=o.type) ht hu hi hz (hvs.len c.w) hfo hfn (by omega) (by omega) (by simp_all);unfold Oper.wp;rw [qf ho h1 h2 h3 (by rw [hx1];exact hrun)];generalize hcs3 : #[]++vs.toArray++Builtin.zeroCells z.cells (nc-(0+news.length))=cs3;have hdr:=Cx.drew_rel hr;have hsz3:nc*P.cellsOf e<=cs3.size:=by
   rw [<- hcs3];simp only [RP,RQ,qd,hzs,hvl,List.length_nil,RL];rw [<- RF];exact RN _ (by omega)
  have hget3:∀ q u',vs[q]? = QZ u'->cs3[q]? = QZ u':=λq u' hq=>by
   have hq2:=(ges hq).1;rw [<- hcs3,RO (by simpa using hq2)]
   simp_all
  have hbd:c.drew.H[b]? = QZ Q0:=hb;have hrel:=Cx.newAt_rel (k:=⟨ver,P.cellsOf e,e,news⟩) (cs:=cs3) hdr hbd hpos (by
    grind) (λq row hq=>hvs.rows q row hq) (λq row j a' hq hj=>by
    obtain ⟨u',g1,g2,g3⟩:=hvs.is.get hq hj;exact ⟨u',hget3 _ _ g1,g2,g3.ext hr c.drew_ext⟩)
  have hh:=Cx.newAt_hs (c:=c.drew) (k:=⟨ver,P.cellsOf e,e,news⟩) (cs:=cs3) hbd (n:=news.length) (cap:=nc) (RE _) (by omega) hnc2 hsz3;rw [RL];exact hK _ (c.drew.newAt b ⟨ver,P.cellsOf e,e,news⟩ cs3) rfl hrel (c.drew_ext.trans<|Cx.newAt_ext hdr hbd) hh
end
def mkA:List AV->AV
 | [x]=>x
 | l => .agg l
theorem Mw {c:Cx} {as':List AV} {us:List Value} (hl:us.length=as'.length) (h1:∀ (j:Nat) (u:Value),us[j]? = QZ u->u.oneCell'=QX) (h:∀ (j:Nat) (a:AV) (u:Value),as'[j]? = QZ a->us[j]? = QZ u->c.rel a u):c.rel (mkA as') (mkv us):=by
 match as',us,hl with
 | [],[],_=>exact .agg rfl (λi u hu=>by grind) (λi a u ha=>by grind)
 | [a],[u],_=>exact h 0 a u rfl rfl
 | a::b::l,u::v::m,hl=>exact .agg (by omega) (λi u hu=>h1 i u<|by simp_all) (λi a u ha hu=>h i a u ha<|by simp_all)
theorem Mx {α:Type} {L R:List α} {a:Nat} (h:∀ (j:Nat) (x:α),R[j]? = QZ x->L[a+j]? = QZ x):(L.drop a).take R.length=R:=by
 apply R3
 grind
structure KeyA (P:Program) (keyT:TypeId) {K:Type} [DecidableEq K] (kn:Nat) (kc:K->List Value):Prop where
 len:∀ k,(kc k).length=kn
 plain:∀ k,∀ x∈kc k,plain x=QX
 check:∀ (w:World) (em:Bool) (k:K),(Instr.checkKey em 10000 keyT<|mkv<|kc k).run P w = .ok () w
 find:∀ (w:World) (k:K) (es:List MapEntry) (ks:List K),es.map (·.key)=ks.map (λk=>mkv<|kc k) ->
  (Instr.findKey keyT (mkv<|kc k) es).run P w = .ok ((ks.findIdx? λx=>Q3<|x=k).bind λj=>es[j]?.map λe=>(j,e.val)) w
 stays:∀ (w:World) (k:K),(Instr.keyThatStays (mkv<|kc k)<|mkv<|kc k).run P w = .ok (mkv<|kc k) w
def IY {K V:Type} [DecidableEq K] (l:List<|K×V) (k:K):Option Nat:=(l.map (·.1)).findIdx? λx=>Q3<|x=k
def Iy {K V:Type} [DecidableEq K] (l:List<|K×V) (k:K):Option V:=(IY l k).bind λj=>l[j]?.map (·.2)
def P9 {K V:Type} [DecidableEq K] (l:List<|K×V) (k:K) (v:V):List (K×V):=match IY l k with
 | some j=>l.set j (k,v)
 | none=>l++[(k,v)]
theorem FK {K V:Type} [DecidableEq K] {l:List (K×V)} {k:K} {j:Nat} (h:IY l k=QZ j):j<l.length/\∃ v,l[j]? = QZ (k,v):=by
 unfold IY at h;obtain ⟨h1,h2,_⟩:=List.findIdx?_eq_some_iff_getElem.1 h
 grind
def Pj {K V:Type} (kc:K->List Value) (cv:V->List AV) (p:K×V):List AV:=(kc p.1).map AV.v++cv p.2
abbrev mB {K V:Type} (kn vn:Nat) (kc:K->List Value) (cv:V->List AV) (l:List<|K×V):ABlk:=⟨0,kn+vn,kn,l.map<|Pj kc cv⟩
section
variable {P:Program} {K V:Type} {kn vn:Nat} {kc:K->List Value} {cv:V->List AV} {keyT:TypeId} {l:List (K×V)}
theorem My [DecidableEq K] {c:Cx} (q:KeyA P keyT kn kc) (k:K) {u:Value} (h:c.rel (mkA<|(kc k).map AV.v) u):u=mkv (kc k):=by
 have hp:=q.plain k
 cases e:kc k with
 | nil=>
  rw [e] at h;obtain ⟨vs,rfl,h1,_⟩:=tK h;have : vs = #[]:=Array.eq_empty_of_size_eq_zero (by simpa using h1);rw [this]
  rfl
 | cons x t=>
  rw [e] at h hp
  cases t with
  | nil=>exact (iR h).1
  | cons y t=>
   obtain ⟨vs,rfl,h1,_,h3⟩:=tK h;change vs.size=((x::y::t).map AV.v).length at h1;rw [llm] at h1;replace h3:∀ (i:Nat) (a:AV) (u:Value),((x::y::t).map AV.v)[i]? = QZ a->vs[i]? = QZ u->c.rel a u:=h3;have : vs=(x::y::t).toArray:=by
    apply Array.ext';apply R3;intro j
    by_cases hj:j<(x::y::t).length
    ·have hv:j<vs.size:=by rw [h1];exact hj
     have g:=h3 j (.v (x::y::t)[j]) vs[j] (by rw [RR,geq hj];rfl) (RS hv);simp only [R5,RS hv,(iR g).1,geq hj]
    rw [gen (by rw [RZ,h1];omega),gen (by show (x::y::t).length<=j;omega)]
   rw [this]
   rfl
theorem MB {c:Cx} {b:Nat} (hr:HRel c) (hl:c.live b<|mB kn vn kc cv l) {u:Value} (hu:c.rel (.mp b<|kn+vn) u) :
  ∃ cs,u = .map (QZ (c.φ b).1)/\BRel c b (mB kn vn kc cv l) cs Q0:=by
 obtain ⟨g,rfl,_,hx⟩:=LG hu;obtain ⟨cs,fr,hB⟩:=hr.blk b _ hl;have h1:=Cx.hd_of hl hB.at_
 cases fr with
 | some f=>
  have := (hx _ h1).1
  simp_all
 | none=>
  have := (hx _ h1).2
  grind
variable {c:Cx} {b:Nat} {cs:Array Value}
theorem IZ {i:Nat} {p:K×V} (h:l[i]? = QZ p):(mB kn vn kc cv l).rows[i]? = QZ (Pj kc cv p):=by simp [h]
theorem MC [DecidableEq K] (q:KeyA P keyT kn kc) (hB:BRel c b (mB kn vn kc cv l) cs Q0) {i:Nat} {p:K×V} (h:l[i]? = QZ p):(CF (kn+vn) kn (c.φ b).2 cs i).key=mkv (kc p.1):=by
 unfold CF;simp only
 congr 1
 have := Mx (L:=cs.toList) (R:=kc p.1) (a:=(c.φ b).2+i*(kn+vn)) λj x hx=>by
  obtain ⟨u,g1,_,g3⟩:=hB.rel i _ j (.v x) (IZ h) (by unfold Pj;rw [gal (by simpa using (ges hx).1),RR,hx];rfl);rw [(iR g3).1] at g1
  simp_all
 rwa [q.len] at this
theorem ME [DecidableEq K] (q:KeyA P keyT kn kc) (hv:∀ v,(cv v).length=vn) (hB:BRel c b (mB kn vn kc cv l) cs Q0) {i:Nat} {p:K×V} (h:l[i]? = QZ p):c.rel (mkA<|cv p.2) (CF (kn+vn) kn (c.φ b).2 cs i).val:=by
 unfold CF;simp only;have hat:∀ j,j<vn->∃ a u,(cv p.2)[j]? = QZ a/\((cs.toList.drop<|(c.φ b).2+i*(kn+vn)+kn).take<|kn+vn-kn)[j]? = QZ u/\u.oneCell'=QX/\c.rel a u:=λj hj=>by
  have hj':j<(cv p.2).length:=by rw [hv];exact hj
  obtain ⟨u,g1,g2,g3⟩:=hB.rel i _ (kn+j) ((cv p.2)[j]) (IZ h) (by
   unfold Pj;rw [gar (by simp [q.len]),llm,q.len,Nat.add_sub_cancel_left,geq hj'])
  refine ⟨_,u,geq hj',?_,g2,g3⟩;rw [List.getElem?_take,if_pos (by omega),List.getElem?_drop];have : (c.φ b).2+i*(kn+vn)+kn+j=(c.φ b).2+i*(kn+vn)+(kn+j):=by omega
  rw [this];simpa using g1
 have hlen:((cs.toList.drop<|(c.φ b).2+i*(kn+vn)+kn).take<|kn+vn-kn).length=(cv p.2).length:=by
  rw [hv];rcases RI ((cs.toList.drop<|(c.φ b).2+i*(kn+vn)+kn).take<|kn+vn-kn).length vn with hlt | hge
  ·obtain ⟨a,u,_,g,_⟩:=hat _ hlt;rw [gen (RE _)] at g
   cases g
  have : ((cs.toList.drop<|(c.φ b).2+i*(kn+vn)+kn).take<|kn+vn-kn).length<=kn+vn-kn:=by simp;omega
  omega
 refine Mw hlen (λj u hu=>?_) λj a u ha hu=>?_
 ·obtain ⟨a,u',_,g,g2,_⟩:=hat j (by rw [<- hv p.2,<- hlen];exact (ges hu).1);rw [hu] at g;obtain rfl:=osl g;exact g2
 grind
theorem N7 (hB:BRel c b (mB kn vn kc cv l) cs Q0):c.w.heap[(c.φ b).1]? = QZ (.map ((R4 l.length).map<|CF (kn+vn) kn (c.φ b).2 cs) l.length):=by
 have := hB.at_;simpa [Ml,mB] using this
theorem MF [DecidableEq K] (q:KeyA P keyT kn kc) (hB:BRel c b (mB kn vn kc cv l) cs Q0):(((R4 l.length).map<|CF (kn+vn) kn (c.φ b).2 cs).toList.map (·.key))=(l.map (·.1)).map λk=>mkv (kc k):=by
 apply R3;intro i
 by_cases hi:i<l.length
 ·have h:=geq hi;simp only [Array.toList_map,Array.toList_range,List.map_map,RR,List.getElem?_range hi,Option.map_some,h,Function.comp];rw [MC q hB h]
 simp_all
theorem KP [DecidableEq K] (q:KeyA P keyT kn kc) (hB:BRel c b (mB kn vn kc cv l) cs Q0) (k:K):(Instr.findKey keyT (mkv<|kc k) ((R4 l.length).map<|CF (kn+vn) kn (c.φ b).2 cs).toList).run P c.w =
  .ok ((IY l k).map λj=>(j,(CF (kn+vn) kn (c.φ b).2 cs j).val)) c.w:=by
 rw [q.find c.w k _ _ (MF q hB)]
 congr 1
 unfold IY
 cases h:(l.map (·.1)).findIdx? λx=>Q3 (x=k) with
 | none=>rfl
 | some j=>
  have hj:j<l.length:=(FK<|show IY l k=QZ j from h).1
  simp_all
variable {o:Oper} {ρ:Operand->AV} {H:AH} {x y z:Operand} {t e:TypeId}
theorem HL [DecidableEq K] (q:KeyA P keyT kn kc) (hv:∀ v,(cv v).length=vn) (d:V) {zv:Value} {ok:Bool} (ho:o.op = .lookup t x y ok) (ht:P.underlying t=QZ (.map keyT e)) (hz:∀ w,(zeroValue e).run P w = .ok zv w) (hzr:∀ c:Cx,c.rel (mkA<|cv d) zv) (k:K)
  (hx:ρ x = .mp b (kn+vn)) (hy:ρ y=mkA ((kc k).map AV.v)) (hb:H[b]? = QZ (QZ<|mB kn vn kc cv l)) :
  QC P o ρ H (bif ok then .tup [mkA (cv<|(Iy l k).getD d),.v (.bool (Iy l k).isSome)] else mkA (cv<|(Iy l k).getD d)) H:=by
 intro c a Kk Q hH hr hxs hK;have h1:=hx ▸ hxs x (by rw [ho];simp [Op.operands]);have h2:=My q k<|hy ▸ hxs y (by rw [ho];simp [Op.operands]);have hl:c.live b (mB kn vn kc cv l):=by unfold Cx.live;rw [hH];exact hb
 obtain ⟨cs,hu,hB⟩:=MB hr hl h1;have key:∀ (v:Value) (s:Bool) (r:AV),c.rel r v->c.rel (bif ok then .tup [r,.v (.bool s)] else r) (if ok then Value.tuple #[v,.bool s] else v):=λv s r hr=>by
  cases ok with
  | false=>exact hr
  | true=>
   refine .tup rfl λi a u ha hu=>?_
   match i with
   | 0=>
    obtain rfl:=osl ha;obtain rfl:=osl hu;exact hr
   | 1=>
    obtain rfl:=osl ha;obtain rfl:=osl hu;exact cO rfl
   | i+2=>grind
 have hrun:∀ (v:Value) (s:Bool),(∀ r,r=(IY l k).map (λj=>(j,(CF (kn+vn) kn (c.φ b).2 cs j).val))->((r=Q0/\v=zv/\s=QY)\/∃ j,r=QZ (j,v)/\s=QX))->(execOp a.eval o).run P c.w = .ok (.value<|if ok then Value.tuple #[v,.bool s] else v) c.w:=λv s h=>by
  rw [execOp,ho];simp only [hu,h2];refine vg _ ?_;unfold Instr.lookup;simp only [Sem.run_bind,ay ht,Result.andThen_ok,MapKept.run_getObj_map (N7 hB),Sem.run_pure,q.check,KP q hB];rcases h _ rfl with ⟨h1,rfl,rfl⟩ | ⟨j,h1,rfl⟩
  ·simp_all
  rw [h1]
  simp_all
 unfold Oper.wp
 cases hm:IY l k with
 | none=>
  rw [hrun zv QY (λr hr => .inl ⟨by rw [hr,hm];rfl,rfl,rfl⟩)];have : Iy l k=Q0:=by simp [Iy,hm]
  refine hK _ c hH hr (Ext.refl c) ?_
  simp_all
 | some j=>
  rw [hrun _ QX (λr hr => .inr ⟨j,by rw [hr,hm];rfl,rfl⟩)];obtain ⟨hj,v,hv'⟩:=FK hm;have : Iy l k=QZ v:=by simp [Iy,hm,hv']
  refine hK _ c hH hr (Ext.refl c) ?_;rw [this];exact key _ _ _<|ME q hv hB hv'
end
end
end Go.Proofs.YtabfkkjdfhbngaaGreatDoor
