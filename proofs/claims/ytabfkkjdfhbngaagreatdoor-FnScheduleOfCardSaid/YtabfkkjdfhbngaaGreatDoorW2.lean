/- Texts joined. No conditions. -/
import Derived.Still
import Derived.MapKept
import Derived.WideKeyRuns
import Derived.Test.YtabfkkjdfhbngaaGreatDoorW1
namespace Go.Proofs.YtabfkkjdfhbngaaGreatDoor
noncomputable section
open _root_.Bool renaming true -> Ri
open _root_.Bool renaming false -> Rj
open _root_.Option renaming some -> Rk
open _root_.Option renaming none -> Rl
open _root_.Decidable renaming decide -> Rm
open _root_.Nat renaming le_refl -> RZ, add_mul -> R3, lt_or_ge -> R7, lt_of_lt_of_le -> Sb, mul_le_mul_right -> Sc, zero_add -> Sd, add_sub_cancel_left -> Sz
open _root_.List renaming all_eq_true -> R4, range -> R5, mem_of_getElem? -> R8, getElem?_map -> R9, size_toArray -> Si, mem_iff_getElem? -> Sk, ext_getElem? -> Sn, length_nil -> Sr, range_succ -> Su, flatMap_append -> Sv, getElem?_set_ne -> Sy, getElem?_toArray -> SA
open _root_.Array renaming range -> R6, length_toList -> Se, getElem?_append_left -> Sf, size_append -> Sg, getElem?_eq_getElem -> Sj, getElem?_toList -> Sw
open _root_.Option renaming map_eq_some_iff -> Sa, bind_some -> Sq, map_some -> Ss
open Go.RowKit
section
variable {P:Program} {o:Oper} {ρ:Operand->AV}
theorem CY.get {c:Cx} {s:Nat} {rows:List (List AV)} {vs:List Value} (h:CY c s rows vs) {i:Nat} {row:List AV} {j:Nat} {a:AV} (h1:rows[i]? = Rk row) (h2:row[j]? = Rk a):∃ u,vs[i*s+j]? = Rk u/\u.oneCell'=Ri/\c.rel a u:=h.2.2 i row j a h1 h2
theorem qH {a:Act} {w:World} {cl:Call} {x y:Operand} {t u:TypeId} (ho:o.op = .call cl) (h1:cl.callee = .builtin .append) (h2:cl.args.toList=[x,y]) (h3:cl.argTypes.toList=[t,u]) {v:Value} {w':World}
  (h:(Builtin.append_ #[t,u] o.type #[a.eval x,a.eval y]).run P w = .ok v w'):(execOp a.eval o).run P w = .ok (.value v) w':=by
 obtain ⟨callee,args,ts⟩:=cl;simp only at h1 h2 h3;obtain rfl:args = #[x,y]:=by grind
 obtain rfl:ts = #[t,u]:=by grind
 subst h1;simp [execOp,ho,resolve,invoke,builtin,h]
theorem tZ {cl:Call} {x y:Operand} (ho:o.op = .call cl) (h2:cl.args.toList=[x,y]):x∈o.op.operands/\y∈o.op.operands:=by
 have : cl.args = #[x,y]:=by
  cases hc:cl.args with
  | mk l=>simp_all
 rw [ho];simp [Op.operands,Call.operands,this]
theorem BB {cl:Call} {x y:Operand} {t u e:TypeId} {b ver s off len:Nat} {k:ABlk} {news:List (List AV)} {H:AH} (ho:o.op = .call cl) (h1:cl.callee = .builtin .append) (h2:cl.args.toList=[x,y]) (h3:cl.argTypes.toList=[t,u])
  (ht:P.underlying t=Rk (.slice e)) (hu:(∃ e2,P.underlying u=Rk (.slice e2))\/P.underlying u=Rk .string) (hx:ρ x = .hs b ver s off len) (hb:H[b]? = Rk (Rk k)) (hv:k.ver=ver) (hs:k.s=s) (hse:s=P.cellsOf e) (hlen:off+len<=k.rows.length)
  (hty:k.ty=e) (hz:(((P.info? e).bind (·.zero)).map λz=>z.cells.size)=Rk (P.cellsOf e)) (hb1:(len+news.length)*P.bytesOf e<=35184372088832) (hb2:len+news.length<=35184372088832)
  (hsrc:∀ (c:Cx) (v:Value),c.H=H->HRel c->c.rel (ρ y) v->∃ vs,SrcIs P c (P.cellsOf e) v news vs) :
  QO P o ρ H (.hs b (ver+1) s 0<|len+news.length) (H.set b<|Rk ⟨ver+1,s,k.ty,(k.rows.drop off).take len++news⟩):=by
 intro c a K Q hH hr hxs hK;obtain ⟨ox,oy⟩:=tZ ho h2;have hx1:=hx ▸ hxs x ox;obtain ⟨vs,hvs⟩:=hsrc c _ hH hr<|hxs y oy;obtain ⟨hvl,hv1,_⟩:=hvs.is
 cases hi:P.info? e with
 | none=>simp_all
 | some i=>
  rw [hi] at hz;simp only [Sq] at hz;obtain ⟨z,hz,hzs⟩:=Sa.1 hz;have hby:P.bytesOf e=i.bytes:=by simp [Program.bytesOf,hi]
  have hce:P.cellsOf e=i.size:=by simp [Program.cellsOf,hi]
  have hl:c.live b k:=by unfold Cx.live;rw [hH];exact hb
  obtain ⟨cur,fr,hB⟩:=hr.blk b k hl;have hpos:0<s:=hs ▸ hB.pos;have hfits:=hB.fits;rw [hs] at hfits;generalize hux:a.eval x=ux at hx1
  cases hx1 with
  | fr h=>cases h
  | @hs _ _ _ _ _ cap A hbn hcl hcm h0' hh=>
   obtain ⟨fr,rfl,hat,hd⟩:=hB.cells hl λx hx=>(hh x<|hv ▸ hx).1.trans hs.symm;rw [hv] at hd;obtain ⟨_,_,hA,hcf⟩:=hh _ hd;simp only at hA hcf;have holdr:∀ (q:Nat) (r:List AV),((k.rows.drop off).take len)[q]? = Rk r->q<len/\k.rows[off+q]? = Rk r:=λq r hq=>by
    grind
   have hol:((k.rows.drop off).take len).length=len:=by simp;omega
   have hrl:∀ (q:Nat) (row:List AV),((k.rows.drop off).take len++news)[q]? = Rk row->row.length=s:=λq row hq=>by
    rcases R7 q len with hlt | hge
    ·rw [gal (by omega)] at hq;rw [hB.len _ row (holdr q row hq).2,hs]
    rw [gar (by omega)] at hq;rw [hvs.rows _ row hq,hse]
   unfold Oper.wp
   by_cases hroom:len+news.length<=cap
   ·-- there is room
    have hst:∃ cs2:Array Value,cs2.size=cur.size/\(A=Rl->c.w.setRow (c.φ b).1 cs2=c.w)/\(∀ ad,A=Rk ad->(storeCells (ad.add<|len*i.size) vs.toArray.toList).run P c.w = .ok () (c.w.setRow (c.φ b).1 cs2)) /\
      ∀ q,cs2[q]? = if (c.φ b).2+off*s+len*s<=q/\q<(c.φ b).2+off*s+len*s+vs.length then vs[q-((c.φ b).2+off*s+len*s)]? else cur[q]? := by
     rcases Nat.eq_zero_or_pos cap with h0 | h0
     ·have hv0:vs=[]:=List.eq_nil_of_length_eq_zero (by simp_all);subst hv0;have hsf:=setRow_self c.w _ cur k.ty fr hat;refine ⟨cur,rfl,λ_=>hsf,λad _=>?_,λq=>by grind⟩;rw [hsf]
      rfl
     obtain rfl:=hA h0;have hle:(c.φ b).2+off*s+len*s+vs.length<=cur.toList.length:=by
      have h5:(len+news.length)*s<=cap*s:=Sc _ hroom;rw [R3] at h5;have hct:cur.toList.length=cur.size:=Se;rw [hvl,hct,<- hse];omega
     have hst:=ku (P:=P) (c.φ b).1 ((c.φ b).2+off*s+len*s) k.ty fr vs 0 cur c.w hat (hB.fre fr rfl) (by simpa using hle) hv1;rw [Nat.add_zero] at hst;have hg2:=λq=>DJ cur.toList _ _ hle q;have hs2:=DK cur.toList _ _ hle;generalize cur.toList.take ((c.φ b).2+off*s+len*s)++vs++cur.toList.drop ((c.φ b).2+off*s+len*s+vs.length)=ls at *;refine ⟨ls.toArray,by simpa using hs2,λh=>(by cases h),λad had=>?_,λq=>?_⟩
     ·injection had with had;subst had;simp only [add0,<- hce,<- hse];exact hst
     simp_all
    obtain ⟨cs2,hsz2,hrn,hrunst,hget⟩:=hst;have hrun:=xW (ty:=o.type) ht hu hi (A:=A) (n:=len) (cap:=cap) (m:=news.length) (x:=a.eval y) (news:=vs.toArray) (hvs.len c.w) (by rw [<- hce];exact hvs.cells c.w rfl) hroom hrn hrunst;rw [qH ho h1 h2 h3 (by rw [hux];exact hrun)];have hext:=Cx.upd_ext (k:=⟨ver+1,s,k.ty,(k.rows.drop off).take len++news⟩) (o:=(c.φ b).2+off*s) (cs:=cs2) hr hl hB hsz2<|.inr (by simp_all);have htot:off*s+(len+news.length)*s<=off*s+cap*s:=Nat.add_le_add_left (Sc _ hroom) _;have hnl:((k.rows.drop off).take len++news).length=len+news.length:=by simp_all
    have hfit2:(c.φ b).2+off*s+((k.rows.drop off).take len++news).length*s<=cs2.size:=by
     rw [hnl,hsz2];omega
    have hrel:=Cx.upd_rel (k:=⟨ver+1,s,k.ty,(k.rows.drop off).take len++news⟩) (o:=(c.φ b).2+off*s) (cs:=cs2) hr hl hB hsz2 rfl hext hpos hfit2 hrl (λq row j a' hq hj=>by
      simp only at hq ⊢;have hj1:j<s:=by
       have := (ges hj).1;rw [hrl q row hq] at this;exact this
      rcases R7 q len with hlt | hge
      ·rw [gal (by omega)] at hq;obtain ⟨u',g1,g2,g3⟩:=hB.rel _ row j a' (holdr q row hq).2 hj;have := vV (s:=s) hlt (j:=j+1) hj1;refine ⟨u',?_,g2,g3⟩;rw [hget,if_neg (by omega),<- g1,hs,R3]
       grind
      rw [gar (by omega),hol] at hq;obtain ⟨u',g1,g2,g3⟩:=hvs.is.get hq hj;have hq2:q-len<news.length:=(ges hq).1;have := vV (s:=s) hq2 (j:=j+1) hj1;have e:q*s=(q-len)*s+len*s:=by
       rw [<- R3]
       congr 1
       omega
      rw [<- hse] at g1 hvl;refine ⟨u',?_,g2,g3⟩;rw [hget,if_pos (by omega),<- g1]
      congr 1
      omega)
    refine hK _ _ (by rw [<- hH];rfl) hrel hext ?_;have hlv:=Cx.upd_live_self (k:=⟨ver+1,s,k.ty,(k.rows.drop off).take len++news⟩) (p:=((c.φ b).1,(c.φ b).2+off*s)) (cs:=cs2) hl;exact Ot (k:=⟨ver+1,s,k.ty,(k.rows.drop off).take len++news⟩) hlv (cs:=cs2) (t:=k.ty) (fr:=fr) (by
      rw [Cx.upd_φ_self];exact setRow_heap c.w (c.φ b).1 cur cs2 k.ty fr hat) (by simp_all) hroom hcm (λh=>by rw [Cx.upd_φ_self];grind) (by rw [Cx.upd_φ_self,hsz2];omega)
   -- it moves
   have hroom':cap<len+news.length:=by omega
   have hold:GK c (c.φ b).1 ((c.φ b).2+off*s) s ((k.rows.drop off).take len):=by
    refine ⟨λq r hq=>by rw [hB.len _ r (holdr q r hq).2,hs],λq r j a' hq hj=>?_⟩;obtain ⟨u',g1,g2,g3⟩:=hB.rel _ r j a' (holdr q r hq).2 hj;refine ⟨u',?_,g2,g3⟩;rw [cell_of_row c.w _ _ cur k.ty fr hat,<- g1,hs,R3]
    congr 1
    omega
   obtain ⟨ovs,ho1⟩:=xU (P:=P) (cap:=cap) (A:=A) hol (λh=>hA<|by omega) hold;obtain ⟨hovl,hov1,_⟩:=ho1.is;have hfo:=ho1.cells c.w.drew rfl;rw [hol,hse,hce] at hfo;have hfn:=hvs.cells c.w.drew rfl;rw [hce] at hfn;obtain ⟨nc,hnc1,hnc2,hrun⟩:=rV (ty:=o.type) ht hu hi hz (hvs.len c.w) hfo hfn hroom' hb2 (by rw [<- hby];exact hb1);rw [qH ho h1 h2 h3 (by rw [hux];exact hrun)];generalize hcs3:ovs.toArray++vs.toArray++Builtin.zeroCells z.cells (nc-(len+news.length))=cs3;have hovs:ovs.length=len*s:=by rw [hovl,hol]
   have hvss:vs.length=news.length*s:=by rw [hvl,hse]
   have hdr:=Cx.drew_rel hr;have hld:c.drew.live b k:=hl;have hlt:k.ver<ver+1:=by rw [hv];exact Nat.lt_succ_self _
   have hnl:((k.rows.drop off).take len++news).length=len+news.length:=by rw [lla,hol]
   have hget3:∀ q u',(ovs++vs)[q]? = Rk u'->cs3[q]? = Rk u':=λq u' hq=>by
    have hq2:=(ges hq).1;rw [<- hcs3,Sf (by simpa using hq2)];simpa using hq
   have hsz3:len*s+news.length*s<=cs3.size:=by
    rw [<- hcs3];simp only [Sg,Si];omega
   have hext:=Cx.mov_ext (k:=⟨ver+1,s,k.ty,(k.rows.drop off).take len++news⟩) (cs:=cs3) hdr hld hlt;have hrel:=Cx.mov_rel (k:=⟨ver+1,s,k.ty,(k.rows.drop off).take len++news⟩) (cs:=cs3) hdr hld hlt hpos (by simp only;rw [hnl,R3];exact hsz3) hrl (λq row j a' hq hj=>by
     simp only at hq ⊢;rcases R7 q len with hlt | hge
     ·rw [gal (by omega)] at hq;obtain ⟨u',g1,g2,g3⟩:=ho1.is.get hq hj;have g4:=(ges g1).1;exact ⟨u',hget3 _ _ (by rw [gal g4];exact g1),g2,g3.ext hr c.drew_ext⟩
     rw [gar (by omega),hol] at hq;obtain ⟨u',g1,g2,g3⟩:=hvs.is.get hq hj;have e:q*s=(q-len)*s+len*s:=by
      rw [<- R3]
      congr 1
      omega
     rw [<- hse] at g1;refine ⟨u',hget3 _ _ ?_,g2,g3.ext hr c.drew_ext⟩;rw [gar (by omega),<- g1]
     congr 1
     omega)
   have hty2:(c.drew.mov b ⟨ver+1,s,k.ty,(k.rows.drop off).take len++news⟩ cs3).w=c.w.drew.alloc (.cells cs3 e):=by
    show c.w.drew.alloc (.cells cs3 k.ty)=_;rw [hty]
   rw [<- hty2];refine hK _ _ (by rw [<- hH];rfl) hrel (c.drew_ext.trans hext) ?_;have hlv:=Cx.mov_live_self (k:=⟨ver+1,s,k.ty,(k.rows.drop off).take len++news⟩) (cs:=cs3) hld;refine Ot (k:=⟨ver+1,s,k.ty,(k.rows.drop off).take len++news⟩) hlv (cs:=cs3) (t:=k.ty) (fr:=(0,0)) (by
     rw [Cx.mov_φ_self];exact heap_alloc_new _ _) (by simp only;omega) hnc1 hnc2 (λ_=>by rw [Cx.mov_φ_self];rfl) ?_
   rw [Cx.mov_φ_self,<- hcs3];simp only [Sg,Si,qG,hovs,hvss,hzs,<- hse];rw [<- R3,<- R3,Sd]
   simp_all
theorem FD {cl:Call} {x y:Operand} {t u e:TypeId} {news:List (List AV)} {H:AH} (ho:o.op = .call cl) (h1:cl.callee = .builtin .append) (h2:cl.args.toList=[x,y]) (h3:cl.argTypes.toList=[t,u])
  (ht:P.underlying t=Rk (.slice e)) (hu:(∃ e2,P.underlying u=Rk (.slice e2))\/P.underlying u=Rk .string) (hx:ρ x = .nil) (hpos:0<P.cellsOf e)
  (hz:(((P.info? e).bind (·.zero)).map λz=>z.cells.size)=Rk (P.cellsOf e)) (hb1:news.length*P.bytesOf e<=35184372088832) (hb2:news.length<=35184372088832) (hn:news.length≠0)
  (hsrc:∀ (c:Cx) (v:Value),c.H=H->HRel c->c.rel (ρ y) v->∃ vs,SrcIs P c (P.cellsOf e) v news vs) :
  QO P o ρ H (.hs H.length 0 (P.cellsOf e) 0 news.length) (H++[Rk ⟨0,P.cellsOf e,e,news⟩]):=by
 intro c a K Q hH hr hxs hK;obtain ⟨ox,oy⟩:=tZ ho h2;have hx1:=il<|hx ▸ hxs x ox;obtain ⟨vs,hvs⟩:=hsrc c _ hH hr<|hxs y oy;obtain ⟨hvl,hv1,_⟩:=hvs.is
 cases hi:P.info? e with
 | none=>simp_all
 | some i=>
  rw [hi] at hz;simp only [Sq] at hz;obtain ⟨z,hz,hzs⟩:=Sa.1 hz;have hby:P.bytesOf e=i.bytes:=by simp [Program.bytesOf,hi]
  have hce:P.cellsOf e=i.size:=by simp [Program.cellsOf,hi]
  have hfn:=hvs.cells c.w.drew rfl;rw [hce] at hfn;have hfo:(Builtin.firstCells i.size 0<|.slice Rl 0 0).run P c.w.drew = .ok #[] c.w.drew:=by simp [Builtin.firstCells]
  obtain ⟨nc,hnc1,hnc2,hrun⟩:=rV (ty:=o.type) ht hu hi hz (hvs.len c.w) hfo hfn (by omega) (by omega) (by simp_all);unfold Oper.wp;rw [qH ho h1 h2 h3 (by rw [hx1];exact hrun)];generalize hcs3 : #[]++vs.toArray++Builtin.zeroCells z.cells (nc-(0+news.length))=cs3;have hdr:=Cx.drew_rel hr;have hsz3:nc*P.cellsOf e<=cs3.size:=by
   rw [<- hcs3];simp only [Sg,Si,qG,hzs,hvl,Sr,Sd];rw [<- R3];exact Sc _ (by omega)
  have hget3:∀ q u',vs[q]? = Rk u'->cs3[q]? = Rk u':=λq u' hq=>by
   have hq2:=(ges hq).1;rw [<- hcs3,Sf (by simpa using hq2)]
   simp_all
  have hrel:=Cx.new_rel (k:=⟨0,P.cellsOf e,e,news⟩) (cs:=cs3) hdr hpos (by
    grind) (λq row hq=>hvs.rows q row hq) (λq row j a' hq hj=>by
    obtain ⟨u',g1,g2,g3⟩:=hvs.is.get hq hj;exact ⟨u',hget3 _ _ g1,g2,g3.ext hr c.drew_ext⟩)
  have hh:=Cx.new_hs c.drew ⟨0,P.cellsOf e,e,news⟩ cs3 (n:=news.length) (cap:=nc) (RZ _) (by omega) hnc2 hsz3;rw [Sd];have := hK _ (c.drew.new ⟨0,P.cellsOf e,e,news⟩ cs3) (by rw [<- hH];rfl) hrel (c.drew_ext.trans<|Cx.new_ext hdr _ _) (by rw [<- hH];exact hh);exact this
theorem Ab {cl:Call} {x y:Operand} {t u e:TypeId} {news:List (List AV)} {H:AH} (ho:o.op = .call cl) (h1:cl.callee = .builtin .append) (h2:cl.args.toList=[x,y]) (h3:cl.argTypes.toList=[t,u])
  (ht:P.underlying t=Rk (.slice e)) (hu:(∃ e2,P.underlying u=Rk (.slice e2))\/P.underlying u=Rk .string) (hx:ρ x = .nil)
  (hz:(((P.info? e).bind (·.zero)).map λz=>z.cells.size)=Rk (P.cellsOf e)) (hn:news.length=0)
  (hsrc:∀ (c:Cx) (v:Value),c.H=H->HRel c->c.rel (ρ y) v->∃ vs,SrcIs P c (P.cellsOf e) v news vs):QO P o ρ H .nil H:=by
 intro c a K Q hH hr hxs hK;obtain ⟨ox,oy⟩:=tZ ho h2;have hx1:=il<|hx ▸ hxs x ox;obtain ⟨vs,hvs⟩:=hsrc c _ hH hr<|hxs y oy
 cases hi:P.info? e with
 | none=>simp_all
 | some i=>
  have hce:P.cellsOf e=i.size:=by simp [Program.cellsOf,hi]
  have hrun:=xW (ty:=o.type) ht hu hi (A:=none) (n:=0) (cap:=0) (m:=news.length) (x:=a.eval y) (news:=vs.toArray) (w':=c.w) (hvs.len c.w) (by rw [<- hce];exact hvs.cells c.w rfl) (by omega) (λ_=>rfl) (λad h=>by cases h);unfold Oper.wp;rw [qH ho h1 h2 h3 (by rw [hx1];exact hrun),hn];exact hK _ c hH hr (Ext.refl c)<|.fr .nil
theorem IY {cl:Call} {H:AH} {K:AV->AH->Prop} (ho:o.op = .call cl) (h:IG P ρ cl.callee cl.args.toList cl.argTypes.toList H K):∃ r H',QO P o ρ H r H'/\K r H':=by
 unfold IG at h
 split at h
 ·rename_i x y t u h1 h2 h3
  split at h
  ·rename_i e ht hu;obtain ⟨news,h,hsrc⟩:=IX h;have hu2:(∃ e2,P.underlying u=Rk (.slice e2))\/P.underlying u=Rk .string:=by
    unfold Hz at hu
    split at hu
    ·rename_i e2 h;exact .inl ⟨e2,h⟩
    ·rename_i h;exact .inr h
    cases hu
   split at h
   ·rename_i b ver s off len hx
    split at h
    ·rename_i k hk;obtain ⟨⟨g1,g2,g4,g7,g8⟩,hK⟩:=h;obtain ⟨hk2,hK⟩:=Ck.elim hK;simp only [bae,beq_iff_eq] at hk2;obtain ⟨⟨g3,g5⟩,g6⟩:=hk2;exact ⟨_,_,BB ho h1 h2 h3 ht hu2 hx hk g1 g2 g3 g4 g5 g6 g7 g8 hsrc,hK⟩
    exact h.elim
   ·rename_i hx;obtain ⟨⟨g3,g4⟩,hK⟩:=h;obtain ⟨hk2,hK⟩:=Ck.elim hK;simp only [bae,beq_iff_eq,dte] at hk2;obtain ⟨g1,g2⟩:=hk2;rcases hK.elim with ⟨hb,hK⟩ | ⟨hb,hK⟩
    ·exact ⟨_,_,Ab ho h1 h2 h3 ht hu2 hx g2 (by simpa using hb) hsrc,hK⟩
    exact ⟨_,_,FD ho h1 h2 h3 ht hu2 hx g1 g2 g3 g4 (by simpa using hb) hsrc,hK⟩
   exact h.elim
  simp_all
 obtain ⟨r,hv,hK⟩:=EA ho h;exact ⟨r,H,hv.op H,hK⟩
theorem IZ {H:AH} {K:AV->AH->Prop} (h:Fu P ρ o.op H K):∃ r H',QO P o ρ H r H'/\K r H':=by
 unfold Fu at h
 split at h
 case h_1 t ho=>
  split at h
  ·rename_i i hi
   split at h
   ·rename_i z hz;obtain ⟨hk,h⟩:=Ck.elim h;simp only [bae,dte] at hk;exact ⟨_,_,IQ ho hi hz hk.1 hk.2,h⟩
   exact h.elim
  simp_all
 case h_2 t x ho=>
  split at h
  ·rename_i cs hc;obtain ⟨hk,h⟩:=Ck.elim h;exact ⟨_,_,MU ho hc<|of_decide_eq_true hk,h⟩
  simp_all
 case h_3 t n parts ho=>
  split at h
  ·rename_i e ht
   split at h
   ·rename_i rows hrows;obtain ⟨hk,hK⟩:=Ck.elim h;simp only [bae,beq_iff_eq,dte,R4] at hk;obtain ⟨⟨⟨⟨⟨g1,g2⟩,g3⟩,g4⟩,g5⟩,g6⟩:=hk;exact ⟨_,_,CH ho ht hrows g1 g2 g3 g4 g5 g6,hK⟩
   exact h.elim
  simp_all
 case h_4 t l c ho=>
  split at h
  ·rename_i e l' c' ht hl hc
   split at h
   ·rename_i z hz;obtain ⟨⟨g1,g2,g3,g4⟩,hK⟩:=h;obtain ⟨hk,hK⟩:=Ck.elim hK;simp only [bae,beq_iff_eq,dte] at hk;obtain ⟨⟨g5,g6⟩,g7⟩:=hk;exact ⟨_,_,DI ho ht hl hc hz g1 g2 g3 g4 g5 g6 g7,hK⟩
   exact h.elim
  simp_all
 case h_5 t x ho=>
  split at h
  ·rename_i b ver s i j hx
   split at h
   ·rename_i k hk;obtain ⟨⟨g1,g2,g3⟩,hK⟩:=h;obtain ⟨r,hp,hK⟩:=xP hK;exact ⟨_,_,IU ho hx hk g1 g2 g3 hp,hK⟩
   simp_all
  obtain ⟨r,hv,hK⟩:=DF (o:=o) (K:=λr=>K r H) (by rw [ho];exact h);exact ⟨r,H,hv.op H,hK⟩
 case h_6 t x y ho=>
  split at h
  ·rename_i b ver s i j cs hx hy
   split at h
   ·rename_i k hk;obtain ⟨⟨g1,g2,g3,g5⟩,hK⟩:=h;obtain ⟨hk2,hK⟩:=Ck.elim hK;simp only [bae,beq_iff_eq] at hk2;obtain ⟨g4,g6⟩:=hk2;exact ⟨_,_,IW ho hx hy hk g1 g2 g3 g4 g5 g6,sO.1 hK⟩
   exact h.elim
  simp_all
 case h_7 cl ho=>exact IY ho h
 case h_8=>
  obtain ⟨r,hv,hK⟩:=DF (o:=o) (K:=λr=>K r H) h;exact ⟨r,H,hv.op H,hK⟩
end
def iq (P:Program) (f:FuncId):Bool:=match P.funcs[f]? with
 | some fn => !(fn.name == "runtime.NumGoroutine") && fn.body.isSome
 | none=>Rj
def EC (c:Cx) (Rf:List AV) (vs:Array Value):Prop:=vs.size=Rf.length/\∀ (i:Nat) (a:AV) (v:Value),Rf[i]? = Rk a->vs[i]? = Rk v->c.rel a v
def dS (P:Program) (f:FuncId) (Rf:List AV) (H:AH) (r:AV) (H':AH):Prop:=
 iq P f=Ri/\∀ (c:Cx) (vs:Array Value),c.H=H->HRel c->EC c Rf vs->Calls P f vs c.w λe w'=>∃ v c',e = .returned v/\c'.w=w'/\c'.H=H'/\HRel c'/\Ext c c'/\c'.rel r v
def GL (P:Program) (f:FuncId) (Rf:List AV) (H:AH) (K:AV->AH->Prop):Prop:=∃ r H',dS P f Rf H r H'/\K r H'
def La (P:Program) (f:FuncId) (Rf:List AV) (K:AV->Prop):Prop:=∃ r,(∀ H,dS P f Rf H r H)/\K r
def aop (P:Program) (ρ:Operand->AV) (op:Op) (H:AH) (K:AV->AH->Prop):Prop:=match op with
 | .call c=>(match c.callee with
  | .value f=>(match ρ f with
   | .fn (.func g) oO=>GL P g (c.args.toList.map ρ++oO) H K
   | _=>False)
  | _=>Fu P ρ (.call c) H K)
 | op=>Fu P ρ op H K
def Og (P:Program) (ρ:Operand->AV) (op:Op) (K:AV->Prop):Prop:=match op with
 | .call c=>(match c.callee with
  | .value f=>(match ρ f with
   | .fn (.func g) oO=>La P g (c.args.toList.map ρ++oO) K
   | _=>False)
  | _=>xG P ρ (.call c) K)
 | op=>xG P ρ op K
section
variable {P:Program} {o:Oper} {ρ:Operand->AV}
theorem vg {f:FuncId} (h:iq P f=Ri) (vs:Array Value) (w:World):(callFunc f vs).run P w = .ok (.enter f vs) w:=by
 unfold iq at h
 split at h
 ·rename_i fn hf;simp only [bae,Bool.not_eq_true'] at h;obtain ⟨h1,h2⟩:=h;have h3:fn.body≠Rl:=λhb=>by rw [hb] at h2;cases h2
  have h1' : fn.name ≠ "runtime.NumGoroutine" := by simpa using h1
  simp [callFunc,program,hf,h1',h3,Sem.run]
 grind
theorem GM {cl:Call} {f:Operand} {g:FuncId} {oO:List AV} {H H':AH} {r:AV} (ho:o.op = .call cl) (hc:cl.callee = .value f) (hf:ρ f = .fn (.func g) oO) (h:dS P g (cl.args.toList.map ρ++oO) H r H'):QO P o ρ H r H':=by
 intro c a K Q hH hr hxs hK;have hf1:=hf ▸ hxs f (by rw [ho];simp [Op.operands,Call.operands,hc]);obtain ⟨vs,he,hl,hrel⟩:=Aa hf1;have hargs:EC c (cl.args.toList.map ρ++oO) (cl.args.map a.eval++vs):=by
  refine ⟨by simp [hl],λi q v hq hv=>?_⟩;rcases R7 i cl.args.size with hlt | hge
  ·rw [gal (by simpa using hlt),R9,Sw,Sj hlt] at hq;rw [Sf (by simpa using hlt),Array.getElem?_map,Sj hlt] at hv;simp only [Ss,sie] at hq hv;subst hq hv;refine hxs _ ?_;rw [ho];simp [Op.operands,Call.operands]
  rw [gar (by simpa using hge)] at hq;rw [Array.getElem?_append_right (by simpa using hge)] at hv;simp only [llm,Se,Array.size_map] at hq hv;exact hrel _ q v hq hv
 have hrun:(execOp a.eval o).run P c.w = .ok (.enter g<|cl.args.map a.eval++vs) c.w:=by
  rw [execOp,ho];simp only [resolve,hc,he,Deferred.ofValue,Sem.run_bind,Sem.run_pure,Result.andThen_ok,invoke];have := vg h.1 (cl.args.map a.eval++vs) c.w;simpa using this
 unfold Oper.wp;rw [hrun,Oper.upon_enter];refine (h.2 c _ hH hr hargs).mono λe w' ⟨v,c',he,hw,hH',hr',hx,hv⟩ => ?_
 grind
theorem Ou {H:AH} {K:AV->AH->Prop} (h:aop P ρ o.op H K):∃ r H',QO P o ρ H r H'/\K r H':=by
 unfold aop at h
 split at h
 ·rename_i cl ho
  split at h
  ·rename_i f hc
   split at h
   ·rename_i g oO hf;obtain ⟨r,H',h1,h2⟩:=h;exact ⟨r,H',GM ho hc hf h1,h2⟩
   simp_all
  exact IZ (by simp_all)
 exact IZ h
theorem MV {K:AV->Prop} (h:Og P ρ o.op K):∃ r,(∀ H,QO P o ρ H r H)/\K r:=by
 unfold Og at h
 split at h
 ·rename_i cl ho
  split at h
  ·rename_i f hc
   split at h
   ·rename_i g oO hf;obtain ⟨r,h1,h2⟩:=h;exact ⟨r,λH=>GM ho hc hf<|h1 H,h2⟩
   simp_all
  obtain ⟨r,h1,h2⟩:=DF (o:=o) (K:=K) (by rw [ho];exact h);exact ⟨r,λH=>h1.op H,h2⟩
 obtain ⟨r,h1,h2⟩:=DF h;exact ⟨r,λH=>h1.op H,h2⟩
theorem QO.congr {ρ':Operand->AV} {H H':AH} {r:AV} (h:QO P o ρ H r H') (he:∀ x∈o.op.operands,ρ x=ρ' x):QO P o ρ' H r H':=
 λc a K Q hH hr hxs hK=>h c a K Q hH hr (λx hx=>by simp_all) hK
def MW (P:Program) (k:Nat) (o:Oper) (ρ:Operand->AV) (H:AH) (r:AV) (H':AH):Prop:=
 (k=0/\H'=H/\∀ G,QO P o ρ G r G)\/(k=1/\H'=H/\QO P o ρ H r H)\/(k=2/\QO P o ρ H r H')
theorem MW.op {k:Nat} {H H':AH} {r:AV} (h:MW P k o ρ H r H'):QO P o ρ H r H':=by
 rcases h with ⟨_,rfl,h⟩ | ⟨_,rfl,h⟩ | ⟨_,h⟩
 ·exact h _
 ·exact h
 omega
def Ov (a b:Nat):Bool:=a==0||b==0||(a<=1&&b<=1)
theorem Lb {e:Env} {d:Option Tmp} {r:AV} {x:Operand} (h:∀ t,d=Rk t->x ≠ .tmp t):rho (p7 e d r) x=rho e x:=by
 cases d with
 | none=>rfl
 | some d=>
  cases x with
  | tmp t=>
   have : t≠d:=λhe=>h d rfl<|he ▸ rfl;simp [rho,xH,this]
  | _=>rfl
theorem sS {ops:Array Oper} {e:Env} {oi oj:Oper} {r:AV} (h:∀ d,oi.dst=Rk d->d∉oj.looksAt ops):∀ x∈oj.op.operands,rho (p7 e oi.dst r) x=rho e x:=by
 intro x hx;refine Lb λt ht hxt=>h t ht ?_;subst hxt;exact List.mem_append_left _<|List.mem_filterMap.2 ⟨.tmp t,by simp_all,rfl⟩
theorem xX {e:Env} {x y:Option Tmp} {r q:AV} (h:∀ d,x=Rk d->y≠Rk d):p7 (p7 e x r) y q=p7 (p7 e y q) x r:=by
 cases x with
 | none=>rfl
 | some d=>
  cases y with
  | none=>rfl
  | some d'=>
   have hne:d≠d':=λhe=>h d rfl<|he ▸ rfl
   funext t
   simp only [xH]
   grind
end
theorem GL.intro {P:Program} {f:FuncId} {Rf:List AV} {H H':AH} {r:AV} {K:AV->AH->Prop} (h:dS P f Rf H r H') (k:K r H'):GL P f Rf H K:=⟨r,H',h,k⟩
theorem La.intro {P:Program} {f:FuncId} {Rf:List AV} {r:AV} {K:AV->Prop} (h:∀ H,dS P f Rf H r H) (k:K r):La P f Rf K:=⟨r,h,k⟩
attribute [irreducible] GL La
def eu (all:List Oper) (e:Env) (j:Nat):AV:=match (all[j]?).bind (·.dst) with
 | some d=>e d
 | none => .top
def know (e:Env) (d:Option Tmp) (b:Bool):Env:=p7 e d<|.v<|.bool b
def yU (all:List Oper) (j:Nat):Option Tmp:=(all[j]?).bind (·.dst)
def Qn (P:Program) (all:List Oper) (o:Oper) (ih:(Env->AH->Prop)->Env->AH->Prop) (K:Env->AH->Prop) (e:Env) (H:AH):Prop:=match o.guard with
  | none=>aop P (rho e) o.op H λr H'=>ih K (p7 e o.dst r) H'
  | some (j,b)=>match eu all e j with
   | .v (.bool q)=>(match b with
    | true=>Br q (aop P (rho<|know e (yU all j) Ri) o.op H λr H'=>ih K (p7 (know e (yU all j) Ri) o.dst r) H') (ih K (p7 (know e (yU all j) Rj) o.dst<|.tup []) H)
    | false=>Br q (ih K (p7 (know e (yU all j) Ri) o.dst (.tup [])) H) (aop P (rho (know e (yU all j) Rj)) o.op H λr H'=>ih K (p7 (know e (yU all j) Rj) o.dst r) H'))
   | .tup []=>ih K (p7 e o.dst<|.tup []) H
   | _=>False
def ED (P:Program) (cls:Nat->Nat):Nat->List Oper->(Env->AH->Prop)->Env->AH->Prop
 | _,[],K,e,H=>K e H
 | k,o::rest,K,e,H=>match cls k with
  | 0=>Og P (rho e) o.op λr=>ED P cls (k+1) rest K (p7 e o.dst r) H
  | 1=>aop P (rho e) o.op H λr H'=>H'=H/\ED P cls (k+1) rest K (p7 e o.dst r) H
  | 2=>aop P (rho e) o.op H λr H'=>ED P cls (k+1) rest K (p7 e o.dst r) H'
  | _=>False
def Ox (ops:Array Oper) (cls:Nat->Nat):Bool:=
 Region.lexB .any ops&&ops.all (λo=>o.guard.isNone) &&
 (R5 ops.size).all λi=>(R5 ops.size).all λj=>Rm (j<=i)||Ov (cls i) (cls j)||match ops[j]? with
  | some oj=>oj.after.any λed=>Region.binds .any ed&&ed.on==i
  | none=>Ri
def I0 (P:Program) (ops:Array Oper) (K:Env->AH->Prop) (e:Env) (H:AH):Prop:=P.follows .mixedOrders=Ri/\∃ cls,Ox ops cls=Ri/\ED P cls 0 ops.toList K e H
section
variable {P:Program}
def Oy:Exit->Prop
 | .normal | .exit _ | .ret=>True
 | _=>False
def Oz (nt:Nat) (c:Cx) (Q:Exit->Env->AH->Prop):Exit->Act->World->Prop:=λx a w=>Oy x/\∃ c' e,c'.w=w/\Ext c c'/\SRel c' nt e a/\Q x e c'.H
def H5 (nt:Nat) (ops:List Oper):Bool:=ops.all λo=>match o.dst with
 | some d=>Rm (d<nt)
 | none=>Ri
theorem n8 {nt:Nat} {ops:List Oper} (h:H5 nt ops=Ri) {o:Oper} (ho:o∈ops):∀ t,o.dst=Rk t->t<nt:=λt ht=>by
 have := R4.1 h o ho
 simp_all
end
theorem I0.intro {P:Program} {ops:Array Oper} {K:Env->AH->Prop} {e:Env} {H:AH} (h:P.follows .mixedOrders=Ri/\∃ cls,Ox ops cls=Ri/\ED P cls 0 ops.toList K e H):I0 P ops K e H:=h
attribute [irreducible] I0
inductive Fz (m:Nat) (H:AH):AV->AV->Prop
 | v {x:Value}:Fz m H (.v x) (.v x)
 | nil:Fz m H .nil .nil
 | nil0 {row:Nat->List AV}:Fz m H .nil (.sl 0 row)
 | eqv {a r r':AV} (h:Fz m H a r) (he:∀ (w:World) (fz:Nat->Prop) (v:Value),FRel w fz r v->FRel w fz r' v):Fz m H a r'
 | sl {n:Nat} {row row':Nat->List AV} (h:∀ i,i<n->row i=row' i):Fz m H (.sl n row) (.sl n row')
 | fp {row:List AV} {j:Nat}:Fz m H (.fp row j) (.fp row j)
 | agg {cs ds:List AV} (hl:cs.length=ds.length) (h:∀ (i:Nat) (c d:AV),cs[i]? = Rk c->ds[i]? = Rk d->Fz m H c d):Fz m H (.agg cs) (.agg ds)
 | tup {cs ds:List AV} (hl:cs.length=ds.length) (h:∀ (i:Nat) (c d:AV),cs[i]? = Rk c->ds[i]? = Rk d->Fz m H c d):Fz m H (.tup cs) (.tup ds)
 | ifc {t:TypeId} {x y:AV} (h:Fz m H x y):Fz m H (.ifc t x) (.ifc t y)
 | fn {f:Fn} {cs ds:List AV} (hl:cs.length=ds.length) (h:∀ (i:Nat) (c d:AV),cs[i]? = Rk c->ds[i]? = Rk d->Fz m H c d):Fz m H (.fn f cs) (.fn f ds)
 | hs {b ver s off len:Nat} {k:ABlk} {row':Nat->List AV} (hm:m<=b) (hk:H[b]? = Rk (Rk k)) (hv:k.ver=ver) (hks:k.s=s) (hn:off+len<=k.rows.length)
   (hl:∀ (i:Nat) (r:List AV),i<len->k.rows[off+i]? = Rk r->r.length=(row' i).length)
   (h:∀ (i:Nat) (r:List AV) (j:Nat) (c d:AV),i<len->k.rows[off+i]? = Rk r->r[j]? = Rk c->(row' i)[j]? = Rk d->Fz m H c d):Fz m H (.hs b ver s off len) (.sl len row')
 | hp {b ver s i j:Nat} {k:ABlk} {r row':List AV} (hm:m<=b) (hk:H[b]? = Rk (Rk k)) (hv:k.ver=ver) (hks:k.s=s) (hi:k.rows[i]? = Rk r) (hl:r.length=row'.length)
   (h:∀ (j:Nat) (c d:AV),r[j]? = Rk c->row'[j]? = Rk d->Fz m H c d):Fz m H (.hp b ver s i j) (.fp row' j)
def Cx.all (c:Cx) (m g:Nat):Prop:=c.fz g\/∃ b k,m<=b/\c.live b k/\(c.φ b).1=g
theorem Cx.all_lt {c:Cx} {m:Nat} (hr:HRel c) {g:Nat} (h:c.all m g):g<c.w.heap.size:=by
 rcases h with h | ⟨b,k,_,h1,rfl⟩
 ·exact hr.lt g h
 exact hr.live_lt h1
theorem bG {α:Type} {l m:List α} (h:l.length=m.length) {i:Nat} {a:α} (hi:l[i]? = Rk a):∃ b,m[i]? = Rk b:=by
 grind
theorem Fz.sound {m:Nat} {c:Cx} (hr:HRel c) {a r:AV} (h:Fz m c.H a r):∀ v,c.rel a v->FRel c.w (c.all m) r v:=by
 induction h with
 | v=>
  intro u hu;obtain ⟨rfl,hp⟩:=ik hu;exact .v hp
 | nil=>
  intro u hu;obtain rfl:=il hu;exact .nil
 | eqv _ he ih=>simp_all
 | nil0=>
  intro u hu;obtain rfl:=il hu;exact .sl (s:=0) (g:=0) (o:=0) (λ_ _=>undef) (RZ _) (by omega) (λh=>absurd h<|by omega) (λi hi=>absurd hi<|by omega) (λi j c hi=>absurd hi<|by omega) (λi j c hi=>absurd hi<|by omega) λi j c hi=>absurd hi (by omega)
 | @sl n row row' he=>
  intro u hu;have hf:=(uG hu).mono (w':=c.w) (fz':=c.all m) (RZ _) λg hg _=>⟨rfl,.inl hg⟩
  cases hf with
  | @sl _ cap s g o _ a us hc hm ha hs hu2 h1 h=>
   refine .sl (s:=s) (g:=g) (o:=o) us hc hm ha (λi hi=>?_) (λi j a hi hj=>?_) (λi j a hi hj=>?_) λi j a hi hj=>?_
   ·rw [<- he i hi];exact hs i hi
   ·rw [<- he i hi] at hj;exact hu2 i j a hi hj
   ·rw [<- he i hi] at hj;exact h1 i j a hi hj
   simp_all
 | fp=>
  intro u hu;exact (uH hu).mono (RZ _) λg hg _=>⟨rfl,.inl hg⟩
 | agg hl _ ih=>
  intro u hu;obtain ⟨vs,rfl,h1,h2,h3⟩:=tX hu;refine .agg (h1.trans hl) h2 λi d u hd hu=>?_
  grind
 | tup hl _ ih=>
  intro u hu;obtain ⟨vs,rfl,h1,h3⟩:=yR hu;refine .tup (h1.trans hl) λi d u hd hu=>?_
  grind
 | ifc _ ih=>
  intro u hu;obtain ⟨y,rfl,h⟩:=yS hu;exact .ifc<|ih y h
 | fn hl _ ih=>
  intro u hu;obtain ⟨vs,rfl,h1,h3⟩:=Aa hu;refine .fn (h1.trans hl) λi d u hd hu=>?_
  grind
 | @hs b ver s off len k row' hmb hk hv hks hn hl _ ih=>
  intro u hu;have hlv:c.live b k:=hk;obtain ⟨cs,fr,hB⟩:=hr.blk b k hlv
  cases hu with
  | fr h=>cases h
  | @hs _ _ _ _ _ cap A hb hc hm h0 hh=>
   obtain ⟨fr,rfl,hat,hd⟩:=hB.cells hlv λx hx=>(hh x<|hv ▸ hx).1.trans hks.symm;rw [hv] at hd;obtain ⟨hs',_,hA,_⟩:=hh _ hd;have hrow:∀ i,i<len->∃ r,k.rows[off+i]? = Rk r:=λi hi=>⟨_,geq<|by omega⟩;refine .sl (g:=(c.φ b).1) (o:=(c.φ b).2+off*s) (s:=s) (λi j=>(cs[(c.φ b).2+(off+i)*s+j]?).getD undef) hc hm (λhn=>⟨hA (by omega),.inr ⟨b,k,hmb,hlv,rfl⟩,hr.live_lt hlv⟩) (λi hi=>?_) (λi j d hi hj=>?_) (λi j d hi hj=>?_) λi j d hi hj=>?_
   ·obtain ⟨r,hr'⟩:=hrow i hi;rw [<- hl i r hi hr',hB.len _ r hr'];exact hs'
   all_goals
    obtain ⟨r,hr'⟩:=hrow i hi;obtain ⟨q,hq⟩:=bG (hl i r hi hr').symm hj;obtain ⟨u,g1,g2,g3⟩:=hB.rel _ r j q hr' hq;have hs2:k.s=s:=hs';rw [hs2] at g1
   ·rw [cell_of_row c.w _ _ cs k.ty fr hat];have e:(c.φ b).2+off*s+i*s+j=(c.φ b).2+(off+i)*s+j:=by rw [R3];omega
    rw [e,g1]
    rfl
   ·rw [g1];exact g2
   grind
 | @hp b ver s i j k r row' hmb hk hv hks hi hl _ ih=>
  intro u hu;have hlv:c.live b k:=hk;obtain ⟨cs,fr,hB⟩:=hr.blk b k hlv
  cases hu with
  | fr h=>cases h
  | hp hb hh=>
   obtain ⟨fr,rfl,hat,hd⟩:=hB.cells hlv λx hx=>(hh x<|hv ▸ hx).1.trans hks.symm;rw [hv] at hd;obtain ⟨hs',rfl⟩:=hh _ hd;have hs2:k.s=s:=hs';refine .fp (g:=(c.φ b).1) (o:=(c.φ b).2+i*s) (λj=>(cs[(c.φ b).2+i*s+j]?).getD undef) (.inr ⟨b,k,hmb,hlv,rfl⟩) (hr.live_lt hlv) (λq d hq=>?_) (λq d hq=>?_) λq d hq=>?_
   all_goals
    obtain ⟨x,hx⟩:=bG hl.symm hq;obtain ⟨u,g1,g2,g3⟩:=hB.rel _ r q x hi hx;rw [hs2] at g1
   ·rw [cell_of_row c.w _ _ cs k.ty fr hat,g1]
    rfl
   ·rw [g1];exact g2
   grind
inductive Stl (m:Nat) (H:AH):AV->AV->Prop
 | fz {a a':AV} (h:Fz m H a a'):Stl m H a a'
 | top {a:AV}:Stl m H a .top
 | agg {cs ds:List AV} (hl:cs.length=ds.length) (h:∀ (i:Nat) (c d:AV),cs[i]? = Rk c->ds[i]? = Rk d->Stl m H c d):Stl m H (.agg cs) (.agg ds)
 | tup {cs ds:List AV} (hl:cs.length=ds.length) (h:∀ (i:Nat) (c d:AV),cs[i]? = Rk c->ds[i]? = Rk d->Stl m H c d):Stl m H (.tup cs) (.tup ds)
 | ifc {t:TypeId} {x y:AV} (h:Stl m H x y):Stl m H (.ifc t x) (.ifc t y)
 | fn {f:Fn} {cs ds:List AV} (hl:cs.length=ds.length) (h:∀ (i:Nat) (c d:AV),cs[i]? = Rk c->ds[i]? = Rk d->Stl m H c d):Stl m H (.fn f cs) (.fn f ds)
 | hs {b ver s off len:Nat} (hb:b<m):Stl m H (.hs b ver s off len) (.hs b ver s off len)
 | hp {b ver s i j:Nat} (hb:b<m):Stl m H (.hp b ver s i j) (.hp b ver s i j)
 | mp {b s:Nat} (hb:b<m):Stl m H (.mp b s) (.mp b s)
def Cx.settle (c:Cx) (m:Nat) (H0:AH):Cx:={ w:=c.w,fz:=c.all m,H:=H0,φ:=c.φ }
structure Stay (m:Nat) (H H0:AH):Prop where
 len:H0.length=m
 le:m<=H.length
 none_:∀ (b:Nat),b<m->H[b]? = Rk Rl->H0[b]? = Rk Rl
 some_:∀ (b:Nat) (k:ABlk),b<m->H[b]? = Rk (Rk k)->∃ k0,H0[b]? = Rk (Rk k0)/\k0.ver=k.ver/\k0.s=k.s/\k0.ty=k.ty/\k0.rows.length=k.rows.length /\
  ∀ (i:Nat) (r r0:List AV),k.rows[i]? = Rk r->k0.rows[i]? = Rk r0->r.length=r0.length/\∀ (j:Nat) (a a0:AV),r[j]? = Rk a->r0[j]? = Rk a0->Stl m H a a0
section
variable {m:Nat} {c:Cx} {H0:AH}
theorem Stay.back (h:Stay m c.H H0) {b:Nat} {k0:ABlk} (hl:(c.settle m H0).live b k0):b<m/\∃ k,c.live b k/\k0.ver=k.ver/\k0.s=k.s/\k0.ty=k.ty/\k0.rows.length=k.rows.length /\
  ∀ (i:Nat) (r r0:List AV),k.rows[i]? = Rk r->k0.rows[i]? = Rk r0->r.length=r0.length/\∀ (j:Nat) (a a0:AV),r[j]? = Rk a->r0[j]? = Rk a0->Stl m c.H a a0:=by
 have hl':H0[b]? = Rk (Rk k0):=hl;have hb:b<m:=by rw [<- h.len];exact (ges hl').1
 have hlt:b<c.H.length:=Sb hb h.le;have hg:=geq hlt;refine ⟨hb,?_⟩
 cases hx:c.H[b] with
 | none=>
  rw [hx] at hg;rw [h.none_ b hb hg] at hl'
  grind
 | some k=>
  rw [hx] at hg;obtain ⟨k1,h1,h2⟩:=h.some_ b k hb hg;rw [h1] at hl';injection hl' with hl';injection hl' with hl';subst hl';exact ⟨k,hg,h2⟩
theorem xY (h:Stay m c.H H0) {b ver:Nat} (hb:b<m):(c.settle m H0).hd b ver=c.hd b ver:=by
 have hlt:b<c.H.length:=Sb hb h.le;have hg:=geq hlt
 cases hx:c.H[b] with
 | none=>
  rw [hx] at hg;have h1:=h.none_ b hb hg;simp only [Cx.hd,Cx.settle,h1,hg]
 | some k=>
  rw [hx] at hg;obtain ⟨k1,h1,h2,h3,h4,h5,_⟩:=h.some_ b k hb hg;have e:hdo k1 (c.φ b)=hdo k (c.φ b):=funext λo=>Ev h3 h5 _ o;simp only [Cx.hd,Cx.settle,h1,hg,h2,e]
theorem ub (h:Stay m c.H H0) {b ver:Nat} (hb:b<m) (hn:c.born b ver):(c.settle m H0).born b ver:=by
 have hlt:b<c.H.length:=Sb hb h.le;have hg:=geq hlt
 cases hx:c.H[b] with
 | none=>
  rw [hx] at hg;simp only [Cx.born,hg] at hn
 | some k=>
  rw [hx] at hg;obtain ⟨k1,h1,h2,_⟩:=h.some_ b k hb hg;simp only [Cx.born,hg] at hn;simp only [Cx.born,Cx.settle,h1,h2];exact hn
theorem Stl.sound (hr:HRel c) (h:Stay m c.H H0) {a a':AV} (hs:Stl m c.H a a'):∀ v,c.rel a v->(c.settle m H0).rel a' v:=by
 induction hs with
 | fz hz=>exact λv hv => .fr (Fz.sound hr hz v hv)
 | top=>exact λv _ => .top
 | agg hl _ ih=>
  intro u hu;obtain ⟨vs,rfl,h1,h2,h3⟩:=tX hu;refine .agg (h1.trans hl) h2 λi d u hd hu=>?_;obtain ⟨q,hq⟩:=bG hl.symm hd;exact ih i q d hq hd u<|h3 i q u hq hu
 | tup hl _ ih=>
  intro u hu;obtain ⟨vs,rfl,h1,h3⟩:=yR hu;refine .tup (h1.trans hl) λi d u hd hu=>?_;obtain ⟨q,hq⟩:=bG hl.symm hd;exact ih i q d hq hd u<|h3 i q u hq hu
 | ifc _ ih=>
  intro u hu;obtain ⟨y,rfl,h⟩:=yS hu;exact .ifc<|ih y h
 | fn hl _ ih=>
  intro u hu;obtain ⟨vs,rfl,h1,h3⟩:=Aa hu;refine .fn (h1.trans hl) λi d u hd hu=>?_;obtain ⟨q,hq⟩:=bG hl.symm hd;exact ih i q d hq hd u<|h3 i q u hq hu
 | hs hb=>
  intro u hu
  cases hu with
  | fr hf=>cases hf
  | hs hbn hc hm h0 hh=>exact .hs (ub h hb hbn) hc hm h0 (λx hx=>hh x<|by rw [<- xY h hb];exact hx)
 | hp hb=>
  intro u hu
  cases hu with
  | fr hf=>cases hf
  | hp hbn hh=>exact .hp (ub h hb hbn) (λx hx=>hh x<|by rw [<- xY h hb];exact hx)
 | mp hb=>
  intro u hu
  cases hu with
  | fr hf=>cases hf
  | mp hbn hh=>exact .mp (ub h hb hbn) (λx hx=>hh x<|by rw [<- xY h hb];exact hx)
theorem FE (hr:HRel c) (h:Stay m c.H H0):HRel (c.settle m H0) where
 gl:=hr.gl.mono (RZ _) λ_ hg _=>⟨rfl,.inl hg⟩
 lt:=λg hg=>Cx.all_lt hr hg
 blk:=λb k0 hl=>by
  obtain ⟨hb,k,h1,h2,h3,h4,h5,h6⟩:=h.back hl;obtain ⟨cs,fr,hB⟩:=hr.blk b k h1;refine ⟨cs,fr,⟨?_,?_,?_,by rw [h3];exact hB.free,?_,λi r0 h8=>?_,λi r0 j a0 h8 h9=>?_⟩⟩
  ·rw [CQ h3 h4 h5];exact hB.at_
  ·rintro (hg | ⟨b',k',hm,hl',he⟩)
   ·exact hB.nf hg
   exact hr.inj b' b k' k hl' h1 (by omega) he
  ·rw [h3];exact hB.pos
  ·rw [h3,h5];exact hB.fits
  ·obtain ⟨r,hr1⟩:=bG h5 h8;rw [h3,<- hB.len i r hr1]
   grind
  obtain ⟨r,hr1⟩:=bG h5 h8;obtain ⟨h10,h11⟩:=h6 i r r0 hr1 h8;obtain ⟨a,ha⟩:=bG h10.symm h9;obtain ⟨u,g1,g2,g3⟩:=hB.rel i r j a hr1 ha;exact ⟨u,by rw [h3];exact g1,g2,(h11 j a a0 ha h9).sound hr h u g3⟩
 inj:=λb b' k k' hl hl' hne=>by
  obtain ⟨_,k1,h1,_⟩:=h.back hl;obtain ⟨_,k2,h2,_⟩:=h.back hl';exact hr.inj b b' k1 k2 h1 h2 hne
theorem H6 {c0:Cx} (hx:Ext c0 c) (h:Stay m c.H H0) (hm:c0.H.length<=m):Ext c0 (c.settle m H0) where
 os:=hx.os
 tape:=hx.tape
 output:=hx.output
 size:=hx.size
 keep:=hx.keep
 fz:=λg hg => .inl<|hx.fz g hg
 uX:=λg hg=>by
  rcases hg with hg | ⟨b,k,_,hl,rfl⟩
  ·exact hx.uX g hg
  exact .inr<|hx.ib b k hl
 N:=by
  show _<=H0.length;rw [h.len];exact hm
 born:=λb ver hb=>by
  refine ub h ?_<|hx.born b ver hb;exact Sb (iV hb) hm
 hd:=λb ver x hb hx'=>by
  refine hx.hd b ver x hb ?_;rw [<- xY h]
  ·omega
  exact Sb (iV hb) hm
 ib:=λb k0 hl=>by
  obtain ⟨_,k,h1,_⟩:=h.back hl;exact hx.ib b k h1
theorem EE {nt:Nat} {e e0:Env} {a:Act} (hs:SRel c nt e a) (h:Stay m c.H H0) (he:∀ t,Stl m c.H (e t)<|e0 t):SRel (c.settle m H0) nt e0 a:=
 ⟨hs.size,hs.defers,λt=>(he t).sound hs.heap h _<|hs.rel t,FE hs.heap h⟩
def eZ (base:Nat) (e:Env) (H:AH) (e0:Env) (H0:AH):Prop:=(H0=H/\CF e e0)\/∃ m,base<=m/\Stay m H H0/\∀ t,Stl m H (e t)<|e0 t
theorem eZ.state {nt base:Nat} {c0:Cx} {e e0:Env} {a:Act} (hx:Ext c0 c) (hs:SRel c nt e a) (hb:c0.H.length<=base) (h:eZ base e c.H e0 H0):∃ c',c'.w=c.w/\Ext c0 c'/\SRel c' nt e0 a/\c'.H=H0:=by
 rcases h with ⟨rfl,hw⟩ | ⟨m,hm,hst,he⟩
 ·exact ⟨c,rfl,hx,hs.weak hw,rfl⟩
 exact ⟨c.settle m H0,rfl,H6 hx hst<|Nat.le_trans hb hm,EE hs hst he,rfl⟩
end
def FG:Nat->Nat->AV->Bool
 | 0,_,_=>Rj
 | n+1,m,x=>match x with
  | .v _ | .nil | .sl _ _ | .fp _ _ | .top=>Ri
  | .agg cs=>cs.all (FG n m)
  | .tup cs=>cs.all (FG n m)
  | .ifc _ x=>FG n m x
  | .fn _ cs=>cs.all (FG n m)
  | .hs b _ _ _ _=>Nat.blt b m
  | .hp b _ _ _ _=>Nat.blt b m
  | .mp b _=>Nat.blt b m
theorem eX {α:Type} {l:List α} {i:Nat} {c d:α} (h:l[i]? = Rk c) (h':l[i]? = Rk d):c=d/\c∈l:=by
 grind
theorem Stl.low {m:Nat} {H:AH}:∀ (n:Nat) (a:AV),FG n m a=Ri->Stl m H a a
 | 0,_,h=>by cases h
 | n+1,a,h=>by
  cases a with
  | v x=>exact .fz .v
  | nil=>exact .fz .nil
  | sl k row=>exact .fz (.sl λ_ _=>rfl)
  | fp row j=>exact .fz .fp
  | top=>exact .top
  | agg cs=>
   simp only [FG,R4] at h;exact .agg rfl (λi c d hc hd=>by obtain ⟨rfl,hm⟩:=eX hc hd;exact Stl.low n _<|h _ hm)
  | tup cs=>
   simp only [FG,R4] at h;exact .tup rfl (λi c d hc hd=>by obtain ⟨rfl,hm⟩:=eX hc hd;exact Stl.low n _<|h _ hm)
  | fn f cs=>
   simp only [FG,R4] at h;exact .fn rfl (λi c d hc hd=>by obtain ⟨rfl,hm⟩:=eX hc hd;exact Stl.low n _<|h _ hm)
  | ifc t x=>
   simp only [FG] at h;exact .ifc<|Stl.low n x h
  | hs b q s o l=>exact .hs (nlb h)
  | hp b q s i j=>exact .hp (nlb h)
  | mp b s=>exact .mp (nlb h)
inductive StayB (m:Nat) (H:AH):Option ABlk->Option ABlk->Prop
 | dead:StayB m H Rl Rl
 | same {ver s:Nat} {ty:TypeId} {rows CC:List (List AV)} (hl:rows.length=CC.length) (h:∀ (i:Nat) (r r0:List AV),rows[i]? = Rk r->CC[i]? = Rk r0->r.length=r0.length/\∀ (j:Nat) (a a0:AV),r[j]? = Rk a->r0[j]? = Rk a0->Stl m H a a0) :
   StayB m H (Rk ⟨ver,s,ty,rows⟩) (Rk ⟨ver,s,ty,CC⟩)
theorem StayB.keep {m:Nat} {H:AH} {ver s:Nat} {ty:TypeId} {rows:List (List AV)} (h:∀ r∈rows,∀ a∈r,FG 9 m a=Ri):StayB m H (Rk ⟨ver,s,ty,rows⟩) (Rk ⟨ver,s,ty,rows⟩):=
 .same rfl λi r r0 hr hr0=>by
  obtain ⟨rfl,hm⟩:=eX hr hr0;exact ⟨rfl,λj a a0 ha ha0=>by
   obtain ⟨rfl,hm2⟩:=eX ha ha0;exact Stl.low 9 _ (h _ hm _ hm2)⟩
inductive StayL (m:Nat) (H:AH):AH->AH->Prop
 | nil {l:AH}:StayL m H l []
 | cons {x y:Option ABlk} {l k:AH} (h:StayB m H x y) (t:StayL m H l k):StayL m H (x::l) (y::k)
theorem StayL.spec {m:Nat} {H l k:AH} (h:StayL m H l k):k.length<=l.length/\∀ b,b<k.length->∃ x y,l[b]? = Rk x/\k[b]? = Rk y/\StayB m H x y:=by
 induction h with
 | nil=>simp_all
 | @cons x y l k h t ih=>
  grind
theorem Stay.of {H H0:AH} (h:StayL H0.length H H H0):Stay H0.length H H0:=by
 obtain ⟨h1,h2⟩:=h.spec;refine ⟨rfl,h1,λb hb hn=>?_,λb k hb hk=>?_⟩
 ·obtain ⟨x,y,h3,h4,h5⟩:=h2 b hb;rw [hn] at h3;injection h3 with h3;subst h3
  cases h5
  exact h4
 obtain ⟨x,y,h3,h4,h5⟩:=h2 b hb;rw [hk] at h3;injection h3 with h3;subst h3
 cases h5 with
 | same hl h=>grind
def I1 (f:(Exit->Env->AH->Prop)->Env->AH->Prop) (Q:Exit->Env->AH->Prop) (e:Env) (G:AH):Prop:=
 ∃ I:Nat->Env->AH->Prop,(∃ n e0,CF e e0/\I n e0 G)/\∀ n e H,I n e H->f (λx e' H'=>match x with
  | .normal=>∃ n' e0 H0,n'<n/\eZ G.length e' H' e0 H0/\I n' e0 H0
  | x=>Q x e' H') e H
def codeOk (nt:Nat):Code->Bool
 | .seq a b=>codeOk nt a&&codeOk nt b
 | .cond _ a b=>codeOk nt a&&codeOk nt b
 | .block _ a=>codeOk nt a
 | .loop a=>codeOk nt a
 | .region _ ops _=>H5 nt ops.toList
 | _=>Ri
section
variable {P:Program}
theorem H7 {c:Code} {Q:Exit->Act->World->Prop} (I:Nat->Act->World->Prop) {n:Nat} {a:Act} {w:World} (h0:I n a w) (round:∀ n a w,I n a w->c.wp P (Exit.then (λa' w'=>∃ n',n'<n/\I n' a' w') Q) a w):(Code.loop c).wp P Q a w:=by
 intro b k cs;have key:∀ n a w,I n a w->∃ e a' w',Q e a' w'/\Arrives P (lone (b.at a (.code c :: .inLoop c::k)) cs w) b k cs e a' w':=by
  intro n
  induction n using Nat.strongRecOn with
  | _ n ih=>
   intro a w hI;obtain ⟨e,a₁,w₁,hq,harr⟩:=round n a w hI b (.inLoop c::k) cs
   cases e with
   | normal=>
    obtain ⟨n',hlt,hI₁⟩:=hq;obtain ⟨e₂,a₂,w₂,hq₂,harr₂⟩:=ih n' hlt a₁ w₁ hI₁;exact ⟨e₂,a₂,w₂,hq₂,.of_steps (Steps.trans harr<|.one step_inLoop) harr₂⟩
   | exit id=>exact ⟨_,a₁,w₁,hq,.pass (x:=.inLoop c) rfl (λ_ _ => .inl<|by simp) harr⟩
   | goto l=>exact ⟨_,a₁,w₁,hq,.pass (x:=.inLoop c) rfl (λ_ _ => .inl<|by simp) harr⟩
   | ret=>exact ⟨_,a₁,w₁,hq,.pass (x:=.inLoop c) rfl (λ_ _ => .inl<|by simp) harr⟩
   | panic ch=>exact ⟨_,a₁,w₁,hq,.pass (x:=.inLoop c) rfl (λ_ _ => .inl<|by simp) harr⟩
   | outgrown=>exact ⟨_,a₁,w₁,hq,.pass (x:=.inLoop c) rfl (λ_ _ => .inl<|by simp) harr⟩
 obtain ⟨e,a',w',hq,harr⟩:=key n a w h0;exact ⟨e,a',w',hq,.of_steps (.one step_loop) harr⟩
def Qz (ts:List Tmp) (e:Env):AV:=match ts with
 | [t]=>e t
 | ts => .tup (ts.map e)
def KV (Rf:List AV):Env:=λt=>Rf.getD t .top
def CZ (tmps:Array Value) (r:ResultVar):Sem Value:=match r with
 | .tmp t=>pure (tmps.getD t undef)
 | .cell a t=>do loadVar t (<- asAddr (tmps.getD a undef))
def dN (P:Program) (f:FuncId) (Rf:List AV) (H:AH) (R:AV->AH->Prop):Prop:=
 iq P f=Ri/\∀ (c:Cx) (vs:Array Value),c.H=H->HRel c->EC c Rf vs->Calls P f vs c.w λe w'=>∃ v c' r,e = .returned v/\c'.w=w'/\R r c'.H/\HRel c'/\Ext c c'/\c'.rel r v
theorem dN.acall {f:FuncId} {Rf:List AV} {H H':AH} {r:AV} (h:dN P f Rf H λr' G=>r'=r/\G=H'):dS P f Rf H r H':=by
 refine ⟨h.1,λc vs hH hr hall=>(h.2 c vs hH hr hall).mono λe w' ⟨v,c',r',he,hw,hR,h1,h2,h3⟩ => ?_⟩
 grind
end
theorem I1.intro {f:(Exit->Env->AH->Prop)->Env->AH->Prop} {Q:Exit->Env->AH->Prop} {e:Env} {G:AH} (h:∃ I:Nat->Env->AH->Prop,(∃ n e0,CF e e0/\I n e0 G)/\∀ n e H,I n e H->f (λx e' H'=>match x with
 | .normal=>∃ n' e0 H0,n'<n/\eZ G.length e' H' e0 H0/\I n' e0 H0
 | x=>Q x e' H') e H):I1 f Q e G:=h
attribute [irreducible] I1
theorem Br.yes {b:Bool} {X Y:Prop} (h:b=Ri) (x:X):Br b X Y := .intro (λ_=>x) λk=>Br.absT h k
theorem Br.no {b:Bool} {X Y:Prop} (h:b=Rj) (y:Y):Br b X Y := .intro (λk=>Br.absT k h) λ_=>y
section
variable {P:Program}
def ai:List (Nat×AV)->Env
 | []=>λ_ => .top
 | p::l=>λt=>bif Nat.beq t p.1 then p.2 else ai l t
theorem yV (d:Nat) (a:AV) (l:List<|Nat×AV) (t:Nat):(t=d/\ai ((d,a)::l) t=a)\/ai ((d,a)::l) t=ai l t:=by
 show (t=d/\(bif Nat.beq t d then a else ai l t)=a)\/(bif Nat.beq t d then a else ai l t)=ai l t
 cases hb:Nat.beq t d
 ·exact .inr rfl
 simp_all
theorem QP {e:Env}:CF e (ai []):=λ_ => .inl rfl
theorem QQ {e:Env} {t:Nat} {a:AV} {l:List (Nat×AV)} (h:e t=a) (w:CF e<|ai l):CF e (ai ((t,a)::l)):=by
 intro q;rcases yV t a l q with ⟨rfl,h1⟩ | h1
 ·simp_all
 rw [h1];exact w q
theorem bB {m:Nat} {H:AH} {e:Env}:∀ t,Stl m H (e t) (ai [] t):=λ_ => .top
theorem au {m:Nat} {H:AH} {e:Env} {t:Nat} {a:AV} {l:List (Nat×AV)} (h:Stl m H (e t) a) (w:∀ q,Stl m H (e q)<|ai l q):∀ q,Stl m H (e q) (ai ((t,a)::l) q):=by
 intro q;rcases yV t a l q with ⟨rfl,h1⟩ | h1
 ·rw [h1];exact h
 simp_all
end
def ax (P:Program) (f:FuncId) (Rf:List AV) (r:AV):Prop:=
 iq P f=Ri/\∀ (w:World) (fz:Nat->Prop) (vs:Array Value),(∀ g,fz g->g<w.heap.size)->Gl w fz->vs.size=Rf.length->(∀ (i:Nat) (a:AV) (v:Value),Rf[i]? = Rk a->vs[i]? = Rk v->FRel w fz a v) ->
  Calls P f vs w λe w'=>∃ v fz',e = .returned v/\Below w.heap.size w w'/\FRel w' fz' r v/\(∀ g,fz g->fz' g)/\(∀ g,fz' g->fz g\/w.heap.size<=g)/\∀ g,fz' g->g<w'.heap.size
section
variable {P:Program} {f:FuncId} {Rf:List AV}
theorem ax.of {r:AV} (h:dN P f Rf [] λr0 G=>Fz 0 G r0 r):ax P f Rf r:=by
 refine ⟨h.1,λw fz vs hlt hgl hl hrel=>?_⟩;have hr:HRel { w:=w,fz:=fz,H:=[],φ:=λ_=>(0,0) }:=⟨hlt,λb k hl=>by simp [Cx.live] at hl,λb b' k k' hl=>by simp [Cx.live] at hl,hgl⟩;refine (h.2 { w:=w,fz:=fz,H:=[],φ:=λ_=>(0,0) } vs rfl hr ⟨hl,λi a v ha hv => .fr<|hrel i a v ha hv⟩).mono λe w' ⟨v,c',r0,he,hw,hz,hr',hx,hv⟩ => ?_;subst he hw;refine ⟨v,c'.all 0,rfl,⟨hx.os,hx.tape,hx.output,hx.size,λg hg=>hx.keep g hg λb k hl=>by simp [Cx.live] at hl⟩,Fz.sound hr' hz v hv,λg hg => .inl<|hx.fz g hg,λg hg=>?_,λg hg=>Cx.all_lt hr' hg⟩;rcases hg with hg | ⟨b,k,_,h1,rfl⟩
 ·rcases hx.uX g hg with h1 | h1 | ⟨b,k,h1,_⟩
  ·simp_all
  ·simp_all
  simp [Cx.live] at h1
 rcases hx.ib b k h1 with h2 | ⟨b0,k0,h2,_⟩
 ·simp_all
 simp [Cx.live] at h2
def isF:Nat->AV->Bool
 | 0,_=>Rj
 | n+1,x=>match x with
  | .v _ | .nil | .sl _ _ | .fp _ _=>Ri
  | .agg cs=>cs.all (isF n)
  | .tup cs=>cs.all (isF n)
  | .ifc _ x=>isF n x
  | .fn _ cs=>cs.all (isF n)
  | _=>Rj
theorem yX {c:Cx}:∀ (n:Nat) (x:AV) (v:Value),isF n x=Ri->c.rel x v->FRel c.w c.fz x v
 | 0,_,_,h,_=>by cases h
 | n+1,x,v,h,hr=>by
  cases x with
  | v a=>obtain ⟨rfl,hp⟩:=ik hr;exact .v hp
  | nil=>obtain rfl:=il hr;exact .nil
  | sl m row=>exact uG hr
  | fp row j=>exact uH hr
  | agg cs=>
   simp only [isF,R4] at h;obtain ⟨vs,rfl,h1,h2,h3⟩:=tX hr;exact .agg h1 h2 λi q u hq hu=>yX n q u (h q<|R8 hq)<|h3 i q u hq hu
  | tup cs=>
   simp only [isF,R4] at h;obtain ⟨vs,rfl,h1,h3⟩:=yR hr;exact .tup h1 λi q u hq hu=>yX n q u (h q<|R8 hq)<|h3 i q u hq hu
  | ifc t y=>
   simp only [isF] at h;obtain ⟨u,rfl,h1⟩:=yS hr;exact .ifc<|yX n y u h h1
  | fn g cs=>
   simp only [isF,R4] at h;obtain ⟨vs,rfl,h1,h3⟩:=Aa hr;exact .fn h1 λi q u hq hu=>yX n q u (h q<|R8 hq)<|h3 i q u hq hu
  | hs b q s o l=>cases h
  | hp b q s i j=>cases h
  | mp b s=>cases h
  | top=>cases h
theorem xZ {c:Cx} (hr:HRel c) {w':World} (hb:Below c.w.heap.size c.w w') {fz':Nat->Prop} (h1:∀ g,fz' g->c.all 0 g\/c.w.heap.size<=g) (h2:∀ g,fz' g->g<w'.heap.size) (h3:∀ b k,c.live b k -> ¬ fz' (c.φ b).1) :
  HRel { w:=w',fz:=λg=>c.fz g\/fz' g,H:=c.H,φ:=c.φ }/\Ext c { w:=w',fz:=λg=>c.fz g\/fz' g,H:=c.H,φ:=c.φ }:=by
 have hx:Ext c { w:=w',fz:=λg=>c.fz g\/fz' g,H:=c.H,φ:=c.φ }:=by
  refine ⟨hb.os,hb.tape,hb.output,hb.size,λg hg _=>hb.block g hg,λg hg => .inl hg,λg hg=>?_,RZ _,λ_ _ h=>h,λb ver x hbn hx=>?_,λb k hl => .inr ⟨b,k,hl,rfl⟩⟩
  ·rcases hg with hg | hg
   ·simp_all
   rcases h1 g hg with (h | ⟨b,k,_,h,rfl⟩) | h
   ·exact .inl h
   ·exact absurd hg<|h3 b k h
   omega
  obtain ⟨k,hl,rfl,o,hc,hx'⟩:=Cx.hd_some hx;have hl':c.live b k:=hl;have hc':c.w.heap[(c.φ b).1]? = Rk o:=by
   rw [<- hb.block _ (hr.live_lt hl')];exact hc
  exact (Cx.hd_of hl' hc').trans hx'
 refine ⟨⟨λg hg=>?_,λb k hl=>?_,hr.inj,hr.glx hx⟩,hx⟩
 ·rcases hg with hg | hg
  ·exact Sb (hr.lt g hg) hb.size
  simp_all
 have hl':c.live b k:=hl;obtain ⟨cs,fr,hB⟩:=hr.blk b k hl';refine ⟨cs,fr,⟨(hb.block _<|hr.live_lt hl').trans hB.at_,?_,hB.pos,hB.free,hB.fits,hB.len,λi row j a h4 h5=>?_⟩⟩
 ·rintro (h | h)
  ·exact hB.nf h
  grind
 obtain ⟨u,g1,g2,g3⟩:=hB.rel i row j a h4 h5;exact ⟨u,g1,g2,g3.ext hr hx⟩
theorem ax.acall {r:AV} (h:ax P f Rf r) (hF:Rf.all (isF 9)=Ri) (H:AH):dS P f Rf H r H:=by
 refine ⟨h.1,λc vs hH hr hall=>?_⟩;obtain ⟨hl,hrel⟩:=hall;refine (h.2 c.w c.fz vs hr.lt hr.gl hl (λi a v ha hv=>yX 9 a v (R4.1 hF a (R8 ha)) (hrel i a v ha hv))).mono λe w' ⟨v,fz',he,hb,hv,h1,h2,h3⟩ => ?_;obtain ⟨g1,g2⟩:=xZ hr hb (fz':=fz') (λg hg=>(h2 g hg).imp .inl id) h3 (λb k hlv hz=>by
  rcases h2 _ hz with h4 | h4
  ·exact hr.not_fz hlv h4
  have := hr.live_lt hlv;omega)
 exact ⟨v,{ w:=w',fz:=λg=>c.fz g\/fz' g,H:=c.H,φ:=c.φ },he,rfl,hH,g1,g2,.fr<|hv.mono (RZ _) λg hg _=>⟨rfl,.inr hg⟩⟩
def dry:Nat->AV->Bool
 | 0,_=>Rj
 | n+1,x=>match x with
  | .v _ | .nil=>Ri
  | .agg cs=>cs.all (dry n)
  | .tup cs=>cs.all (dry n)
  | _=>Rj
theorem A8 {w w':World} {fz fz':Nat->Prop}:∀ (n:Nat) (x:AV) (v:Value),dry n x=Ri->FRel w fz x v->FRel w' fz' x v
 | 0,_,_,h,_=>by cases h
 | n+1,x,v,h,hr=>by
  cases hr with
  | v hp=>exact .v hp
  | nil=>exact .nil
  | agg h1 h2 h3=>
   simp only [dry,R4] at h;exact .agg h1 h2 λi q u hq hu=>A8 n q u (h q<|R8 hq)<|h3 i q u hq hu
  | tup h1 h3=>
   simp only [dry,R4] at h;exact .tup h1 λi q u hq hu=>A8 n q u (h q<|R8 hq)<|h3 i q u hq hu
  | _=>cases h
theorem ax.tmp {r:AV} {as':List AV} (h:ax P f as' r) {H:AH} (hl0:Rf.length=as'.length) (hz:∀ (i:Nat) (a a':AV),Rf[i]? = Rk a->as'[i]? = Rk a'->Fz 0 H a a') (hd:dry 9 r=Ri):dS P f Rf H r H:=by
 refine ⟨h.1,λc vs hH hr hall=>?_⟩;obtain ⟨hl,hrel⟩:=hall;refine (h.2 c.w (c.all 0) vs (λg hg=>Cx.all_lt hr hg) (hr.gl.mono (RZ _) λ_ hg _=>⟨rfl,.inl hg⟩) (hl.trans hl0) λi a v ha hv=>?_).mono λe w' ⟨v,fz',he,hb,hv,h1,h2,h3⟩ => ?_
 ·obtain ⟨q,hq⟩:=bG hl0.symm ha;exact Fz.sound hr (by grind) v<|hrel i q v hq hv
 obtain ⟨g1,g2⟩:=xZ hr hb (fz':=λ_=>False) (λg hg=>hg.elim) (λg hg=>hg.elim) λb k hlv hz=>hz.elim;exact ⟨v,{ w:=w',fz:=λg=>c.fz g\/False,H:=c.H,φ:=c.φ },he,rfl,hH,g1,g2,.fr<|A8 9 r v hd hv⟩
end
inductive Ren (S:Nat->Nat->Prop):AV->AV->Prop
 | v {x:Value}:Ren S (.v x) (.v x)
 | nil:Ren S .nil .nil
 | sl {n:Nat} {row:Nat->List AV}:Ren S (.sl n row) (.sl n row)
 | fp {row:List AV} {j:Nat}:Ren S (.fp row j) (.fp row j)
 | top {a:AV}:Ren S a .top
 | agg {cs ds:List AV} (hl:cs.length=ds.length) (h:∀ (i:Nat) (c d:AV),cs[i]? = Rk c->ds[i]? = Rk d->Ren S c d):Ren S (.agg cs) (.agg ds)
 | tup {cs ds:List AV} (hl:cs.length=ds.length) (h:∀ (i:Nat) (c d:AV),cs[i]? = Rk c->ds[i]? = Rk d->Ren S c d):Ren S (.tup cs) (.tup ds)
 | ifc {t:TypeId} {x y:AV} (h:Ren S x y):Ren S (.ifc t x) (.ifc t y)
 | fn {f:Fn} {cs ds:List AV} (hl:cs.length=ds.length) (h:∀ (i:Nat) (c d:AV),cs[i]? = Rk c->ds[i]? = Rk d->Ren S c d):Ren S (.fn f cs) (.fn f ds)
 | hs {b b' ver s off len:Nat} (hb:S b b'):Ren S (.hs b ver s off len) (.hs b' ver s off len)
 | hp {b b' ver s i j:Nat} (hb:S b b'):Ren S (.hp b ver s i j) (.hp b' ver s i j)
 | mp {b b' s:Nat} (hb:S b b'):Ren S (.mp b s) (.mp b' s)
theorem Ren.rel {S:Nat->Nat->Prop} {c1 c2:Cx} (hs:c1.w.heap.size<=c2.w.heap.size) (hf:∀ g,c1.fz g->g<c1.w.heap.size->c2.w.heap[g]? = c1.w.heap[g]? /\ c2.fz g)
  (hb:∀ b b' ver,S b b'->c1.born b ver->c2.born b' ver) (hh:∀ b b' ver x,S b b'->c1.born b ver->c2.hd b' ver=Rk x->c1.hd b ver=Rk x) {a a':AV} (h:Ren S a a'):∀ v,c1.rel a v->c2.rel a' v:=by
 induction h with
 | v=>exact λv hv=>by obtain ⟨rfl,hp⟩:=ik hv;exact .fr<|.v hp
 | nil=>exact λv hv=>by obtain rfl:=il hv;exact .fr .nil
 | sl=>exact λv hv => .fr ((uG hv).mono hs hf)
 | fp=>exact λv hv => .fr ((uH hv).mono hs hf)
 | top=>exact λv _ => .top
 | agg hl _ ih=>
  intro u hu;obtain ⟨vs,rfl,h1,h2,h3⟩:=tX hu;refine .agg (h1.trans hl) h2 λi d u hd hu=>?_;obtain ⟨q,hq⟩:=bG hl.symm hd;exact ih i q d hq hd u<|h3 i q u hq hu
 | tup hl _ ih=>
  intro u hu;obtain ⟨vs,rfl,h1,h3⟩:=yR hu;refine .tup (h1.trans hl) λi d u hd hu=>?_;obtain ⟨q,hq⟩:=bG hl.symm hd;exact ih i q d hq hd u<|h3 i q u hq hu
 | ifc _ ih=>
  intro u hu;obtain ⟨y,rfl,h⟩:=yS hu;exact .ifc<|ih y h
 | fn hl _ ih=>
  intro u hu;obtain ⟨vs,rfl,h1,h3⟩:=Aa hu;refine .fn (h1.trans hl) λi d u hd hu=>?_;obtain ⟨q,hq⟩:=bG hl.symm hd;exact ih i q d hq hd u<|h3 i q u hq hu
 | hs hS=>
  intro u hu
  cases hu with
  | fr hf=>cases hf
  | hs hbn hc hm h0 hx=>exact .hs (hb _ _ _ hS hbn) hc hm h0 (λx h=>hx x<|hh _ _ _ _ hS hbn h)
 | hp hS=>
  intro u hu
  cases hu with
  | fr hf=>cases hf
  | hp hbn hx=>exact .hp (hb _ _ _ hS hbn) (λx h=>hx x<|hh _ _ _ _ hS hbn h)
 | mp hS=>
  intro u hu
  cases hu with
  | fr hf=>cases hf
  | mp hbn hx=>exact .mp (hb _ _ _ hS hbn) (λx h=>hx x<|hh _ _ _ _ hS hbn h)
structure RenK (S:Nat->Nat->Prop) (k k':ABlk):Prop where
 ver:k'.ver=k.ver
 s:k'.s=k.s
 ty:k'.ty=k.ty
 len:k.rows.length=k'.rows.length
 rows:∀ (i:Nat) (r r':List AV),k.rows[i]? = Rk r->k'.rows[i]? = Rk r'->r.length=r'.length/\∀ (j:Nat) (a a':AV),r[j]? = Rk a->r'[j]? = Rk a'->Ren S a a'
theorem RenK.blk {S:Nat->Nat->Prop} {c1 c2:Cx} {b b':Nat} {k k':ABlk} {cs:Array Value} {fr:Option (Nat×Nat)} (h:RenK S k k') (hB:BRel c1 b k cs fr) (hφ:c2.φ b'=c1.φ b) (hat:c2.w.heap[(c1.φ b).1]? = c1.w.heap[(c1.φ b).1]?) (hnf : ¬ c2.fz (c1.φ b).1)
  (hrel:∀ a a',Ren S a a'->∀ v,c1.rel a v->c2.rel a' v):BRel c2 b' k' cs fr where
 at_:=by rw [hφ,hat,CQ h.s h.ty h.len.symm];exact hB.at_
 nf:=by simp_all
 pos:=by rw [h.s];exact hB.pos
 free:=by rw [h.s];exact hB.free
 fits:=by rw [hφ,h.s,<- h.len];exact hB.fits
 len:=λi r' hr'=>by
  obtain ⟨r,hr⟩:=bG h.len.symm hr';rw [h.s,<- hB.len i r hr];exact (h.rows i r r' hr hr').1.symm
 rel:=λi r' j a' hr' ha'=>by
  obtain ⟨r,hr⟩:=bG h.len.symm hr';obtain ⟨h1,h2⟩:=h.rows i r r' hr hr';obtain ⟨a,ha⟩:=bG h1.symm ha';obtain ⟨u,g1,g2,g3⟩:=hB.rel i r j a hr ha;exact ⟨u,by rw [hφ,h.s];exact g1,g2,hrel a a' (h2 j a a' ha ha') u g3⟩
def sg (ids:List Nat) (N i b:Nat):Prop:=ids[i]? = Rk b\/(ids.length<=i/\b=N+(i-ids.length))
theorem OA {ids:List Nat} {N i b b':Nat} (h:sg ids N i b) (h':sg ids N i b'):b=b':=by
 rcases h with h | ⟨h1,h2⟩ <;> rcases h' with k | ⟨k1,k2⟩
 ·simp_all
 ·simp_all
 ·simp_all
 omega
theorem I2 {ids:List Nat} {N i j b:Nat} (hn:ids.Nodup) (hlt:∀ x∈ids,x<N) (h:sg ids N i b) (h':sg ids N j b):i=j:=by
 rcases h with h | ⟨h1,h2⟩ <;> rcases h' with k | ⟨k1,k2⟩
 ·obtain ⟨hi,h3⟩:=ges h;obtain ⟨hj,h4⟩:=ges k;have hp:=List.pairwise_iff_getElem.1 hn
  grind
 ·have := hlt b<|R8 h;omega
 ·have := hlt b<|R8 k;omega
 omega
structure Frd (ids:List Nat) (H G0 H':AH):Prop where
 le:ids.length<=G0.length
 len:H'.length=H.length+(G0.length-ids.length)
 dead:∀ i b,i<G0.length->sg ids H.length i b->G0[i]? = Rk Rl->H'[b]? = Rk Rl
 some_:∀ i b k0,sg ids H.length i b->G0[i]? = Rk (Rk k0)->∃ k,H'[b]? = Rk (Rk k)/\RenK (sg ids H.length) k0 k
 rest:∀ b,b<H.length->b∉ids->H'[b]? = H[b]?
theorem vk {c1 c2:Cx} {b b' ver:Nat} (h:c1.born b ver) (_hd:c1.H[b]? = Rk Rl->c2.H[b']? = Rk Rl) (hs:∀ k,c1.H[b]? = Rk (Rk k)->∃ k',c2.H[b']? = Rk (Rk k')/\k'.ver=k.ver):c2.born b' ver:=by
 unfold Cx.born at h
 split at h
 ·rename_i k hk;obtain ⟨k',h1,h2⟩:=hs k hk;unfold Cx.born;rw [h1];simp only;omega
 simp_all
theorem wO {c1 c2:Cx} {b b' ver:Nat} {x:HI} (h:c2.hd b' ver=Rk x) (hφ:c2.φ b'=c1.φ b) (hat:c2.w.heap[(c1.φ b).1]? = c1.w.heap[(c1.φ b).1]?) (hs:∀ k',c2.H[b']? = Rk (Rk k')->∃ k,c1.H[b]? = Rk (Rk k)/\k.ver=k'.ver/\k.s=k'.s/\k.rows.length=k'.rows.length):c1.hd b ver=Rk x:=by
 obtain ⟨k',hl,hv,o,hc,hx⟩:=Cx.hd_some h;obtain ⟨k,h1,h2,h3,h4⟩:=hs k' hl;rw [hφ] at hc hx;rw [hat] at hc;have := Cx.hd_of (c:=c1) (k:=k) h1 hc;rw [h2,hv] at this;rw [this,Ev h3 h4];exact hx
theorem BC {c:Cx} {b ver:Nat} (h:c.H[b]? = Rk Rl) (hb:c.born b ver):False:=by
 unfold Cx.born at hb
 simp_all
theorem MX {c:Cx} {b ver:Nat} {x:HI} (h:c.H[b]? = Rk Rl) (hb:c.hd b ver=Rk x):False:=by
 unfold Cx.hd at hb
 simp_all
section
variable {P:Program}
open Classical in
theorem dN.frameN {f:FuncId} {as0 Rf:List AV} {H0 H:AH} {R R':AV->AH->Prop} (h:dN P f as0 H0 R) (ids:List Nat) (hn:ids.Nodup) (hl:ids.length=H0.length)
  (hin:∀ (i b:Nat),ids[i]? = Rk b->(H[b]? = Rk Rl/\H0[i]? = Rk Rl)\/∃ k k0,H[b]? = Rk (Rk k)/\H0[i]? = Rk (Rk k0)/\RenK (λb i=>ids[i]? = Rk b) k k0)
  (hla:Rf.length=as0.length) (has:∀ (i:Nat) (a a0:AV),Rf[i]? = Rk a->as0[i]? = Rk a0->Ren (λb i=>ids[i]? = Rk b) a a0)
  (hF:∀ r0 G0,R r0 G0->∃ r H',Frd ids H G0 H'/\Ren (sg ids H.length) r0 r/\R' r H'):dN P f Rf H R':=by
 refine ⟨h.1,λc vs hH hr hall=>?_⟩;subst hH;have hidlt:∀ x∈ids,x<c.H.length:=λx hx=>by
  obtain ⟨i,hi⟩:=Sk.1 hx
  grind
 let c0:Cx:={ w:=c.w,fz:=c.fz,H:=H0,φ:=λi=>c.φ (ids.getD i 0) };have φ0:∀ {i b},ids[i]? = Rk b->c0.φ i=c.φ b:=λ{i b} hi=>by
  grind
 have rel0:∀ a a0,Ren (λb i=>ids[i]? = Rk b) a a0->∀ v,c.rel a v->c0.rel a0 v:=λa a0 hra=>by
  refine Ren.rel (c1:=c) (c2:=c0) (RZ _) (λg hg _=>⟨rfl,hg⟩) (λb i ver hS hb=>?_) (λb i ver x hS hb hx=>?_) hra
  ·rcases hin i b hS with ⟨h1,_⟩ | ⟨k,k0,h1,h2,h3⟩
   ·exact (BC h1 hb).elim
   refine vk hb (λhd=>by simp_all) λk1 hk1=>⟨k0,h2,?_⟩;rw [h1] at hk1;injection hk1 with hk1;injection hk1 with hk1;rw [<- hk1];exact h3.ver
  rcases hin i b hS with ⟨_,h1⟩ | ⟨k,k0,h1,h2,h3⟩
  ·exact (MX (c:=c0) h1 hx).elim
  refine wO hx (φ0 hS) rfl λk1 hk1=>⟨k,h1,?_⟩;have hk2:H0[i]? = Rk (Rk k1):=hk1;rw [h2] at hk2;injection hk2 with hk2;injection hk2 with hk2;subst hk2;exact ⟨h3.ver.symm,h3.s.symm,h3.len⟩
 have live0:∀ {i k0},c0.live i k0->∃ b k,ids[i]? = Rk b/\c.live b k/\RenK (λb i=>ids[i]? = Rk b) k k0:=λ{i k0} hlv=>by
  have hlv':H0[i]? = Rk (Rk k0):=hlv;obtain ⟨hi,_⟩:=ges hlv';have hb:=geq (l:=ids) (i:=i) (by omega);rcases hin i _ hb with ⟨_,h2⟩ | ⟨k,k1,h1,h2,h3⟩
  ·simp_all
  rw [hlv'] at h2;injection h2 with h2;injection h2 with h2;subst h2;exact ⟨_,k,hb,h1,h3⟩
 have hr0:HRel c0:=by
  refine ⟨hr.lt,λi k0 hlv=>?_,λi j k k' hi hj hne=>?_,hr.gl⟩
  ·obtain ⟨b,k,h1,h2,h3⟩:=live0 hlv;obtain ⟨cs,fr,hB⟩:=hr.blk b k h2;exact ⟨cs,fr,h3.blk hB (φ0 h1) rfl hB.nf rel0⟩
  obtain ⟨b,q,h1,h2,_⟩:=live0 hi;obtain ⟨b',q',h1',h2',_⟩:=live0 hj;rw [φ0 h1,φ0 h1'];refine hr.inj b b' q q' h2 h2' λhe=>hne ?_;subst he;exact I2 hn hidlt (.inl h1)<|.inl h1'
 obtain ⟨hal,hrel⟩:=hall;refine (h.2 c0 vs rfl hr0 ⟨hal.trans hla,λi a0 v ha0 hv=>?_⟩).mono λe w' ⟨v,c1,r0,he,hw,hR,hr1,hx1,hv⟩ => ?_
 ·obtain ⟨a,ha⟩:=bG hla.symm ha0
  grind
 subst hw;obtain ⟨r,H',hout,hres,hR'⟩:=hF r0 c1.H hR;let φ':Nat->Nat×Nat:=λb=>if hb:∃ i,i<c1.H.length/\sg ids c.H.length i b then c1.φ (Classical.choose hb) else c.φ b;have φ1:∀ {i b},i<c1.H.length->sg ids c.H.length i b->φ' b=c1.φ i:=λ{i b} hi hs=>by
  have hb:∃ i,i<c1.H.length/\sg ids c.H.length i b:=⟨i,hi,hs⟩;show (if hb:∃ i,i<c1.H.length/\sg ids c.H.length i b then c1.φ (Classical.choose hb) else c.φ b)=_;rw [dif_pos hb,I2 hn hidlt (Classical.choose_spec hb).2 hs]
 have φ2:∀ {b},b<c.H.length->b∉ids->φ' b=c.φ b:=λ{b} hb hni=>by
  show (if hb:∃ i,i<c1.H.length/\sg ids c.H.length i b then c1.φ (Classical.choose hb) else c.φ b)=_;rw [dif_neg];rintro ⟨i,_,hs | ⟨_,hs⟩⟩
  ·grind
  omega
 let c2:Cx:={ w:=c1.w,fz:=c1.fz,H:=H',φ:=φ' };have back:∀ {b k},H'[b]? = Rk (Rk k)->(∃ i k1,sg ids c.H.length i b/\c1.H[i]? = Rk (Rk k1)/\RenK (sg ids c.H.length) k1 k)\/(b<c.H.length/\b∉ids/\c.H[b]? = Rk (Rk k)):=λ{b k} hk=>by
  have hbl:=(ges hk).1;rw [hout.len] at hbl;have hle:=hout.le
  by_cases hb:∃ i,i<c1.H.length/\sg ids c.H.length i b
  ·obtain ⟨i,hi,hs⟩:=hb
   left
   have hg:=geq hi
   cases hc:c1.H[i] with
   | none=>
    rw [hc] at hg;rw [hout.dead i b hi hs hg] at hk
    cases hk
   | some k1=>
    rw [hc] at hg;obtain ⟨k2,h1,h2⟩:=hout.some_ i b k1 hs hg
    grind
  right
  have hni:b∉ids:=λhm=>by
   obtain ⟨i,hi⟩:=Sk.1 hm;have := (ges hi).1;exact hb ⟨i,by omega,.inl hi⟩
  have hlt:b<c.H.length:=by
   rcases R7 b c.H.length with h1 | h1
   ·exact h1
   exact absurd ⟨ids.length+(b-c.H.length),by omega,.inr ⟨by omega,by omega⟩⟩ hb
  exact ⟨hlt,hni,by rw [<- hout.rest b hlt hni];exact hk⟩
 have rel2:∀ a a',Ren (sg ids c.H.length) a a'->∀ v,c1.rel a v->c2.rel a' v:=λa a' hra=>by
  refine Ren.rel (c1:=c1) (c2:=c2) (RZ _) (λg hg _=>⟨rfl,hg⟩) (λi b ver hS hb=>?_) (λi b ver x hS hb hx=>?_) hra
  ·exact vk hb (λhd=>hout.dead i b (iV hb) hS hd) (λk hk=>by
    obtain ⟨k',h1,h2⟩:=hout.some_ i b k hS hk;exact ⟨k',h1,h2.ver⟩)
  refine wO hx (φ1 (iV hb) hS) rfl λk' hk' => ?_;have hg:=geq<|iV hb;have hk2:H'[b]? = Rk (Rk k'):=hk'
  cases hc:c1.H[i]'(iV hb) with
  | none=>
   rw [hc] at hg;rw [hout.dead i b (iV hb) hS hg] at hk2
   grind
  | some k1=>
   rw [hc] at hg;obtain ⟨k2,h1,h2⟩:=hout.some_ i b k1 hS hg;rw [hk2] at h1;injection h1 with h1;injection h1 with h1;subst h1;exact ⟨k1,hg,h2.ver.symm,h2.s.symm,h2.len⟩
 have notlive:∀ {b k},b∉ids->c.live b k->∀ i k0,c0.live i k0->(c0.φ i).1≠(c.φ b).1:=λ{b k} hni hlv i k0 hl0 he=>by
  obtain ⟨b0,q,h1,h2,_⟩:=live0 hl0;rw [φ0 h1] at he;refine hr.inj b0 b q k h2 hlv (λhbb=>hni ?_) he
  grind
 have hx:Ext c c2:=by
  refine ⟨hx1.os,hx1.tape,hx1.output,hx1.size,λg hg hng=>hx1.keep g hg λi k0 hl0=>?_,hx1.fz,λg hg=>?_,?_,λb ver hb=>?_,λb ver x hb hhd=>?_,λb k hlv=>?_⟩
  ·grind
  ·rcases hx1.uX g hg with h1 | h1 | ⟨i,k0,hl0,he⟩
   ·exact .inl h1
   ·exact .inr<|.inl h1
   grind
  ·show c.H.length<=H'.length;rw [hout.len];omega
  ·by_cases hm:b∈ids
   ·obtain ⟨i,hi⟩:=Sk.1 hm;rcases hin i b hi with ⟨h1,_⟩ | ⟨k,k0,h1,h2,h3⟩
    ·exact (BC h1 hb).elim
    have b0:c0.born i ver:=vk hb (λhd=>by simp_all) (λk1 hk1=>⟨k0,h2,by
     rw [h1] at hk1;injection hk1 with hk1;injection hk1 with hk1;rw [<- hk1];exact h3.ver⟩)
    have b1:=hx1.born i ver b0;exact vk b1 (λhd=>hout.dead i b (iV b1) (.inl hi) hd) (λk1 hk1=>by
     obtain ⟨k',h4,h5⟩:=hout.some_ i b k1 (.inl hi) hk1;exact ⟨k',h4,h5.ver⟩)
   have he:=hout.rest b (iV hb) hm;exact vk hb (λhd=>he.trans hd) λk hk=>⟨k,he.trans hk,rfl⟩
  ·by_cases hm:b∈ids
   ·obtain ⟨i,hi⟩:=Sk.1 hm;rcases hin i b hi with ⟨h1,_⟩ | ⟨k,k0,h1,h2,h3⟩
    ·exact (BC h1 hb).elim
    have b0:c0.born i ver:=vk hb (λhd=>by simp_all) (λk1 hk1=>⟨k0,h2,by
     rw [h1] at hk1;injection hk1 with hk1;injection hk1 with hk1;rw [<- hk1];exact h3.ver⟩)
    have b1:=hx1.born i ver b0;have e1:c1.hd i ver=Rk x:=by
     refine wO hhd (φ1 (iV b1)<|.inl hi) rfl λk' hk' => ?_;rcases back hk' with ⟨i',k1,g1,g2,g3⟩ | ⟨_,g2,_⟩
     ·obtain rfl:=I2 hn hidlt (.inl hi) g1;exact ⟨k1,g2,g3.ver.symm,g3.s.symm,g3.len⟩
     simp_all
    have e0:=hx1.hd i ver x b0 e1;refine wO e0 (φ0 hi) rfl λk' hk'=>⟨k,h1,?_⟩;have hk2:H0[i]? = Rk (Rk k'):=hk';rw [h2] at hk2;injection hk2 with hk2;injection hk2 with hk2;subst hk2;exact ⟨h3.ver.symm,h3.s.symm,h3.len⟩
   have hlt:=iV hb;obtain ⟨k',hl',_⟩:=Cx.hd_some hhd;have hl2:c.live b k':=(hout.rest b hlt hm).symm.trans hl';refine wO hhd (φ2 hlt hm) (hx1.keep _ (hr.live_lt hl2)<|notlive hm hl2) λk1 hk1=>⟨k1,(hout.rest b hlt hm).symm.trans hk1,rfl,rfl,rfl⟩
  rcases back hlv with ⟨i,k1,g1,g2,g3⟩ | ⟨g1,g2,g3⟩
  ·have hi:=(ges g2).1;show _<=(φ' b).1\/∃ b0 k0,c.live b0 k0/\(c.φ b0).1=(φ' b).1;rw [φ1 hi g1];rcases hx1.ib i k1 g2 with h1 | ⟨j,k0,h1,h2⟩
   ·exact .inl h1
   grind
  refine .inr ⟨b,k,g3,?_⟩
  grind
 refine ⟨v,c2,r,he,rfl,hR',⟨hr1.lt,λb k hlv=>?_,λb b' k k' hlv hlv' hne=>?_,hr1.gl⟩,hx,rel2 _ _ hres v hv⟩
 ·rcases back hlv with ⟨i,k1,g1,g2,g3⟩ | ⟨g1,g2,g3⟩
  ·have hi:=(ges g2).1;obtain ⟨cs,fr,hB⟩:=hr1.blk i k1 g2;exact ⟨cs,fr,g3.blk hB (φ1 hi g1) rfl hB.nf rel2⟩
  obtain ⟨cs,fr,hB⟩:=hr.blk b k g3;have hkp:=hx1.keep _ (hr.live_lt g3)<|notlive g2 g3;refine ⟨cs,fr,⟨?_,?_,hB.pos,hB.free,?_,hB.len,λi row j a h1 h2=>?_⟩⟩
  ·show c1.w.heap[(φ' b).1]? = Rk (ID k (φ' b).2 cs fr);rw [φ2 g1 g2,hkp];exact hB.at_
  ·show ¬ c1.fz (φ' b).1;rw [φ2 g1 g2];intro hz;rcases hx1.uX _ hz with h1 | h1 | ⟨i,k0,h1,h2⟩
   ·exact hB.nf h1
   ·have h3:=hr.live_lt g3
    grind
   exact notlive g2 g3 i k0 h1 h2
  ·show (φ' b).2+_<=_;rw [φ2 g1 g2];exact hB.fits
  obtain ⟨u,g4,g5,g6⟩:=hB.rel i row j a h1 h2;refine ⟨u,?_,g5,g6.ext hr hx⟩
  grind
 show (φ' b).1≠(φ' b').1;have old:∀ {b i k k1},b<c.H.length->b∉ids->c.H[b]? = Rk (Rk k)->c1.H[i]? = Rk (Rk k1)->(c1.φ i).1≠(c.φ b).1:=λ{b i k k1} g1 g2 g3 g4 he=>by
  rcases hx1.ib i k1 g4 with h1 | ⟨j,k0,h1,h2⟩
  ·have h3:=hr.live_lt (b:=b) (k:=k) g3
   grind
  exact notlive (b:=b) (k:=k) g2 g3 j k0 h1<|h2.trans he
 rcases back hlv with ⟨i,k1,g1,g2,g3⟩ | ⟨g1,g2,g3⟩ <;> rcases back hlv' with ⟨j,k2,h1,h2,h3⟩ | ⟨h1,h2,h3⟩
 ·rw [φ1 (ges g2).1 g1,φ1 (ges h2).1 h1];refine hr1.inj i j k1 k2 g2 h2 λhij=>hne ?_;subst hij;exact OA g1 h1
 ·grind
 ·grind
 rw [φ2 g1 g2,φ2 h1 h2];exact hr.inj b b' k k' g3 h3 hne
theorem dN.frame {f:FuncId} {as0 Rf:List AV} {H0 H:AH} {R R':AV->AH->Prop} (h:dN P f as0 H0 R) (ids:List Nat) (hn:ids.Nodup) (hl:ids.length=H0.length)
  (hin:∀ (i b:Nat),ids[i]? = Rk b->∃ k k0,H[b]? = Rk (Rk k)/\H0[i]? = Rk (Rk k0)/\RenK (λb i=>ids[i]? = Rk b) k k0)
  (hla:Rf.length=as0.length) (has:∀ (i:Nat) (a a0:AV),Rf[i]? = Rk a->as0[i]? = Rk a0->Ren (λb i=>ids[i]? = Rk b) a a0)
  (hF:∀ r0 G0,R r0 G0->∃ r H',Frd ids H G0 H'/\Ren (sg ids H.length) r0 r/\R' r H'):dN P f Rf H R':=
 h.frameN ids hn hl (λi b hi => .inr<|hin i b hi) hla has hF
theorem dS.frame {f:FuncId} {as0 Rf:List AV} {H0 G0 H H':AH} {r0 r:AV} (h:dS P f as0 H0 r0 G0) (ids:List Nat) (hn:ids.Nodup) (hl:ids.length=H0.length)
  (hin:∀ (i b:Nat),ids[i]? = Rk b->∃ k k0,H[b]? = Rk (Rk k)/\H0[i]? = Rk (Rk k0)/\RenK (λb i=>ids[i]? = Rk b) k k0)
  (hla:Rf.length=as0.length) (has:∀ (i:Nat) (a a0:AV),Rf[i]? = Rk a->as0[i]? = Rk a0->Ren (λb i=>ids[i]? = Rk b) a a0)
  (hout:Frd ids H G0 H') (hres:Ren (sg ids H.length) r0 r):dS P f Rf H r H':=by
 have hB:dN P f as0 H0 λr' G=>r'=r0/\G=G0:=⟨h.1,λc vs hH hr hall=>(h.2 c vs hH hr hall).mono λe w' ⟨v,c',he,hw,hG,hr',hx,hv⟩=>⟨v,c',r0,he,hw,⟨rfl,hG⟩,hr',hx,hv⟩⟩;exact (hB.frame (R':=λr' G=>r'=r/\G=H') ids hn hl hin hla has λr1 G1 ⟨e1,e2⟩=>⟨r,H',by simp_all,by simp_all,rfl,rfl⟩).acall
end
section
variable {P:Program}
def Cx.res (c:Cx):Cx:={ w:=c.w,fz:=c.fz,H:=c.H++[Rl],φ:=c.φ }
theorem Cx.res_live {c:Cx} {b:Nat} {k:ABlk} (h:c.res.live b k):c.live b k:=by
 unfold Cx.live Cx.res at h;simp only at h;rcases Nat.lt_trichotomy b c.H.length with hlt | rfl | hgt
 ·rw [gal hlt] at h;exact h
 ·rw [gar (RZ _),Nat.sub_self] at h;simp at h
 grind
theorem Cx.res_ext (c:Cx):Ext c c.res where
 os:=rfl
 tape:=rfl
 output:=rfl
 size:=RZ _
 keep:=λ_ _ _=>rfl
 fz:=λ_ h=>h
 uX:=λ_ h => .inl h
 N:=by simp [Cx.res]
 born:=λb ver h=>by
  have hlt:=iV h;unfold Cx.born at *;simp only [Cx.res,gal hlt];exact h
 hd:=λb ver x hb hx=>by
  have hlt:=iV hb;unfold Cx.hd at *;simp only [Cx.res,gal hlt] at hx;exact hx
 ib:=λb k hl => .inr ⟨b,k,Cx.res_live hl,rfl⟩
theorem Cx.res_heap {c:Cx} (hr:HRel c):HRel c.res where
 gl:=hr.gl
 lt:=hr.lt
 blk:=λb k hl=>by
  obtain ⟨cs,fr,hB⟩:=hr.blk b k (Cx.res_live hl);exact ⟨cs,fr,⟨hB.at_,hB.nf,hB.pos,hB.free,hB.fits,hB.len,λi row j a h1 h2=>by
   obtain ⟨u,h3,h4,h5⟩:=hB.rel i row j a h1 h2;exact ⟨u,h3,h4,h5.ext hr c.res_ext⟩⟩⟩
 inj:=λb b' k k' h1 h2 hne=>hr.inj b b' k k' (Cx.res_live h1) (Cx.res_live h2) hne
def Cx.newAt (c:Cx) (b:Nat) (k:ABlk) (cs:Array Value):Cx:={ w:=c.w.alloc (.cells cs k.ty),fz:=c.fz,H:=c.H.set b (Rk k),φ:=λq=>if q=b then (c.w.heap.size,0) else c.φ q }
section
variable {c:Cx} {b:Nat} {k:ABlk} {cs:Array Value}
theorem Cx.newAt_live {q:Nat} {k':ABlk} (h:(c.newAt b k cs).live q k'):(q=b/\k'=k)\/(q≠b/\c.live q k'):=by
 unfold Cx.live Cx.newAt at h;simp only at h
 by_cases e:q=b
 ·grind
 rw [Sy (Ne.symm e)] at h;exact .inr ⟨e,h⟩
theorem Cx.newAt_self (hb:c.H[b]? = Rk Rl):(c.newAt b k cs).live b k:=by
 unfold Cx.live Cx.newAt
 grind
theorem Cx.newAt_born {q ver:Nat} (hb:c.H[b]? = Rk Rl) (h:c.born q ver):q≠b/\(c.newAt b k cs).born q ver:=by
 have hne:q≠b:=λe=>by subst e;unfold Cx.born at h;rw [hb] at h;exact h
 refine ⟨hne,?_⟩;unfold Cx.born at *;simp only [Cx.newAt]
 grind
theorem Cx.newAt_φ {q:Nat} (h:q≠b):(c.newAt b k cs).φ q=c.φ q:=if_neg h
theorem Cx.newAt_ext (hr:HRel c) (hb:c.H[b]? = Rk Rl):Ext c (c.newAt b k cs) where
 os:=rfl
 tape:=rfl
 output:=rfl
 size:=by simp [Cx.newAt]
 keep:=λg hg _=>Below.heap_alloc _ _ _ hg
 fz:=λ_ h=>h
 uX:=λ_ h => .inl h
 N:=by simp [Cx.newAt]
 born:=λ_ _ h=>(Cx.newAt_born hb h).2
 hd:=λq ver x hq hx=>by
  obtain ⟨k',hl,hv,o,hc,hx'⟩:=Cx.hd_some hx;have hne:=(Cx.newAt_born (k:=k) (cs:=cs) hb hq).1;rcases Cx.newAt_live hl with ⟨e,_⟩ | ⟨_,hl'⟩
  ·omega
  rw [Cx.newAt_φ hne] at hc hx';have hh:c.w.heap[(c.φ q).1]? = Rk o:=by
   rw [<- hc];exact (Below.heap_alloc _ _ _<|hr.live_lt hl').symm
  rw [<- hv];exact (Cx.hd_of hl' hh).trans hx'
 ib:=λq k' hl=>by
  rcases Cx.newAt_live hl with ⟨rfl,rfl⟩ | ⟨hne,hl'⟩
  ·left
   simp [Cx.newAt]
  exact .inr ⟨q,k',hl',by rw [Cx.newAt_φ hne]⟩
theorem Cx.newAt_rel (hr:HRel c) (hb:c.H[b]? = Rk Rl) (hs:0<k.s) (hf:k.rows.length*k.s<=cs.size) (hl:∀ (i:Nat) (row:List AV),k.rows[i]? = Rk row->row.length=k.s)
  (h:∀ (i:Nat) (row:List AV) (j:Nat) (a:AV),k.rows[i]? = Rk row->row[j]? = Rk a->∃ u,cs[i*k.s+j]? = Rk u/\u.oneCell'=Ri/\c.rel a u):HRel (c.newAt b k cs) where
 gl:=hr.glx<|Cx.newAt_ext hr hb
 lt:=λg hg=>by
  have := hr.lt g hg;simp [Cx.newAt];omega
 blk:=λq k' hq=>by
  rcases Cx.newAt_live hq with ⟨rfl,rfl⟩ | ⟨hne,hl'⟩
  ·refine ⟨cs,Rk (0,0),?_⟩;have e:(c.newAt q k' cs).φ q=(c.w.heap.size,0):=if_pos rfl;refine ⟨by rw [e];exact heap_alloc_new _ _,by rw [e];exact λhz=>Nat.lt_irrefl _<|hr.lt _ hz,hs,λf hf i _=>by grind,by simp_all,hl,λi row j a h1 h2=>?_⟩;obtain ⟨u,h3,h4,h5⟩:=h i row j a h1 h2;exact ⟨u,by simp_all,h4,h5.ext hr<|Cx.newAt_ext hr hb⟩
  obtain ⟨cs',fr,hB⟩:=hr.blk q k' hl';refine ⟨cs',fr,⟨by rw [Cx.newAt_φ hne];exact (Below.heap_alloc _ _ _<|hr.live_lt hl').trans hB.at_,by rw [Cx.newAt_φ hne];exact hB.nf,hB.pos,hB.free,by rw [Cx.newAt_φ hne];exact hB.fits,hB.len,λi row j a h1 h2=>?_⟩⟩;obtain ⟨u,h3,h4,h5⟩:=hB.rel i row j a h1 h2;exact ⟨u,by rw [Cx.newAt_φ hne];exact h3,h4,h5.ext hr<|Cx.newAt_ext hr hb⟩
 inj:=λq q' k1 k2 h1 h2 hne=>by
  rcases Cx.newAt_live h1 with ⟨rfl,rfl⟩ | ⟨hn1,hl1⟩
  ·rcases Cx.newAt_live h2 with ⟨rfl,rfl⟩ | ⟨hn2,hl2⟩
   ·omega
   have := hr.live_lt hl2;rw [show (c.newAt q k1 cs).φ q=(c.w.heap.size,0) from if_pos rfl,Cx.newAt_φ hn2];omega
  rcases Cx.newAt_live h2 with ⟨rfl,rfl⟩ | ⟨hn2,hl2⟩
  ·have := hr.live_lt hl1;rw [show (c.newAt q' k2 cs).φ q'=(c.w.heap.size,0) from if_pos rfl,Cx.newAt_φ hn1];omega
  rw [Cx.newAt_φ hn1,Cx.newAt_φ hn2];exact hr.inj q q' k1 k2 hl1 hl2 hne
theorem Cx.newAt_hs (hb:c.H[b]? = Rk Rl) {n cap:Nat} (hn:n<=k.rows.length) (hc:n<=cap) (hm:cap<=9223372036854775807) (hs:cap*k.s<=cs.size):(c.newAt b k cs).rel (.hs b k.ver k.s 0 n) (.slice (Rk ⟨c.w.heap.size,0,Rl⟩) n cap):=by
 have hl:=Cx.newAt_self (k:=k) (cs:=cs) hb;have hφ:(c.newAt b k cs).φ b=(c.w.heap.size,0):=if_pos rfl;have hh:(c.newAt b k cs).hd b k.ver=Rk ⟨c.w.heap.size,0,k.s,k.rows.length,cs.size⟩:=by
  have := Cx.hd_of hl (o:=.cells cs k.ty (0,0)) (by rw [hφ];exact heap_alloc_new _ _);rw [hφ] at this;exact this
 refine .hs ?_ hc hm (λ_=>⟨_,rfl⟩) λx hx=>?_
 ·unfold Cx.born;rw [show (c.newAt b k cs).H[b]? = Rk (Rk k) from hl];exact RZ _
 simp_all
end
variable {o:Oper} {ρ:Operand->AV}
theorem FH {cl:Call} {x y:Operand} {t u e:TypeId} {news:List (List AV)} {H:AH} {b:Nat} {ver:Nat} (hb:H[b]? = Rk Rl) (ho:o.op = .call cl) (h1:cl.callee = .builtin .append) (h2:cl.args.toList=[x,y]) (h3:cl.argTypes.toList=[t,u])
  (ht:P.underlying t=Rk (.slice e)) (hu:(∃ e2,P.underlying u=Rk (.slice e2))\/P.underlying u=Rk .string) (hx:ρ x = .nil) (hpos:0<P.cellsOf e)
  (hz:(((P.info? e).bind (·.zero)).map λz=>z.cells.size)=Rk (P.cellsOf e)) (hb1:news.length*P.bytesOf e<=35184372088832) (hb2:news.length<=35184372088832) (hn:news.length≠0)
  (hsrc:∀ (c:Cx) (v:Value),c.H=H->HRel c->c.rel (ρ y) v->∃ vs,SrcIs P c (P.cellsOf e) v news vs) :
  QO P o ρ H (.hs b ver (P.cellsOf e) 0 news.length) (H.set b<|Rk ⟨ver,P.cellsOf e,e,news⟩):=by
 intro c a K Q hH hr hxs hK;subst hH;obtain ⟨ox,oy⟩:=tZ ho h2;have hx1:=il<|hx ▸ hxs x ox;obtain ⟨vs,hvs⟩:=hsrc c _ rfl hr<|hxs y oy;obtain ⟨hvl,hv1,_⟩:=hvs.is
 cases hi:P.info? e with
 | none=>simp_all
 | some i=>
  rw [hi] at hz;simp only [Sq] at hz;obtain ⟨z,hz,hzs⟩:=Sa.1 hz;have hby:P.bytesOf e=i.bytes:=by simp [Program.bytesOf,hi]
  have hce:P.cellsOf e=i.size:=by simp [Program.cellsOf,hi]
  have hfn:=hvs.cells c.w.drew rfl;rw [hce] at hfn;have hfo:(Builtin.firstCells i.size 0<|.slice Rl 0 0).run P c.w.drew = .ok #[] c.w.drew:=by simp [Builtin.firstCells]
  obtain ⟨nc,hnc1,hnc2,hrun⟩:=rV (ty:=o.type) ht hu hi hz (hvs.len c.w) hfo hfn (by omega) (by omega) (by simp_all);unfold Oper.wp;rw [qH ho h1 h2 h3 (by rw [hx1];exact hrun)];generalize hcs3 : #[]++vs.toArray++Builtin.zeroCells z.cells (nc-(0+news.length))=cs3;have hdr:=Cx.drew_rel hr;have hsz3:nc*P.cellsOf e<=cs3.size:=by
   rw [<- hcs3];simp only [Sg,Si,qG,hzs,hvl,Sr,Sd];rw [<- R3];exact Sc _ (by omega)
  have hget3:∀ q u',vs[q]? = Rk u'->cs3[q]? = Rk u':=λq u' hq=>by
   have hq2:=(ges hq).1;rw [<- hcs3,Sf (by simpa using hq2)]
   simp_all
  have hbd:c.drew.H[b]? = Rk Rl:=hb;have hrel:=Cx.newAt_rel (k:=⟨ver,P.cellsOf e,e,news⟩) (cs:=cs3) hdr hbd hpos (by
    grind) (λq row hq=>hvs.rows q row hq) (λq row j a' hq hj=>by
    obtain ⟨u',g1,g2,g3⟩:=hvs.is.get hq hj;exact ⟨u',hget3 _ _ g1,g2,g3.ext hr c.drew_ext⟩)
  have hh:=Cx.newAt_hs (c:=c.drew) (k:=⟨ver,P.cellsOf e,e,news⟩) (cs:=cs3) hbd (n:=news.length) (cap:=nc) (RZ _) (by omega) hnc2 hsz3;rw [Sd];exact hK _ (c.drew.newAt b ⟨ver,P.cellsOf e,e,news⟩ cs3) rfl hrel (c.drew_ext.trans<|Cx.newAt_ext hdr hbd) hh
end
def mkA:List AV->AV
 | [x]=>x
 | l => .agg l
theorem MZ {c:Cx} {as':List AV} {us:List Value} (hl:us.length=as'.length) (h1:∀ (j:Nat) (u:Value),us[j]? = Rk u->u.oneCell'=Ri) (h:∀ (j:Nat) (a:AV) (u:Value),as'[j]? = Rk a->us[j]? = Rk u->c.rel a u):c.rel (mkA as') (mkv us):=by
 match as',us,hl with
 | [],[],_=>exact .agg rfl (λi u hu=>by grind) (λi a u ha=>by grind)
 | [a],[u],_=>exact h 0 a u rfl rfl
 | a::b::l,u::v::m,hl=>exact .agg (by omega) (λi u hu=>h1 i u<|by simp_all) (λi a u ha hu=>h i a u ha<|by simp_all)
theorem FI {α:Type} {L R:List α} {a:Nat} (h:∀ (j:Nat) (x:α),R[j]? = Rk x->L[a+j]? = Rk x):(L.drop a).take R.length=R:=by
 apply Sn
 grind
theorem C0 {α:Type} {L R:List α} {a b k:Nat} (h:∀ j,j<k->L[a+j]? = R[b+j]?):(L.drop a).take k=(R.drop b).take k:=by
 apply Sn
 grind
theorem I3 {s ty o o':Nat} {cs cs':Array Value} {i:Nat} (hty:ty<=s) (h:∀ q,i*s<=q->q<i*s+s->cs'[o'+q]? = cs[o+q]?):l4 s ty o' cs' i=l4 s ty o cs i:=by
 unfold l4;rw [C0 (R:=cs.toList) (b:=o+i*s) (k:=ty) (λj hj=>?_),C0 (R:=cs.toList) (b:=o+i*s+ty) (k:=s-ty) (λj hj=>?_)]
 ·have := h (i*s+ty+j) (by omega) (by omega)
  grind
 have := h (i*s+j) (by omega) (by omega)
 grind
structure KeyA (P:Program) (uZ:TypeId) {K:Type} [DecidableEq K] (kn:Nat) (kc:K->List Value):Prop where
 len:∀ k,(kc k).length=kn
 plain:∀ k,∀ x∈kc k,plain x=Ri
 check:∀ (w:World) (em:Bool) (k:K),(Instr.checkKey em 10000 uZ<|mkv<|kc k).run P w = .ok () w
 find:∀ (w:World) (k:K) (es:List MapEntry) (ks:List K),es.map (·.key)=ks.map (λk=>mkv<|kc k) ->
  (Instr.findKey uZ (mkv<|kc k) es).run P w = .ok ((ks.findIdx? λx=>Rm<|x=k).bind λj=>es[j]?.map λe=>(j,e.val)) w
 stays:∀ (w:World) (k:K),(Instr.keyThatStays (mkv<|kc k)<|mkv<|kc k).run P w = .ok (mkv<|kc k) w
def Am {K V:Type} [DecidableEq K] (l:List<|K×V) (k:K):Option Nat:=(l.map (·.1)).findIdx? λx=>Rm<|x=k
def GN {K V:Type} [DecidableEq K] (l:List<|K×V) (k:K):Option V:=(Am l k).bind λj=>l[j]?.map (·.2)
def I4 {K V:Type} [DecidableEq K] (l:List<|K×V) (k:K) (v:V):List (K×V):=match Am l k with
 | some j=>l.set j (k,v)
 | none=>l++[(k,v)]
theorem BD {K V:Type} [DecidableEq K] {l:List (K×V)} {k:K} {j:Nat} (h:Am l k=Rk j):j<l.length/\∃ v,l[j]? = Rk (k,v):=by
 unfold Am at h;obtain ⟨h1,h2,_⟩:=List.findIdx?_eq_some_iff_getElem.1 h
 grind
def M0 {K V:Type} (kc:K->List Value) (cv:V->List AV) (p:K×V):List AV:=(kc p.1).map AV.v++cv p.2
abbrev mB {K V:Type} (kn vn:Nat) (kc:K->List Value) (cv:V->List AV) (l:List<|K×V):ABlk:=⟨0,kn+vn,kn,l.map<|M0 kc cv⟩
section
variable {P:Program} {K V:Type} {kn vn:Nat} {kc:K->List Value} {cv:V->List AV} {uZ:TypeId} {l:List (K×V)}
theorem I5 [DecidableEq K] {c:Cx} (q:KeyA P uZ kn kc) (k:K) {u:Value} (h:c.rel (mkA<|(kc k).map AV.v) u):u=mkv (kc k):=by
 have hp:=q.plain k
 cases e:kc k with
 | nil=>
  rw [e] at h;obtain ⟨vs,rfl,h1,_⟩:=tX h;have : vs = #[]:=Array.eq_empty_of_size_eq_zero (by simpa using h1);rw [this]
  rfl
 | cons x t=>
  rw [e] at h hp
  cases t with
  | nil=>exact (ik h).1
  | cons y t=>
   obtain ⟨vs,rfl,h1,_,h3⟩:=tX h;change vs.size=((x::y::t).map AV.v).length at h1;rw [llm] at h1;replace h3:∀ (i:Nat) (a:AV) (u:Value),((x::y::t).map AV.v)[i]? = Rk a->vs[i]? = Rk u->c.rel a u:=h3;have : vs=(x::y::t).toArray:=by
    apply Array.ext';apply Sn;intro j
    by_cases hj:j<(x::y::t).length
    ·have hv:j<vs.size:=by rw [h1];exact hj
     have g:=h3 j (.v (x::y::t)[j]) vs[j] (by rw [R9,geq hj];rfl) (Sj hv);simp only [Sw,Sj hv,(ik g).1,geq hj]
    rw [gen (by rw [Se,h1];omega),gen (by show (x::y::t).length<=j;omega)]
   rw [this]
   rfl
theorem I6 {c:Cx} {b:Nat} (hr:HRel c) (hl:c.live b<|mB kn vn kc cv l) {u:Value} (hu:c.rel (.mp b<|kn+vn) u) :
  ∃ cs,u = .map (Rk (c.φ b).1)/\BRel c b (mB kn vn kc cv l) cs Rl:=by
 obtain ⟨g,rfl,_,hx⟩:=Mm hu;obtain ⟨cs,fr,hB⟩:=hr.blk b _ hl;have h1:=Cx.hd_of hl hB.at_
 cases fr with
 | some f=>
  have := (hx _ h1).1
  simp_all
 | none=>
  have := (hx _ h1).2
  grind
variable {c:Cx} {b:Nat} {cs:Array Value}
theorem FJ {i:Nat} {p:K×V} (h:l[i]? = Rk p):(mB kn vn kc cv l).rows[i]? = Rk (M0 kc cv p):=by simp [h]
theorem I7 [DecidableEq K] (q:KeyA P uZ kn kc) (hB:BRel c b (mB kn vn kc cv l) cs Rl) {i:Nat} {p:K×V} (h:l[i]? = Rk p):(l4 (kn+vn) kn (c.φ b).2 cs i).key=mkv (kc p.1):=by
 unfold l4;simp only
 congr 1
 have := FI (L:=cs.toList) (R:=kc p.1) (a:=(c.φ b).2+i*(kn+vn)) λj x hx=>by
  obtain ⟨u,g1,_,g3⟩:=hB.rel i _ j (.v x) (FJ h) (by unfold M0;rw [gal (by simpa using (ges hx).1),R9,hx];rfl);rw [(ik g3).1] at g1
  simp_all
 rwa [q.len] at this
theorem M3 [DecidableEq K] (q:KeyA P uZ kn kc) (hv:∀ v,(cv v).length=vn) (hB:BRel c b (mB kn vn kc cv l) cs Rl) {i:Nat} {p:K×V} (h:l[i]? = Rk p):c.rel (mkA<|cv p.2) (l4 (kn+vn) kn (c.φ b).2 cs i).val:=by
 unfold l4;simp only;have hat:∀ j,j<vn->∃ a u,(cv p.2)[j]? = Rk a/\((cs.toList.drop<|(c.φ b).2+i*(kn+vn)+kn).take<|kn+vn-kn)[j]? = Rk u/\u.oneCell'=Ri/\c.rel a u:=λj hj=>by
  have hj':j<(cv p.2).length:=by rw [hv];exact hj
  obtain ⟨u,g1,g2,g3⟩:=hB.rel i _ (kn+j) ((cv p.2)[j]) (FJ h) (by
   unfold M0;rw [gar (by simp [q.len]),llm,q.len,Sz,geq hj'])
  refine ⟨_,u,geq hj',?_,g2,g3⟩;rw [List.getElem?_take,if_pos (by omega),List.getElem?_drop];have : (c.φ b).2+i*(kn+vn)+kn+j=(c.φ b).2+i*(kn+vn)+(kn+j):=by omega
  rw [this];simpa using g1
 have hlen:((cs.toList.drop<|(c.φ b).2+i*(kn+vn)+kn).take<|kn+vn-kn).length=(cv p.2).length:=by
  rw [hv];rcases R7 ((cs.toList.drop<|(c.φ b).2+i*(kn+vn)+kn).take<|kn+vn-kn).length vn with hlt | hge
  ·obtain ⟨a,u,_,g,_⟩:=hat _ hlt;rw [gen (RZ _)] at g
   cases g
  have : ((cs.toList.drop<|(c.φ b).2+i*(kn+vn)+kn).take<|kn+vn-kn).length<=kn+vn-kn:=by simp;omega
  omega
 refine MZ hlen (λj u hu=>?_) λj a u ha hu=>?_
 ·obtain ⟨a,u',_,g,g2,_⟩:=hat j (by rw [<- hv p.2,<- hlen];exact (ges hu).1);rw [hu] at g;obtain rfl:=osl g;exact g2
 grind
theorem Mo (hB:BRel c b (mB kn vn kc cv l) cs Rl):c.w.heap[(c.φ b).1]? = Rk (.map ((R6 l.length).map<|l4 (kn+vn) kn (c.φ b).2 cs) l.length):=by
 have := hB.at_;simpa [ID,mB] using this
theorem M4 [DecidableEq K] (q:KeyA P uZ kn kc) (hB:BRel c b (mB kn vn kc cv l) cs Rl):(((R6 l.length).map<|l4 (kn+vn) kn (c.φ b).2 cs).toList.map (·.key))=(l.map (·.1)).map λk=>mkv (kc k):=by
 apply Sn;intro i
 by_cases hi:i<l.length
 ·have h:=geq hi;simp only [Array.toList_map,Array.toList_range,List.map_map,R9,List.getElem?_range hi,Ss,h,Function.comp];rw [I7 q hB h]
 simp_all
theorem GQ [DecidableEq K] (q:KeyA P uZ kn kc) (hB:BRel c b (mB kn vn kc cv l) cs Rl) (k:K):(Instr.findKey uZ (mkv<|kc k) ((R6 l.length).map<|l4 (kn+vn) kn (c.φ b).2 cs).toList).run P c.w =
  .ok ((Am l k).map λj=>(j,(l4 (kn+vn) kn (c.φ b).2 cs j).val)) c.w:=by
 rw [q.find c.w k _ _ (M4 q hB)]
 congr 1
 unfold Am
 cases h:(l.map (·.1)).findIdx? λx=>Rm (x=k) with
 | none=>rfl
 | some j=>
  have hj:j<l.length:=(BD<|show Am l k=Rk j from h).1
  simp_all
variable {o:Oper} {ρ:Operand->AV} {H:AH} {x y z:Operand} {t e:TypeId}
theorem H8 [DecidableEq K] (q:KeyA P uZ kn kc) (hv:∀ v,(cv v).length=vn) (d:V) {zv:Value} {ok:Bool} (ho:o.op = .lookup t x y ok) (ht:P.underlying t=Rk (.map uZ e)) (hz:∀ w,(zeroValue e).run P w = .ok zv w) (hzr:∀ c:Cx,c.rel (mkA<|cv d) zv) (k:K)
  (hx:ρ x = .mp b (kn+vn)) (hy:ρ y=mkA ((kc k).map AV.v)) (hb:H[b]? = Rk (Rk<|mB kn vn kc cv l)) :
  QO P o ρ H (bif ok then .tup [mkA (cv<|(GN l k).getD d),.v (.bool (GN l k).isSome)] else mkA (cv<|(GN l k).getD d)) H:=by
 intro c a Kk Q hH hr hxs hK;have h1:=hx ▸ hxs x (by rw [ho];simp [Op.operands]);have h2:=I5 q k<|hy ▸ hxs y (by rw [ho];simp [Op.operands]);have hl:c.live b (mB kn vn kc cv l):=by unfold Cx.live;rw [hH];exact hb
 obtain ⟨cs,hu,hB⟩:=I6 hr hl h1;have key:∀ (v:Value) (s:Bool) (r:AV),c.rel r v->c.rel (bif ok then .tup [r,.v (.bool s)] else r) (if ok then Value.tuple #[v,.bool s] else v):=λv s r hr=>by
  cases ok with
  | false=>exact hr
  | true=>
   refine .tup rfl λi a u ha hu=>?_
   match i with
   | 0=>
    obtain rfl:=osl ha;obtain rfl:=osl hu;exact hr
   | 1=>
    obtain rfl:=osl ha;obtain rfl:=osl hu;exact cf rfl
   | i+2=>grind
 have hrun:∀ (v:Value) (s:Bool),(∀ r,r=(Am l k).map (λj=>(j,(l4 (kn+vn) kn (c.φ b).2 cs j).val))->((r=Rl/\v=zv/\s=Rj)\/∃ j,r=Rk (j,v)/\s=Ri))->(execOp a.eval o).run P c.w = .ok (.value<|if ok then Value.tuple #[v,.bool s] else v) c.w:=λv s h=>by
  rw [execOp,ho];simp only [hu,h2];refine xK _ ?_;unfold Instr.lookup;simp only [Sem.run_bind,av ht,Result.andThen_ok,MapKept.run_getObj_map (Mo hB),Sem.run_pure,q.check,GQ q hB];rcases h _ rfl with ⟨h1,rfl,rfl⟩ | ⟨j,h1,rfl⟩
  ·simp_all
  rw [h1]
  simp_all
 unfold Oper.wp
 cases hm:Am l k with
 | none=>
  rw [hrun zv Rj (λr hr => .inl ⟨by rw [hr,hm];rfl,rfl,rfl⟩)];have : GN l k=Rl:=by simp [GN,hm]
  refine hK _ c hH hr (Ext.refl c) ?_
  simp_all
 | some j=>
  rw [hrun _ Ri (λr hr => .inr ⟨j,by rw [hr,hm];rfl,rfl⟩)];obtain ⟨hj,v,hv'⟩:=BD hm;have : GN l k=Rk v:=by simp [GN,hm,hv']
  refine hK _ c hH hr (Ext.refl c) ?_;rw [this];exact key _ _ _<|M3 q hv hB hv'
end
def Cx.updM (c:Cx) (b:Nat) (k:ABlk) (es:Array MapEntry) (cl:Nat):Cx:={ w:={ c.w with heap:=c.w.heap.setIfInBounds (c.φ b).1 (.map es cl) },fz:=c.fz,H:=c.H.set b (Rk k),φ:=λq=>if q=b then ((c.φ b).1,0) else c.φ q }
section
variable {c:Cx} {b:Nat} {k k0:ABlk} {es:Array MapEntry} {cl:Nat}
theorem Cx.updM_live {q:Nat} {k':ABlk} (h:(c.updM b k es cl).live q k'):(q=b/\k'=k)\/(q≠b/\c.live q k'):=Cx.upd_live (p:=(0,0)) (cs:=#[]) h
theorem Cx.updM_φ {q:Nat} (hne:q≠b):(c.updM b k es cl).φ q=c.φ q:=if_neg hne
theorem Cx.updM_φ_self:(c.updM b k es cl).φ b=((c.φ b).1,0):=if_pos rfl
theorem Cx.updM_at (hr:HRel c) (hl:c.live b k0):(c.updM b k es cl).w.heap[(c.φ b).1]? = Rk (.map es cl):=by
 have := hr.live_lt hl;simp [Cx.updM,this]
theorem Cx.updM_other {g:Nat} (h:g≠(c.φ b).1):(c.updM b k es cl).w.heap[g]? = c.w.heap[g]? := by
 simp [Cx.updM,Array.getElem?_setIfInBounds_ne (Ne.symm h)]
theorem Cx.updM_ext (hr:HRel c) (hl:c.live b k0) {cs:Array Value} (hB:BRel c b k0 cs Rl) (hv:k.ver=k0.ver) (hs:k.s=k0.s):Ext c (c.updM b k es cl) where
 os:=rfl
 tape:=rfl
 output:=rfl
 size:=by simp [Cx.updM]
 keep:=λg _ hn=>Cx.updM_other<|Ne.symm<|hn b k0 hl
 fz:=λ_ h=>h
 uX:=λ_ h => .inl h
 N:=by simp [Cx.updM]
 born:=λq ver h=>by
  unfold Cx.born at *
  by_cases e:q=b
  ·subst e;unfold Cx.live at hl;rw [hl] at h;simp only at h;have : (c.updM q k es cl).H[q]? = Rk (Rk k):=by
    simp [Cx.updM,(ges hl).1]
   simp_all
  simp only [Cx.updM,Sy (Ne.symm e)];exact h
 hd:=λq ver x hb hx=>by
  obtain ⟨k',hl',rfl,o',hc,hx'⟩:=Cx.hd_some hx;rcases Cx.updM_live hl' with ⟨rfl,rfl⟩ | ⟨hne,hl2⟩
  ·rw [Cx.updM_φ_self] at hc hx';simp only at hc;rw [Cx.updM_at hr hl] at hc;obtain rfl:=osl hc;rw [hv,Cx.hd_of hl hB.at_,<- hx'];simp only [hdo,ID,hs]
  rw [Cx.updM_φ hne] at hc hx';rw [Cx.updM_other (hr.inj q b _ _ hl2 hl hne)] at hc;exact (Cx.hd_of hl2 hc).trans hx'
 ib:=λq k' hl'=>by
  right
  rcases Cx.updM_live hl' with ⟨rfl,rfl⟩ | ⟨hne,hl2⟩
  ·exact ⟨q,k0,hl,by rw [Cx.updM_φ_self]⟩
  exact ⟨q,k',hl2,by rw [Cx.updM_φ hne]⟩
theorem Cx.updM_rel (hr:HRel c) (hl:c.live b k0) {cs0 cs:Array Value} (hB:BRel c b k0 cs0 Rl) (he:Ext c<|c.updM b k es cl) (ho:Obj.map es cl=ID k 0 cs Rl) (hs:0<k.s) (hf:k.rows.length*k.s<=cs.size) (hlen:∀ (i:Nat) (row:List AV),k.rows[i]? = Rk row->row.length=k.s)
  (h:∀ (i:Nat) (row:List AV) (j:Nat) (a:AV),k.rows[i]? = Rk row->row[j]? = Rk a->∃ u,cs[i*k.s+j]? = Rk u/\u.oneCell'=Ri/\c.rel a u):HRel (c.updM b k es cl) where
 gl:=hr.glx he
 lt:=λg hg=>by
  have := hr.lt g hg;simpa [Cx.updM] using this
 blk:=λq k' hq=>by
  rcases Cx.updM_live hq with ⟨rfl,rfl⟩ | ⟨hne,hl2⟩
  ·refine ⟨cs,Rl,⟨?_,by rw [Cx.updM_φ_self];exact hB.nf,hs,λf hf=>by grind,by rw [Cx.updM_φ_self];omega,hlen,λi row j a h1 h2=>?_⟩⟩
   ·rw [Cx.updM_φ_self];exact (Cx.updM_at hr hl).trans<|congrArg Rk ho
   obtain ⟨u,h3,h4,h5⟩:=h i row j a h1 h2;rw [Cx.updM_φ_self];exact ⟨u,by simp_all,h4,h5.ext hr he⟩
  obtain ⟨cs',fr',hB'⟩:=hr.blk q k' hl2;refine ⟨cs',fr',⟨?_,by rw [Cx.updM_φ hne];exact hB'.nf,hB'.pos,hB'.free,by rw [Cx.updM_φ hne];exact hB'.fits,hB'.len,λi row j a h1 h2=>?_⟩⟩
  ·rw [Cx.updM_φ hne];exact (Cx.updM_other<|hr.inj q b _ _ hl2 hl hne).trans hB'.at_
  obtain ⟨u,h3,h4,h5⟩:=hB'.rel i row j a h1 h2;rw [Cx.updM_φ hne];exact ⟨u,h3,h4,h5.ext hr he⟩
 inj:=λq q' k1 k2 h1 h2 hne=>by
  have key:∀ q k1,(c.updM b k es cl).live q k1->∃ k2,c.live q k2/\((c.updM b k es cl).φ q).1=(c.φ q).1:=λq k1 h=>by
   rcases Cx.updM_live h with ⟨rfl,rfl⟩ | ⟨hne,hl2⟩
   ·exact ⟨k0,hl,by rw [Cx.updM_φ_self]⟩
   exact ⟨k1,hl2,by rw [Cx.updM_φ hne]⟩
  obtain ⟨x1,l1,e1⟩:=key q k1 h1;obtain ⟨x2,l2,e2⟩:=key q' k2 h2;rw [e1,e2];exact hr.inj q q' _ _ l1 l2 hne
end
theorem EF {α:Type} {s:Nat} {f:Nat->List α} {n:Nat} (hf:∀ i,i<n->(f i).length=s) {i j:Nat} (hi:i<n) (hj:j<s):((R5 n).flatMap f)[i*s+j]? = (f i)[j]? := by
 induction n with
 | zero=>omega
 | succ n ih=>
  have hl:((R5 n).flatMap f).length=n*s:=by
   clear ih hi
   induction n with
   | zero=>simp
   | succ n ih=>
    rw [Su,Sv,lla,ih (λi hi=>hf i<|by omega)]
    grind
  rw [Su,Sv];rcases R7 i n with h | h
  ·grind
  obtain rfl:i=n:=by omega
  simp_all
theorem EG {α:Type} {s:Nat} {f:Nat->List α}:∀ {n:Nat},(∀ i,i<n->(f i).length=s)->((R5 n).flatMap f).length=n*s
 | 0,_=>by simp
 | n+1,hf=>by
  rw [Su,Sv,lla,EG (λi hi=>hf i<|by omega)]
  grind
theorem I8 {c:Cx} {a:AV} {v:Value} {cs:List AV} (h:c.rel a v) (hc:a.cells=Rk cs) (hm:mkA cs=a):mkv v.cells.toList=v/\v.cells.toList.length=cs.length/\∀ (j:Nat) (x:AV),cs[j]? = Rk x->∃ u,v.cells.toList[j]? = Rk u/\u.oneCell'=Ri/\c.rel x u:=by
 have hr:=ve h hc;have hsz:=hr.size;refine ⟨?_,by omega,λj x hx=>by simpa using hr.get hx⟩
 cases v with
 | agg vs=>
  have hv:(Value.agg vs).cells=vs:=rfl;rw [hv] at hsz ⊢
  match h2:vs.toList with
  | [x]=>
   exfalso;have h1:cs.length=1:=by
    rw [<- hsz,<- Se,h2]
    rfl
   match cs,h1 with
   | [y],_=>
    have : a=y:=hm.symm;subst this
    cases a with
    | agg ds=>
     simp only [AV.cells,sie] at hc;exact absurd (congrArg (@SizeOf.sizeOf (List AV) _) hc) (by grind)
    | top=>cases hc
    | tup=>cases hc
    | v x=>exact absurd (ik h).1 (by intro e;subst e;exact absurd (ik h).2<|by simp [plain])
    | _=>first | (cases h with | fr h=>cases h) | skip
  | []=>rw [show vs = #[] from Array.ext' h2];rfl
  | x::y::l=>
   show Value.agg (x::y::l).toArray=Value.agg vs;rw [<- h2]
 | _=>first | rfl | skip
section
variable {P:Program} {K V:Type} {kn vn:Nat} {kc:K->List Value} {cv:V->List AV} {uZ:TypeId} {l l':List (K×V)} {c:Cx} {b:Nat} {cs:Array Value}
theorem BF (hB:BRel c b (mB kn vn kc cv l) cs Rl) {i:Nat} (hi:i<l.length):((cs.toList.drop<|(c.φ b).2+i*(kn+vn)).take<|kn+vn).length=kn+vn/\∀ j,j<kn+vn->((cs.toList.drop<|(c.φ b).2+i*(kn+vn)).take<|kn+vn)[j]? = cs[(c.φ b).2+i*(kn+vn)+j]? := by
 have hfit:=hB.fits;simp only [llm] at hfit;have : (i+1)*(kn+vn)<=l.length*(kn+vn):=Sc _ hi
 grind
theorem H9 [DecidableEq K] (l:List<|K×V) (k:K) (v:V):(∃ j,Am l k=Rk j/\j<l.length/\I4 l k v=l.set j (k,v))\/(Am l k=Rl/\I4 l k v=l++[(k,v)]):=by
 unfold I4
 cases h:Am l k with
 | none=>simp_all
 | some j=>exact .inl ⟨j,rfl,(BD h).1,rfl⟩
theorem DL [DecidableEq K] (q:KeyA P uZ kn kc) (hv:∀ v,(cv v).length=vn) {o:Oper} {ρ:Operand->AV} {H:AH} {x y z:Operand} {t e:TypeId} (ho:o.op = .mapUpdate t x y z\/o.op = .insert t x y z) (ht:P.underlying t=Rk (.map uZ e)) (hs:0<kn+vn) (k:K) (v:V)
  (hx:ρ x = .mp b (kn+vn)) (hy:ρ y=mkA ((kc k).map AV.v)) (hz:(ρ z).cells=Rk (cv v)) (hzm:mkA (cv v)=ρ z) (hb:H[b]? = Rk (Rk<|mB kn vn kc cv l)) :
  QO P o ρ H .top (H.set b<|Rk<|mB kn vn kc cv<|I4 l k v):=by
 intro c a Kk Q hH hr hxs hK;have hxs':∀ w,w=x\/w=y\/w=z->c.rel (ρ w) (a.eval w):=λw hw=>hxs w (by rcases ho with ho | ho <;> rw [ho] <;> simpa [Op.operands] using hw);have h1:=hx ▸ hxs' x (.inl rfl);have h2:=I5 q k<|hy ▸ hxs' y (.inr<|.inl rfl);have h3:=hxs' z<|.inr<|.inr rfl;obtain ⟨z1,z2,z3⟩:=I8 h3 hz hzm;have hl:c.live b (mB kn vn kc cv l):=by unfold Cx.live;rw [hH];exact hb
 obtain ⟨cs,hu,hB⟩:=I6 hr hl h1;have hexec:execOp a.eval o=(do Instr.mapUpdate t (a.eval x) (a.eval y) (a.eval z);pure .skip):=by
  rcases ho with ho | ho <;> (rw [execOp,ho])
 have hat:=Mo hB;let f:Nat->List Value:=λi=>if i<l.length/\Am l k≠Rk i then (cs.toList.drop<|(c.φ b).2+i*(kn+vn)).take (kn+vn) else kc k++(a.eval z).cells.toList;have hfl:∀ i,(f i).length=kn+vn:=λi=>by
  show (if i<l.length/\Am l k≠Rk i then _ else _:List Value).length=_
  split
  ·rename_i h;exact (BF hB h.1).1
  rw [lla,q.len,z2,hv]
 have hnew:∀ i,¬ (i<l.length/\Am l k≠Rk i)->∀ cs':Array Value,(∀ j,j<kn+vn->cs'[i*(kn+vn)+j]? = (f i)[j]?)->l4 (kn+vn) kn 0 cs' i=⟨mkv<|kc k,a.eval z,i⟩:=λi h cs' hcs=>by
  have hf:f i=kc k++(a.eval z).cells.toList:=if_neg h;unfold l4;have e1:=FI (L:=(cs':Array Value).toList) (R:=kc k) (a:=0+i*(kn+vn)) λj x hx=>by
   have hj:j<kn:=by rw [<- q.len k];exact (ges hx).1
   have := hcs j (by omega);rw [hf,gal (by rw [q.len];exact hj),hx] at this;simpa using this
  have e2:=FI (L:=(cs':Array Value).toList) (R:=(a.eval z).cells.toList) (a:=0+i*(kn+vn)+kn) λj x hx=>by
   have hj:j<vn:=by rw [<- hv v,<- z2];exact (ges hx).1
   have := hcs (kn+j) (by omega);rw [hf,gar (by rw [q.len];omega),q.len,Sz,hx] at this;have e:0+i*(kn+vn)+kn+j=i*(kn+vn)+(kn+j):=by omega
   rw [e];simpa using this
  rw [q.len] at e1
  simp_all
 have hold:∀ i,(i<l.length/\Am l k≠Rk i)->∀ cs':Array Value,(∀ j,j<kn+vn->cs'[i*(kn+vn)+j]? = (f i)[j]?)->l4 (kn+vn) kn 0 cs' i=l4 (kn+vn) kn (c.φ b).2 cs i:=λi h cs' hcs=>by
  refine I3 (by omega) λp hp1 hp2=>?_;have := hcs (p-i*(kn+vn)) (by omega);rw [show f i=(cs.toList.drop<|(c.φ b).2+i*(kn+vn)).take (kn+vn) from if_pos h,(BF hB h.1).2 _ (by omega)] at this;rw [show 0+p=i*(kn+vn)+(p-i*(kn+vn)) from by omega,this]
  congr 1
  omega
 have hrows:∀ l',(∀ i p,l'[i]? = Rk p->(i<l.length/\Am l k≠Rk i/\l[i]? = Rk p)\/(¬ (i<l.length/\Am l k≠Rk i)/\p=(k,v)))->∀ (i:Nat) (row:List AV) (j:Nat) (a':AV),(mB kn vn kc cv l').rows[i]? = Rk row->row[j]? = Rk a'->∃ u,((R5 l'.length).flatMap f).toArray[i*(kn+vn)+j]? = Rk u/\u.oneCell'=Ri/\c.rel a' u:=λl' hl' i row j a' h4 h5=>by
  simp only [R9,Sa] at h4;obtain ⟨p,hp,rfl⟩:=h4;have hi:=(ges hp).1;have hj:j<kn+vn:=by
   have := (ges h5).1;simpa [M0,q.len,hv] using this
  rw [SA,EF (λi _=>hfl i) hi hj];rcases hl' i p hp with ⟨g1,g2,g3⟩ | ⟨g1,rfl⟩
  ·rw [show f i=(cs.toList.drop<|(c.φ b).2+i*(kn+vn)).take (kn+vn) from if_pos ⟨g1,g2⟩,(BF hB g1).2 j hj];exact hB.rel i _ j a' (FJ g3) h5
  rw [show f i=kc k++(a.eval z).cells.toList from if_neg g1];unfold M0 at h5;rcases R7 j kn with hjk | hjk
  ·rw [gal (by simpa [q.len] using hjk),R9] at h5;obtain ⟨u,hu',rfl⟩:=Sa.1 h5;have hp:=q.plain k u<|R8 hu';exact ⟨u,by rw [gal (by rw [q.len];exact hjk)];exact hu',Bh hp,cf hp⟩
  grind
 have hfin:∀ (l':List<|K×V) (es:Array MapEntry),(∀ i p,l'[i]? = Rk p->(i<l.length/\Am l k≠Rk i/\l[i]? = Rk p)\/(¬ (i<l.length/\Am l k≠Rk i)/\p=(k,v)))->es.size=l'.length ->
   (∀ i,i<l'.length->es[i]? = Rk (if i<l.length/\Am l k≠Rk i then l4 (kn+vn) kn (c.φ b).2 cs i else ⟨mkv<|kc k,a.eval z,i⟩))->I4 l k v=l' ->
   (Instr.mapUpdate t (a.eval x) (a.eval y)<|a.eval z).run P c.w = .ok () { c.w with heap:=c.w.heap.setIfInBounds (c.φ b).1 (.map es l'.length) }->o.wp P a c.w Kk Q:=λl' es g1 g2 g3 g4 g5=>by
  have hcs:∀ i,i<l'.length->∀ j,j<kn+vn->((R5 l'.length).flatMap f).toArray[i*(kn+vn)+j]? = (f i)[j]? := λi hi j hj=>by
   rw [SA,EF (λi _=>hfl i) hi hj]
  have hobj:Obj.map es l'.length=ID (mB kn vn kc cv l') 0 ((R5 l'.length).flatMap f).toArray Rl:=by
   have : es=(R6 l'.length).map (l4 (kn+vn) kn 0 ((R5 l'.length).flatMap f).toArray):=by
    apply Array.ext_getElem?;intro i
    by_cases hi:i<l'.length
    ·rw [g3 i hi];have e:((R6 l'.length).map<|l4 (kn+vn) kn 0 ((R5 l'.length).flatMap f).toArray)[i]? = Rk (l4 (kn+vn) kn 0 ((R5 l'.length).flatMap f).toArray i):=by simp [hi]
     rw [e]
     split
     ·rename_i h;rw [hold i h _ (hcs i hi)]
     rename_i h;rw [hnew i h _ (hcs i hi)]
    grind
   rw [this];simp [ID]
  have hext:Ext c (c.updM b (mB kn vn kc cv l') es l'.length):=Cx.updM_ext hr hl hB rfl rfl;have hrel:HRel (c.updM b (mB kn vn kc cv l') es l'.length):=Cx.updM_rel hr hl hB hext hobj hs (by simp [EG (n:=l'.length) (λi _=>hfl i)]) (λi row h=>by
   simp only [R9,Sa] at h;obtain ⟨p,_,rfl⟩:=h;simp [M0,q.len,hv]) (hrows l' g1)
  unfold Oper.wp;have : (execOp a.eval o).run P c.w = .ok .skip (c.updM b (mB kn vn kc cv l') es l'.length).w:=by
   rw [hexec];simp only [Sem.run_bind,g5,Result.andThen_ok,Sem.run_pure]
   rfl
  rw [this];exact hK _ (c.updM b (mB kn vn kc cv l') es l'.length) (by show c.H.set _ _=_;grind) hrel hext .top
 have hrun:∀ r,r=(Am l k).map (λj=>(j,(l4 (kn+vn) kn (c.φ b).2 cs j).val))->(Instr.mapUpdate t (a.eval x) (a.eval y) (a.eval z)).run P c.w=(match r with
   | some (j,_) => .ok () { c.w with heap:=c.w.heap.setIfInBounds (c.φ b).1 (.map (((R6 l.length).map<|l4 (kn+vn) kn (c.φ b).2 cs).modify j λe=>{ e with key:=mkv (kc k),val:=a.eval z }) l.length) }
   | none => .ok () { c.w with heap:=c.w.heap.setIfInBounds (c.φ b).1 (.map (((R6 l.length).map (l4 (kn+vn) kn (c.φ b).2 cs)).push { key:=mkv (kc k),val:=a.eval z,born:=l.length }) (l.length+1)) }):=λr hr'=>by
  subst hr';rw [hu,h2];unfold Instr.mapUpdate;simp only [Sem.run_bind,av ht,Result.andThen_ok,MapKept.run_getObj_map hat,q.check,GQ q hB]
  cases hm:Am l k with
  | none=>
   simp only [Option.map_none];exact MapKept.run_setObj_map _ hat
  | some j=>
   obtain ⟨hj,v0,hv0⟩:=BD hm;have e1:((R6 l.length).map<|l4 (kn+vn) kn (c.φ b).2 cs)[j]? = Rk (l4 (kn+vn) kn (c.φ b).2 cs j):=by simp [hj]
   simp only [Ss,e1,Option.getD_some,I7 q hB hv0,Sem.run_bind,q.stays,Result.andThen_ok];exact MapKept.run_setObj_map _ hat
 rcases H9 l k v with ⟨j,hm,hj,hp⟩ | ⟨hm,hp⟩
 ·refine hfin (l.set j (k,v)) (((R6 l.length).map<|l4 (kn+vn) kn (c.φ b).2 cs).modify j λe=>{ e with key:=mkv (kc k),val:=a.eval z }) (λi p hi=>?_) ?_ (λi hi=>?_) hp<|(hrun _ rfl).trans (by grind)
  ·rw [hm]
   by_cases e:j=i
   ·subst e;rw [List.getElem?_set_self hj] at hi;exact .inr ⟨λh=>h.2 rfl,(osl hi).symm⟩
   grind
  ·simp
  have hi':i<l.length:=by simpa using hi
  rw [hm,Array.getElem?_modify];have e1:((R6 l.length).map<|l4 (kn+vn) kn (c.φ b).2 cs)[i]? = Rk (l4 (kn+vn) kn (c.φ b).2 cs i):=by simp [hi']
  rw [e1]
  by_cases e:j=i
  ·subst e;rw [if_pos rfl,if_neg (λh=>h.2 rfl)]
   rfl
  grind
 refine hfin (l++[(k,v)]) (((R6 l.length).map<|l4 (kn+vn) kn (c.φ b).2 cs).push { key:=mkv (kc k),val:=a.eval z,born:=l.length }) (λi p hi=>?_) ?_ (λi hi=>?_) hp<|(hrun _ rfl).trans (by rw [hm];simp only [Option.map_none,lla,llc,Sr])
 ·rw [hm];rcases R7 i l.length with h | h
  ·rw [gal h] at hi;exact .inl ⟨h,nofun,hi⟩
  rw [gar h] at hi;have h0:i-l.length=0:=by
   have := (ges hi).1;simp at this;omega
  rw [h0] at hi;exact .inr ⟨λg=>by omega,(osl hi).symm⟩
 ·simp
 grind
end
end
end Go.Proofs.YtabfkkjdfhbngaaGreatDoor
