/- Texts joined. No conditions. -/
import Derived.Test.YtjcmfddobaplbaaGreatQ4
namespace Go.Proofs.YtjcmfddobaplbaaGreat
noncomputable section
open _root_.Option renaming bind -> FG
open _root_.List renaming mem_singleton -> FH, range -> FJ, mem_cons_self -> FK, mem_map -> FL, length_singleton -> FM, mem_append_left -> FO, mem_append -> FP, mem_flatMap -> FQ, replicate -> FT, mem_cons -> FU, getElem_mem -> FV, mem_append_right -> FW, mem_cons_of_mem -> FY, mem_of_getElem? -> FZ, getElem?_set_self -> F4, mem_range -> F5, take_add_one -> F6, not_mem_nil -> F7, getElem?_cons_zero -> F9, pairwise_cons -> Ga, map_map -> Gb, range_succ -> Gc, length_take -> Gf, getElem?_take -> Gg, getElem?_set_ne -> Gh, nil_append -> Gi, append_assoc -> Gm, map_append -> Gn, map_id -> Gp, map_congr_left -> Gq, getElem?_of_mem -> Gt, eq_nil_of_length_eq_zero -> Gv, nodup_iff_pairwise_ne -> Gx, getElem_of_mem -> Gz
open _root_.Int renaming le_refl -> FI
open _root_.Nat renaming mul_le_mul_right -> FN, le_refl -> FR, le_trans -> FX, add_mul -> F3, mul_comm -> F8, mod_eq_of_lt -> Gd, lt_or_ge -> Gj, pow_le_pow_right -> GA
open _root_.Array renaming length_toList -> Gr, getElem?_toList -> Gs, mem_of_getElem? -> Gu, getElem?_eq_getElem -> Gw
open _root_.List.Nodup renaming length_le_of_subset -> Gy
open Go.RowKit
set_option maxRecDepth 100000
section
variable {P:Program} {H:AH} {s:Nat} {o:Oper} {ρ:Operand->AV}
theorem wL {e:TypeId} {i:TypeInfo} {z:Value} (w:World) (hi:P.info? e=some i) (hz:i.zero=some z):(zeroValue e).run P w = .ok z w:=by simp [zeroValue,typeInfo,hi,hz]
theorem wM {cl:Call} {x:Operand} {t e:TypeId} {b ver off len:Nat} {k:ABlk} {z:Value} {zr:List AV} (ho:o.op = .call cl) (h1:cl.callee = .builtin .clear) (h2:cl.args.toList=[x]) (h3:cl.argTypes.toList=[t])
  (ht:P.underlying t=some (.slice e)) (hz:(P.info? e).bind (·.zero)=some z) (hz1:fA z.cells=true) (hzs:z.cells.size=s) (hzr:zr.length=s) (hzc:∀ (c:Cx) (j:Nat) (a:AV),zr[j]? = some a->∃ u,z.cells[j]? = some u/\c.rel a u)
  (hx:ρ x = .hs b ver s off len) (hb:H[b]? = some (some k)) (hv:k.ver=ver) (hs:k.s=s) (hoff:off+len<=k.rows.length) :
  CP P o ρ H .top (H.set b<|some { k with rows:=k.rows.take off++(FT len zr).take len++k.rows.drop (off+len) }):=by
 intro c a K Q hH hr hxs hK;obtain ⟨callee,args,ts⟩:=cl;simp only at h1 h2 h3;obtain rfl:args = #[x]:=by cases args;simp_all
 obtain rfl:ts = #[t]:=by cases ts;simp_all
 subst h1;have hx1:=hx ▸ hxs x (by rw [ho];simp [Op.operands,Call.operands]);generalize hn:len=n at hK ⊢;generalize hnews:FT n zr=news at hK ⊢;have hrl:∀ (i:Nat) (row:List AV),news[i]? = some row->row.length=s:=λi row h=>by
  rw [<- hnews] at h;have := FZ h;rw [List.mem_replicate] at this;rw [this.2,hzr]
 have hnl0:news.length=n:=by rw [<- hnews,List.length_replicate]
 have hone:∀ v∈z.cells,v.oneCell'=true:=by
  rw [kU,Array.all_eq_true_iff_forall_mem] at hz1;exact hz1
 generalize hvs:(Builtin.zeroCells z.cells n).toList=vs;have hvl:vs.length=n*s:=by rw [<- hvs,Gr,eU,hzs]
 have hvget:∀ i j,i<n->j<s->vs[i*s+j]? = z.cells[j]? := λi j hi hj=>by
  have hfit:i*s+j<n*s:=by
   have : (i+1)*s<=n*s:=FN _ (by omega);rw [F3] at this;omega
  rw [<- hvs,Gs];unfold Builtin.zeroCells;rw [hzs];have := mS z.cells (n*s) (i*s+j) hfit (by omega);rw [hzs] at this;rw [this,F8 i s,Nat.mul_add_mod,Gd hj]
 have hv1:∀ v∈vs,v.oneCell'=true:=λv hm=>by
  obtain ⟨q,hq⟩:=Gt hm;have hq':=(ges hq).1;rw [hvl] at hq';have hs0:0<s:=Nat.pos_of_ne_zero λh=>by rw [h,Nat.mul_zero] at hq';omega
  have e1:q=q / s*s+q % s:=by rw [F8];exact (Nat.div_add_mod q s).symm
  rw [e1,hvget (q / s) (q % s) (Nat.div_lt_of_lt_mul<|by rw [F8];exact hq') (Nat.mod_lt _ hs0)] at hq;exact hone v<|Gu hq
 have hvr:∀ (i:Nat) (row:List AV) (j:Nat) (a:AV),(news.take n)[i]? = some row->row[j]? = some a->∃ u,vs[i*s+j]? = some u/\u.oneCell'=true/\c.rel a u:=λi row j a hi hj=>by
  have hin:i<n:=by
   have := (ges hi).1;rw [Gf] at this;omega
  rw [Gg,if_pos hin,<- hnews] at hi;have := FZ hi;rw [List.mem_replicate] at this;rw [this.2] at hj;have hjs:j<s:=by rw [<- hzr];exact (ges hj).1
  obtain ⟨u,g1,g2⟩:=hzc c j a hj;exact ⟨u,by rw [hvget i j hin hjs];exact g1,hone u<|Gu g1,g2⟩
 have hl:c.live b k:=by unfold Cx.live;rw [hH];exact hb
 generalize hux:a.eval x=ux at hx1
 cases hx1 with
 | fr h=>cases h
 | @hs _ _ _ _ _ cap A hbn hcl hcm h0 hh=>
  obtain ⟨cur,fr,hB⟩:=hr.blk b k hl;obtain ⟨fr,rfl,hat,hd⟩:=hB.cells hl λx hx=>(hh x<|hv ▸ hx).1.trans hs.symm;rw [hv] at hd;obtain ⟨_,_,hA,hcf⟩:=hh _ hd;simp only at hA hcf;have hexec:∀ w',(n=0/\w'=c.w)\/(∃ ad,A=some ad/\0<n/\(storeCells ad vs).run P c.w = .ok () w')->(execOp a.eval o).run P c.w = .ok (.value<|.tuple #[]) w':=λw' hw=>by
   have e1:(Builtin.clear_ #[t] o.type #[.slice A len cap]).run P c.w = .ok (.tuple #[]) w':=by
    obtain ⟨inf,h5,h6⟩:=Option.bind_eq_some_iff.1 hz;rcases hw with ⟨h0',rfl⟩ | ⟨ad,rfl,hp,hst⟩
    ·rw [hn,h0']
     cases A <;> simp [Builtin.clear_,Sem.run_bind,ae ht]
    obtain ⟨q,rfl⟩:∃ q,n=q+1:=⟨n-1,by omega⟩;rw [hn];simp [Builtin.clear_,Sem.run_bind,ae ht,wL c.w h5 h6,hvs,hst]
   simp [execOp,ho,resolve,invoke,builtin,hux,e1]
  unfold Oper.wp;rcases Nat.eq_zero_or_pos n with h00 | hpos
  ·-- nothing is copied
   have hv0:vs=[]:=Gv (by rw [hvl,h00,Nat.zero_mul]);have hk0:({ k with rows:=k.rows.take off++news.take n++k.rows.drop (off+n) }:ABlk)=k:=by
    rw [h00];simp
   rw [hexec c.w (.inl ⟨h00,rfl⟩)];refine hK _ c ?_ hr (Ext.refl c) .top;rw [hk0,qc H b _ hb,hH]
  have h0':0<cap:=by omega
  obtain rfl:=hA h0';have hfit:=hB.fits;have hsp:=hB.pos;have hle:(c.φ b).2+off*s+vs.length<=cur.toList.length:=by
   have h5:(off+len)*s<=k.rows.length*s:=FN _ hoff;have h6:n*s<=len*s:=FN _ (by omega);rw [F3] at h5;have hct:cur.toList.length=cur.size:=Gr;rw [hs] at hfit;rw [hvl,hct];omega
  have hst:=dP (P:=P) (c.φ b).1 ((c.φ b).2+off*s) k.ty fr vs 0 cur c.w hat (hB.free fr rfl) (by simpa using hle) hv1;rw [Nat.add_zero] at hst;have hg2:=λq=>qa cur.toList _ _ hle q;have hs2:=qb cur.toList _ _ hle;generalize hcs2:(cur.toList.take ((c.φ b).2+off*s)++vs++cur.toList.drop ((c.φ b).2+off*s+vs.length))=ls at *;have hsz2:ls.toArray.size=cur.size:=by simpa using hs2
  have hget:∀ q,ls.toArray[q]? = if (c.φ b).2+off*s<=q/\q<(c.φ b).2+off*s+vs.length then vs[q-((c.φ b).2+off*s)]? else cur[q]? := λq=>by
   rw [List.getElem?_toArray,hg2,Gs (xs:=cur)]
  have hrl2:(k.rows.take off++news.take n++k.rows.drop (off+n)).length=k.rows.length:=by
   simp only [lla,Gf,List.length_drop];omega
  have hrow:∀ (i:Nat) (row:List AV),(k.rows.take off++news.take n++k.rows.drop (off+n))[i]? = some row->(off<=i/\i<off+n/\news[i-off]? = some row)\/((i<off\/off+n<=i)/\k.rows[i]? = some row):=λi row h=>by
   have hnl:(news.take n).length=n:=by simp;omega
   have e:=qa k.rows off (news.take n) (by rw [hnl];omega) i;rw [hnl] at e;rw [e] at h
   split at h
   ·rename_i h2;refine .inl ⟨h2.1,h2.2,?_⟩;rw [Gg,if_pos (by omega)] at h;exact h
   rename_i h2;exact .inr ⟨by omega,h⟩
  have hlen2:∀ (i:Nat) (row:List AV),(k.rows.take off++news.take n++k.rows.drop (off+n))[i]? = some row->row.length=k.s:=λi row h=>by
   rcases hrow i row h with ⟨_,_,h2⟩ | ⟨_,h2⟩
   ·rw [hrl _ row h2,hs]
   exact hB.len i row h2
  have hext:=Cx.upd_ext (k:={ k with rows:=k.rows.take off++news.take n++k.rows.drop (off+n) }) (o:=(c.φ b).2) (cs:=ls.toArray) hr hl hB hsz2 (.inl ⟨rfl,rfl,hrl2,rfl⟩);have hrel:=Cx.upd_rel (k:={ k with rows:=k.rows.take off++news.take n++k.rows.drop (off+n) }) (o:=(c.φ b).2) (cs:=ls.toArray) hr hl hB hsz2 rfl hext hsp (by simp only;rw [hrl2,hsz2];exact hfit) hlen2 (λi row j a' h h'=>by
   have hj:j<s:=by
    have := (ges h').1;rw [hlen2 i row h,hs] at this;exact this
   simp only;rw [hget,hs,hvl];rcases hrow i row h with ⟨g1,g2,g3⟩ | ⟨g1,g3⟩
   ·have hf:=ju (s:=s) (show i-off<n by omega) (j:=j+1) hj;have e:i*s=(i-off)*s+off*s:=by
     rw [<- F3]
     congr 1
     omega
    rw [if_pos (by omega)];obtain ⟨u',q1,q2,q3⟩:=hvr (i-off) row j a' (by rw [Gg,if_pos (by omega)];exact g3) h';refine ⟨u',?_,q2,q3⟩;rw [<- q1]
    congr 1
    omega
   have hi':=(ges g3).1;rw [if_neg (λhq=>?_)]
   ·have := hB.rel i row j a' g3 h';rw [hs] at this;exact this
   rcases g1 with g1 | g1
   ·have hf:=ju (s:=s) g1 (j:=j+1) hj;omega
   have hf:(off+n)*s<=i*s:=FN _ g1;rw [F3] at hf;omega)
  rw [hexec _ (.inr ⟨_,rfl,hpos,hst⟩)];exact hK _ _ (by rw [<- hH];rfl) hrel hext .top
variable {α:Type} {c:α->List AV} {l:List α} {x y:Operand} {t e:TypeId} {ag:Bool} {w m b ver off len:Nat} {zs:List AV}
def ZrR (zs zr:List AV):Prop:=zr.length=zs.length/\∀ (cx:Cx) (j:Nat) (a a':AV) (v:Value),zs[j]? = some a->zr[j]? = some a'->cx.rel a v->cx.rel a' v
theorem uS {β:Type} [Inhabited β] {f:β->List AV} {cx:Cx} {v:Value} (h:cx.rel .nil v):cx.rel (eL f ([]:List β)) v:=by
 obtain rfl:=cA h;exact .fr<|.sl (s:=1) (g:=0) (o:=0) (λ_ _ => .bool false) (FR _) (by decide) (λh=>absurd h<|by simp) (λi h=>absurd h<|by simp) (λi j a h=>absurd h<|by simp) (λi j a h=>absurd h<|by simp) λi j a h=>absurd h (by simp)
theorem zrN {β:Type} [Inhabited β] {f:β->List AV}:ZrR [.nil] [eL f ([]:List β)]:=⟨rfl,λcx j a a' v h h' hr=>by
 match j with
 | 0=>
  obtain rfl:=osl h;obtain rfl:=osl h';exact uS hr
 | j+1=>simp at h⟩
theorem CR.ixP {k:IntKind} {i:Int} {n lo:Nat} (q:SlT P t e ag w zs m) (hx:ρ x = .hs b ver w lo n) (hy:ρ y = .v (.int k i)) (hi:0<=i/\i<(n:Int)):CR P ρ (.indexAddr t x y) (.hp b ver w (lo+i.toNat) 0):=CR.ixhs q.u q.ty hx hy hi
theorem CR.lenP {n lo:Nat} (q:SlT P t e ag w zs m) (hx:ρ x = .hs b ver w lo n):CR P ρ (.call ⟨.builtin .len,#[x],#[t]⟩) (I n):=CR.lenhs q.u hx
theorem EvA.clearO [Inhabited α] (q:SlT P t e ag w zs m) (hz:ZrR zs<|c default) (hx:ρ x = .hs b ver w off len) (hk:H[b]? = some (bE false ver w e<|l.map c)) (ho:off+len<=l.length) :
  EvA P ρ (.call ⟨.builtin .clear,#[x],#[t]⟩) H .top (H.set b<|bE false ver w e<|(cpy l off (FT len default) len).map c):=λo ho'=>by
 obtain ⟨z,hz0,hzz⟩:=Option.map_eq_some_iff.1 q.z.z;have hone:fA z.cells=true:=by
  have := q.z.one;rw [hz0] at this;exact osl this
 have hsz:z.cells.size=w:=by
  have := congrArg List.length hzz;rw [<- q.zl,<- this];simp [bF]
 have h:=wM (o:=o) (P:=P) (ρ:=ρ) (H:=H) (s:=w) (k:=⟨ver,w,e,l.map c⟩) (zr:=c default) ho' rfl rfl rfl q.u hz0 hone hsz (hz.1.trans q.zl) (λcx j a ha=>by
  have hjl:j<zs.length:=by rw [<- hz.1];exact (ges ha).1
  have hzs:zs[j]? = some zs[j]:=geq hjl;have hju:j<z.cells.size:=by rw [hsz,<- q.zl];exact hjl
  refine ⟨z.cells[j],Gw hju,hz.2 cx j _ a _ hzs ha ?_⟩;have hc:=ig cx hone;obtain ⟨u,g1,g2⟩:=hc.get (j:=j) (a:=zs[j]) (by rw [hzz];exact hzs);rw [Gw hju] at g1;obtain rfl:=osl g1
  first | exact g2 | exact g2.2) hx hk rfl rfl (by simpa using ho)
 unfold cpy;rw [if_pos ho];simpa [bE,List.map_take,List.map_drop] using h
end
section
variable {P:Program} {H:AH}
theorem df.wown {f:FuncId} {as0 C0:List AV} {b:Nat} {g:Bool} {ver w w':Nat} {ty ty':TypeId} {iO rows:List (List AV)} {mk:AV->AV} {n:Nat} (h:df P f as0 [bE g ver w ty iO]<|wC w' ty' mk n rows 0 []) (hb:H[b]? = some (bE g ver w ty iO))
  (has:RenL (λc i=>[b][i]? = some c) C0 as0) (hk0:∀ r∈iO,∀ a∈r,isF 9 a=true) (hk:∀ r∈rows,∀ a∈r,isF 9 a=true) (hmk:∀ (S:Nat->Nat->Prop) (a b:AV),Ren S a b->Ren S (mk a) (mk b)) :
  df P f C0 H (λr G=>∃ g' ver',(g'=true->n=0)/\r=mk (hS g' b ver' w' n)/\G=H.set b (bE g' ver' w' ty' rows)):=by
 have hlt:b<H.length:=(ges hb).1;refine h.frameN [b] (by simp) rfl (λi c hi=>?_) has.spec.1 has.spec.2 λr0 G0 ⟨g',ver',hg,hr0,hG0⟩ => ?_
 ·match i with
  | 0=>
   obtain rfl:b=c:=by simpa using hi
   cases g with
   | true=>exact .inl ⟨hb,rfl⟩
   | false=>exact .inr ⟨_,_,hb,rfl,.ofF hk0⟩
  | i+1=>simp at hi
 subst hr0 hG0;have key:∀ i c,sg [b] H.length i c->i<1->c=b:=λi c hs hi=>by
  rcases hs with hs | ⟨hs,_⟩
  ·obtain rfl:i=0:=by omega
   simpa using hs.symm
  simp at hs;omega
 refine ⟨_,_,⟨by simp,by simp,λi c hi hs hn=>?_,λi c k0 hs hk0=>?_,λc hc hne=>Gh λe=>hne<|by simp [e]⟩,hmk _ _ _ ?_,⟨g',ver',hg,rfl,rfl⟩⟩
 ·simp only [Gi,FM] at hi;obtain rfl:=key i c hs hi;obtain rfl:i=0:=by omega
  simp only [Gi,F9,sie] at hn;rw [F4 hlt,hn]
 ·have hi:i<1:=by
   have := (ges hk0).1;simpa using this
  obtain rfl:=key i c hs hi;obtain rfl:i=0:=by omega
  simp only [Gi,F9,sie] at hk0;refine ⟨k0,by rw [F4 hlt,hk0],.ofF λr hr a ha=>?_⟩
  cases g' with
  | true=>cases hk0
  | false=>
   obtain rfl:=osl hk0;exact hk r hr a ha
 cases g' with
 | true=>exact .nil
 | false=>exact .hs (.inl rfl)
theorem dR.oneE {f:FuncId} {as0 C0:List AV} {b:Nat} {g:Bool} {ver w:Nat} {ty:TypeId} {iO rows:List (List AV)} {r:AV} (h:dR P f as0 [bE g ver w ty iO] r [bE g ver w ty rows]) (hb:H[b]? = some (bE g ver w ty iO))
  (has:RenL (λc i=>[b][i]? = some c) C0 as0) (hk0:∀ r∈iO,∀ a∈r,isF 9 a=true) (hk:∀ r∈rows,∀ a∈r,isF 9 a=true) (hr:isF 9 r=true):dR P f C0 H r (H.set b<|bE g ver w ty rows):=by
 have hlt:b<H.length:=(ges hb).1;have h0:df P f as0 [bE g ver w ty iO] (λr' G=>r'=r/\G=[bE g ver w ty rows]):=⟨h.1,λc vs hH hr hall=>(h.2 c vs hH hr hall).mono λe w' ⟨v,c',h1,h2,h3,h4,h5,h6⟩=>⟨v,c',r,h1,h2,⟨rfl,h3⟩,h4,h5,h6⟩⟩;refine df.acall<|h0.frameN [b] (by simp) rfl (λi c hi=>?_) has.spec.1 has.spec.2 λr0 G0 ⟨hr0,hG0⟩ => ?_
 ·match i with
  | 0=>
   obtain rfl:b=c:=by simpa using hi
   cases g with
   | true=>exact .inl ⟨hb,rfl⟩
   | false=>exact .inr ⟨_,_,hb,rfl,.ofF hk0⟩
  | i+1=>simp at hi
 subst hr0 hG0;have key:∀ i c,sg [b] H.length i c->i<1->c=b:=λi c hs hi=>by
  rcases hs with hs | ⟨hs,_⟩
  ·obtain rfl:i=0:=by omega
   simpa using hs.symm
  simp at hs;omega
 refine ⟨_,_,⟨by simp,by simp,λi c hi hs hn=>?_,λi c k0 hs hk0=>?_,λc hc hne=>Gh λe=>hne<|by simp [e]⟩,gZ 9 _ hr,rfl,rfl⟩
 ·simp only [FM] at hi;obtain rfl:=key i c hs hi;obtain rfl:i=0:=by omega
  simp only [F9,sie] at hn;rw [F4 hlt,hn]
 have hi:i<1:=by
  have := (ges hk0).1;simpa using this
 obtain rfl:=key i c hs hi;obtain rfl:i=0:=by omega
 simp only [F9,sie] at hk0;refine ⟨k0,by rw [F4 hlt,hk0],.ofF λr hr a ha=>?_⟩
 cases g with
 | true=>cases hk0
 | false=>
  obtain rfl:=osl hk0;exact hk r hr a ha
theorem yh {S:Nat->Nat->Prop} {g:Bool} {i j v w n n':Nat} (h:S i j) (hn:n=n'):Ren S (hS g i v w n) (hS g j v w n'):=hn ▸ qj h
variable {nt b0:Nat} {Q:Exit->Env->AH->Prop} {en:List (Nat×AV)} {ops:Array Oper} {l:List Oper} {d:Tmp} {t:TypeId} {pos:String} {af:Array Edge}
theorem oGW {cl:Call} {f:Operand} {g:FuncId} {gT as0:List AV} {H:AH} {b w0 ver w:Nat} {g0:Bool} {ty0 ty:TypeId} {iO rows:List (List AV)} {mk:AV->AV} {n:Nat} (hc:cl.callee = .value f) (hf:rho (aj en) f = .fn (.func g) gT)
  (h:df P g as0 [bE g0 ver w0 ty0 iO]<|wC w ty mk n rows 0 []) (hb:H[b]? = some (bE g0 ver w0 ty0 iO)) (has:RenL (λc i=>[b][i]? = some c) (cl.args.toList.map (rho<|aj en)++gT) as0) (hk0:∀ r∈iO,∀ a∈r,isF 9 a=true) (hk:∀ r∈rows,∀ a∈r,isF 9 a=true)
  (hmk:∀ (S:Nat->Nat->Prop) (a b:AV),Ren S a b->Ren S (mk a) (mk b)) (k:∀ g' ver',(g'=true->n=0)->TO P nt b0 ops l Q (aj ((d,mk<|hS g' b ver' w n)::en)) (H.set b<|bE g' ver' w ty rows)):TO P nt b0 ops (⟨some d,.call cl,t,pos,af,none⟩::l) Q (aj en) H:=by
 exact TO.runG (.free rfl) (qh rfl hc hf<|h.wown hb has hk0 hk hmk) λr' H' ⟨g',ver',hg,hr,hH⟩=>by
  subst hr hH;exact k g' ver' hg
end
section
variable {P:Program} {ρ:Operand->AV} {H:AH} {x y z:Operand} {t e iX:TypeId} {ag:Bool} {w j b kn:Nat}
theorem CR.slA {α:Type} [Inhabited α] {c:α->List AV} (l:List α) {row:List AV} (hu:P.underlying t=some (.array 3 e)) (ty:TyF P e ag w) (hx:ρ x = .fp row j) (hl:l.length=3) (hr:Nat.ble (j+3*w) row.length=true)
  (h:[(row.drop<|j+0*w).take w,(row.drop<|j+1*w).take w,(row.drop<|j+2*w).take w]=[c (l.getD 0 default),c (l.getD 1 default),c (l.getD 2 default)]):CR P ρ (.slice t x none none none) (eL c l):=by
 injection h with h0 h;injection h with h1 h;injection h with h2 _;have key:CR P ρ (.slice t x none none none) (.sl 3 λi=>(row.drop<|j+i*w).take w) := .mk λK hK=>by
  show lT P ρ (.slice t x none none none) K;simp only [lT,mr,hu,hx,Option.map_none];show (0<=(0:Int)/\(0:Int)<=((3:Nat):Int)/\((3:Nat):Int)<=((3:Nat):Int)/\j+3*P.cellsOf e<=row.length/\(P.info? e).isSome=true/\3<=9223372036854775807)/\_;rw [ty.cells];exact ⟨⟨by omega,by omega,by omega,nlb hr,ty.info,by omega⟩,hK⟩
 refine key.res λC v hv=>?_;unfold Go.Proofs.YtjcmfddobaplbaaGreat.eL;rw [hl];exact qZ (λi hi=>by
  match i,hi with
  | 0,_=>exact h0
  | 1,_=>exact h1
  | 2,_=>exact h2) hv
variable {K:Type} [DecidableEq K] {kc:K->List Value} {l:List (K×Bool)}
theorem EvA.minsB (q:KeyA P iX kn kc) (ht:P.underlying t=some (.map iX e)) (k:K) (v:Bool)
  (hx:ρ x = .mp b (kn+1)) (hy:ρ y=mkA ((kc k).map AV.v)) (hz:ρ z=Bo v) (hb:H[b]? = some (some<|mB kn 1 kc cB l)) :
  EvA P ρ (.insert t x y z) H .top (H.set b<|some<|mB kn 1 kc cB<|oH l k v):=
 EvA.mins (vn:=1) (cv:=cB) q (λ_=>rfl) ht (Nat.succ_pos kn) k v hx hy (by rw [hz];rfl) (by rw [hz];rfl) hb
omit [DecidableEq K] in
theorem EvA.mlenB (ht:P.underlying t=some (.map iX e)) (hx:ρ x = .mp b (kn+1)) (hb:H[b]? = some (some<|mB kn 1 kc cB l)):EvA P ρ (.call ⟨.builtin .len,#[x],#[t]⟩) H (I l.length) H:=
 EvA.mlen (vn:=1) (cv:=cB) ht hx hb
end
def cmpL:LI->LI->Int
 | [],[]=>0
 | [],_::_ => -1
 | _::_,[]=>1
 | a::l,b::k=>if a<b then -1 else if b<a then 1 else cmpL l k
theorem jc:∀ l,cmpL l l=0
 | []=>rfl
 | a::l=>by rw [cmpL,if_neg (Int.lt_irrefl _),if_neg (Int.lt_irrefl _),jc l]
theorem jv:∀ l k,cmpL k l = - cmpL l k
 | [],[]=>rfl
 | [],_::_=>rfl
 | _::_,[]=>rfl
 | a::l,b::k=>by
  rw [cmpL,cmpL]
  by_cases h:a<b
  ·rw [if_pos h,if_pos h,if_neg (by omega)]
   rfl
  rw [if_neg h,if_neg h]
  by_cases h2:b<a
  ·rw [if_pos h2,if_pos h2]
  rw [if_neg h2,if_neg h2,jv l k]
theorem cmpL_eq:∀ {l k},cmpL l k=0->l=k
 | [],[],_=>rfl
 | [],_::_,h=>by cases h
 | _::_,[],h=>by cases h
 | a::l,b::k,h=>by
  rw [cmpL] at h
  split at h
  ·cases h
  split at h
  ·cases h
  rw [cmpL_eq h]
  congr 1
  omega
theorem jw:∀ {l k m},cmpL l k<0->cmpL k m<0->cmpL l m<0
 | [],[],_,h,_=>by cases h
 | [],_::_,[],_,h=>by simp [cmpL] at h
 | [],_::_,_::_,_,_=>by simp [cmpL]
 | _::_,[],_,h,_=>by simp [cmpL] at h
 | _::_,_::_,[],_,h=>by simp [cmpL] at h
 | a::l,b::k,c::m,h1,h2=>by
  rw [cmpL] at h1 h2 ⊢
  by_cases e1:a<b
  ·by_cases e2:c<b
   ·rw [if_neg (by omega),if_pos e2] at h2
    cases h2
   rw [if_pos (by omega)]
   decide
  rw [if_neg e1] at h1
  by_cases e2:b<a
  ·rw [if_pos e2] at h1
   cases h1
  rw [if_neg e2] at h1;obtain rfl:a=b:=by omega
  by_cases e3:a<c
  ·rw [if_pos e3]
   decide
  rw [if_neg e3] at h2 ⊢
  by_cases e4:c<a
  ·rw [if_pos e4] at h2
   cases h2
  rw [if_neg e4] at h2 ⊢;exact jw h1 h2
theorem jy (l k:LI):cmpL l k<0\/l=k\/cmpL k l<0:=by
 have := jv l k;rcases Int.lt_trichotomy (cmpL l k) 0 with h | h | h
 ·exact .inl h
 ·exact .inr<|.inl<|cmpL_eq h
 exact .inr<|.inr (by omega)
def leL (x y:LI):Bool:=decide<|¬ cmpL y x<0
def ru (l:LL):LL:=l.mergeSort leL
theorem wN (x y:LI):(leL x y||leL y x)=true:=by
 unfold leL;rw [Bool.or_eq_true,dte,dte];rcases jy x y with h | h | h
 ·left;have := jv x y;omega
 ·left;rw [h,jc];decide
 right;have := jv x y;omega
theorem wO (x y z:LI) (h1:leL x y=true) (h2:leL y z=true):leL x z=true:=by
 unfold leL at *;rw [dte] at *;intro h;rcases jy x y with g | g | g
 ·rcases jy y z with g2 | g2 | g2
  ·exact h2<|jw h g
  ·rw [g2] at h1;exact h1 h
  exact h2 g2
 ·rw [g] at h;exact h2 h
 exact h1 g
theorem tL (x y:LI) (h1:leL x y=true) (h2:leL y x=true):x=y:=by
 unfold leL at *;rw [dte] at *;rcases jy x y with h | h | h
 ·exact absurd h h2
 ·exact h
 exact absurd h h1
theorem gK (l:LL):(ru l).Perm l:=List.mergeSort_perm l leL
theorem nQ (l:LL):(ru l).Pairwise λx y=>leL x y=true:=List.pairwise_mergeSort wO wN l
theorem nR:∀ {l k:LL},l.Perm k->l.Pairwise (λx y=>leL x y=true)->k.Pairwise (λx y=>leL x y=true)->l=k
 | [],k,h,_,_=>h.nil_eq
 | a::l,[],h,_,_=>absurd h.length_eq (by simp)
 | a::l,b::k,h,h1,h2=>by
  have hab:a=b:=by
   rcases FU.1 (h.subset<|FK) with e | e
   ·exact e
   rcases FU.1 (h.symm.subset<|FK) with e2 | e2
   ·exact e2.symm
   exact tL a b ((Ga.1 h1).1 b e2)<|(Ga.1 h2).1 a e
  subst hab;rw [nR (List.perm_cons a |>.1 h) (Ga.1 h1).2 (Ga.1 h2).2]
def cN (l:LL):Option (LL):=gd (decide<|l.length<4611686018427387904)<|some<|ru l
theorem jd {l q:LL} (h:l=[]) (c:cN l=some q):q=[]:=by
 subst h;obtain ⟨_,c⟩:=gdD c;rw [<- osl c];exact (gK []).eq_nil
theorem je {l q:LL} (c:cN l=some q):q.length=l.length:=by
 obtain ⟨_,c⟩:=gdD c;rw [<- osl c];exact (gK l).length_eq
def lw (p:List<|List CV):Option CX:= some (⟨(⟨p,(⟨(0:Int),(0:Int),(0:Int)⟩:Z3b),(⟨(⟨(0:Int),(0:Int),(0:Int)⟩:Z3b),(⟨(0:Int),(0:Int),(0:Int)⟩:Z3b),(⟨(0:Int),(0:Int),(0:Int)⟩:Z3b)⟩:Z33),(⟨(0:Int),(0:Int),(0:Int)⟩:Z3b)⟩:CW)⟩:CX)
def dN (v:CW):LS ((LI)×Int) (LI):=λs6=>bif decide (s6.2<(3:Int)) then gd (decide<|0<=s6.2/\s6.2<3) <|gd (fH (s6.1.length+([(⟨(Z33.get v.reg s6.2).x0,(Z33.get v.reg s6.2).x1,(Z33.get v.reg s6.2).x2⟩:Z3b).x0,(⟨(Z33.get v.reg s6.2).x0,(Z33.get v.reg s6.2).x1,(Z33.get v.reg s6.2).x2⟩:Z3b).x1,(⟨(Z33.get v.reg s6.2).x0,(Z33.get v.reg s6.2).x1,(Z33.get v.reg s6.2).x2⟩:Z3b).x2]:LI).length) 1) <|gd (CS .i64<|s6.2+(1:Int)) <|some (.inl ((s6.1++([(⟨(Z33.get v.reg s6.2).x0,(Z33.get v.reg s6.2).x1,(Z33.get v.reg s6.2).x2⟩:Z3b).x0,(⟨(Z33.get v.reg s6.2).x0,(Z33.get v.reg s6.2).x1,(Z33.get v.reg s6.2).x2⟩:Z3b).x1,(⟨(Z33.get v.reg s6.2).x0,(Z33.get v.reg s6.2).x1,(Z33.get v.reg s6.2).x2⟩:Z3b).x2]:LI)),(s6.2+(1:Int)))) else some (.inr s6.1)
def aX (v:CW):Option ByteArray:= gd (fH (([]:LI).length+([v.pc.x0,v.pc.x1,v.pc.x2]:LI).length) 1) <|FG (dH (dN v) ((([]:LI)++([v.pc.x0,v.pc.x1,v.pc.x2]:LI)),(0:Int))) λs2=>gd (fH (s2.length+([v.mem.x0,v.mem.x1,v.mem.x2]:LI).length) 1) <|some<|strOfNums<|s2++([v.mem.x0,v.mem.x1,v.mem.x2]:LI)
def bz (s:CX):Option ByteArray:= FG (aX s.values) λv1=>some v1
def aT (v:CW) (t:Int):Option (CV×Bool):= gd (decide<|0<=t/\t<3) <|gd (CS .i64<|Z3b.get v.pc t) <|gd (decide<|0<=t/\t<(v.p.length:Int)) <|bif decide (((v.p.getD t.toNat default).length:Int)<=(Z3b.get v.pc t)) then some ((⟨(0:Int),(0:Int),(0:Int),(0:Int)⟩:CV),false) else gd (decide<|0<=(Z3b.get v.pc t)/\(Z3b.get v.pc t)<((v.p.getD t.toNat default).length:Int)) <|some ((⟨((v.p.getD t.toNat default).getD (Z3b.get v.pc t).toNat default).Op,((v.p.getD t.toNat default).getD (Z3b.get v.pc t).toNat default).Loc,((v.p.getD t.toNat default).getD (Z3b.get v.pc t).toNat default).Reg,((v.p.getD t.toNat default).getD (Z3b.get v.pc t).toNat default).Val⟩:CV),true)
def eM (v:CW):LS Int (Unit ⊕ Bool):=λs4=>bif decide (s4<(v.p.length:Int)) then FG (aT v s4) λv7=>bif v7.2 then some (.inr<|.inr false) else gd (CS .i64<|s4+(1:Int)) <|some (.inl<|s4+(1:Int)) else some (.inr<|.inl ())
def aS (v:CW):Option Bool:= sumK (dH (eM v) (0:Int)) λs1=>some true
def bA (s:CX):Option Bool:= FG (aS s.values) λv1=>some v1
def cE (v:CW) (s7:(LI)×Int):LS ((LI)×Int) (LI):=λs20=>bif decide (s20.2<(3:Int)) then gd (decide<|0<=s20.2/\s20.2<3) <|gd (CS .i64<|Z3b.get (Z33.get v.reg s7.2) s20.2) <|gd (fH (s20.1.length+1) 8) <|gd (CS .i64<|s20.2+(1:Int)) <|some (.inl ((s20.1++[(Z3b.get (Z33.get v.reg s7.2) s20.2)]),(s20.2+(1:Int)))) else some (.inr s20.1)
def cO (v:CW):LS ((LI)×Int) (LI):=λs7=>bif decide (s7.2<(v.p.length:Int)) then FG (gd (decide<|0<=s7.2/\s7.2<3) <|dH (cE v s7) (s7.1,(0:Int))) λs13=>gd (CS .i64<|s7.2+(1:Int)) <|some (.inl (s13,(s7.2+(1:Int)))) else some (.inr s7.1)
def cF (v:CW):LS ((LI)×Int) (LI):=λs43=>bif decide (s43.2<(3:Int)) then gd (decide<|0<=s43.2/\s43.2<3) <|gd (CS .i64<|Z3b.get v.mem s43.2) <|gd (fH (s43.1.length+1) 8) <|gd (CS .i64<|s43.2+(1:Int)) <|some (.inl ((s43.1++[(Z3b.get v.mem s43.2)]),(s43.2+(1:Int)))) else some (.inr s43.1)
def aG (v:CW):Option (LI):= FG (dH (cO v) (([]:LI),(0:Int))) λs1=>FG (dH (cF v) (s1,(0:Int))) λs37=>some s37
def eG (s:CX):LS ((LI)×Int) (LI):=λs7=>bif decide (s7.2<(s.values.p.length:Int)) then FG (FG (aT s.values s7.2) λv14=>bif v14.2 then gd (fH (s7.1.length+1) 8) <|some (s7.1++[s7.2]) else some s7.1) λs13=>gd (CS .i64<|s7.2+(1:Int)) <|some (.inl (s13,(s7.2+(1:Int)))) else some (.inr s7.1)
def bY (s:CX):Option (LI):= FG (dH (eG s) (([]:LI),(0:Int))) λs1=>some s1
def bG (v:CW) (t:Int) (x:CV):Option Int:= bif (x.Op==(3:Int)) then gd (decide<|0<=t/\t<3) <|gd (decide<|0<=x.Reg/\x.Reg<3) <|some (Z3b.get (Z33.get v.reg t) x.Reg) else gd (CS .u8 x.Val) <|some x.Val
def cm (x:CV):Option Bool:= FG (bif (x.Op==(1:Int)) then some true else some (x.Op==(5:Int))) λs1=>some s1
def dx (x:CV):Option Bool:= FG (bif (x.Op==(2:Int)) then some true else some (x.Op==(3:Int))) λs1=>FG (bif s1 then some true else some (x.Op==(5:Int))) λs3=>some s3
def bZ (s:CX) (t:Int):Option CX:= FG (aT s.values t) λv1=>gd (decide<|0<=t/\t<3) <|gd (CS .u8<|(Z3b.get s.values.pc t)+(1:Int)) <|FG (bG s.values t (⟨v1.1.Op,v1.1.Loc,v1.1.Reg,v1.1.Val⟩:CV)) λv4=>FG (FG (cm (⟨v1.1.Op,v1.1.Loc,v1.1.Reg,v1.1.Val⟩:CV)) λv6=>bif v6 then gd (decide<|0<=v1.1.Loc/\v1.1.Loc<3) <|gd (decide<|0<=v1.1.Reg/\v1.1.Reg<3) <|some (((Z33.set s.values.reg t<|Z3b.set (Z33.get s.values.reg t) v1.1.Reg<|Z3b.get s.values.mem v1.1.Loc).x0).x0,((Z33.set s.values.reg t<|Z3b.set (Z33.get s.values.reg t) v1.1.Reg<|Z3b.get s.values.mem v1.1.Loc).x0).x1,((Z33.set s.values.reg t<|Z3b.set (Z33.get s.values.reg t) v1.1.Reg<|Z3b.get s.values.mem v1.1.Loc).x0).x2,((Z33.set s.values.reg t<|Z3b.set (Z33.get s.values.reg t) v1.1.Reg<|Z3b.get s.values.mem v1.1.Loc).x1).x0,((Z33.set s.values.reg t<|Z3b.set (Z33.get s.values.reg t) v1.1.Reg<|Z3b.get s.values.mem v1.1.Loc).x1).x1,((Z33.set s.values.reg t<|Z3b.set (Z33.get s.values.reg t) v1.1.Reg<|Z3b.get s.values.mem v1.1.Loc).x1).x2,((Z33.set s.values.reg t<|Z3b.set (Z33.get s.values.reg t) v1.1.Reg<|Z3b.get s.values.mem v1.1.Loc).x2).x0,((Z33.set s.values.reg t<|Z3b.set (Z33.get s.values.reg t) v1.1.Reg<|Z3b.get s.values.mem v1.1.Loc).x2).x1,((Z33.set s.values.reg t<|Z3b.set (Z33.get s.values.reg t) v1.1.Reg<|Z3b.get s.values.mem v1.1.Loc).x2).x2) else some (s.values.reg.x0.x0,s.values.reg.x0.x1,s.values.reg.x0.x2,s.values.reg.x1.x0,s.values.reg.x1.x1,s.values.reg.x1.x2,s.values.reg.x2.x0,s.values.reg.x2.x1,s.values.reg.x2.x2)) λs5=>FG (FG (dx (⟨v1.1.Op,v1.1.Loc,v1.1.Reg,v1.1.Val⟩:CV)) λv11=>bif v11 then gd (decide<|0<=v1.1.Loc/\v1.1.Loc<3) <|some ((Z3b.set s.values.mem v1.1.Loc v4).x0,(Z3b.set s.values.mem v1.1.Loc v4).x1,(Z3b.set s.values.mem v1.1.Loc v4).x2) else some (s.values.mem.x0,s.values.mem.x1,s.values.mem.x2)) λs10=>some (⟨(⟨s.values.p,(⟨(Z3b.set s.values.pc t<|(Z3b.get s.values.pc t)+(1:Int)).x0,(Z3b.set s.values.pc t<|(Z3b.get s.values.pc t)+(1:Int)).x1,(Z3b.set s.values.pc t<|(Z3b.get s.values.pc t)+(1:Int)).x2⟩:Z3b),(⟨(⟨s5.1,s5.2.1,s5.2.2.1⟩:Z3b),(⟨s5.2.2.2.1,s5.2.2.2.2.1,s5.2.2.2.2.2.1⟩:Z3b),(⟨s5.2.2.2.2.2.2.1,s5.2.2.2.2.2.2.2.1,s5.2.2.2.2.2.2.2.2⟩:Z3b)⟩:Z33),(⟨s10.1,s10.2.1,s10.2.2⟩:Z3b)⟩:CW)⟩:CX)
def eu (s1_:LI) (s2_:LI):LS Int (Unit ⊕ Bool):=λs5=>bif decide (s5<(s1_.length:Int)) then gd (decide<|0<=s5/\s5<(s1_.length:Int)) <|gd (decide<|0<=s5/\s5<(s2_.length:Int)) <|bif ((s1_.getD s5.toNat default) != (s2_.getD s5.toNat default)) then some (.inr<|.inr false) else gd (CS .i64<|s5+(1:Int)) <|some (.inl<|s5+(1:Int)) else some (.inr<|.inl ())
def bq (s1_:LI) (s2_:LI):Option Bool:= bif ((s1_.length:Int) != (s2_.length:Int)) then some false else sumK (dH (eu s1_ s2_) (0:Int)) λs2=>some true
def aY (a:LI) (b:LI):Option Bool:= FG (bq a b) λv1=>some v1
def aA (s8:(LL)×Int):LS ((LL)×Int×Int) ((LL)×Int):=λs25=>bif decide (s25.2.1<((((s8.1.length:Int).toNat-s8.2.toNat):Nat):Int)) then FG (gd (decide<|(0<=s25.2.1/\s25.2.1<((((s8.1.length:Int).toNat-s8.2.toNat):Nat):Int))/\((0+s8.2.toNat)+s25.2.1.toNat)<s25.1.length) <|gd (CS .i64<|s25.2.1-(1:Int)) <|gd (decide<|(0<=(s25.2.1-(1:Int))/\(s25.2.1-(1:Int))<((((s8.1.length:Int).toNat-s8.2.toNat):Nat):Int))/\((0+s8.2.toNat)+(s25.2.1-(1:Int)).toNat)<s25.1.length) <|FG (aY (s25.1.getD ((0+s8.2.toNat)+s25.2.1.toNat) default)<|s25.1.getD ((0+s8.2.toNat)+(s25.2.1-(1:Int)).toNat) default) λv33=>bif !v33 then gd (decide<|0<=s25.2.2/\s25.2.2<(s25.1.length:Int)) <|gd (CS .i64<|s25.2.2+(1:Int)) <|some ((s25.1.set s25.2.2.toNat<|s25.1.getD ((0+s8.2.toNat)+s25.2.1.toNat) default),(s25.2.2+(1:Int))) else some (s25.1,s25.2.2)) λs29=>gd (CS .i64<|s25.2.1+(1:Int)) <|some (.inl (s29.1,(s25.2.1+(1:Int)),s29.2)) else some (.inr (s25.1,s25.2.2))
def aB:LS ((LL)×Int) ((LL) ⊕ (LL)):=λs8=>bif decide (s8.2<(s8.1.length:Int)) then sumK (gd (decide<|0<=s8.2/\s8.2<(s8.1.length:Int)) <|gd (CS .i64<|s8.2-(1:Int)) <|gd (decide<|0<=(s8.2-(1:Int))/\(s8.2-(1:Int))<(s8.1.length:Int)) <|FG (aY (s8.1.getD s8.2.toNat default)<|s8.1.getD ((s8.2-(1:Int)).toNat) default) λv18=>bif v18 then gd (decide<|0<=s8.2/\s8.2<=(s8.1.length:Int)/\(s8.1.length:Int)<=(s8.1.length:Int)) <|FG (dH (aA s8) (s8.1,(1:Int),s8.2)) λs21=>gd (decide<|0<=s21.2/\s21.2<=(s21.1.length:Int)/\(s21.1.length:Int)<=(s21.1.length:Int)) <|gd (decide<|0<=(0:Int)/\(0:Int)<=s21.2/\s21.2<=(s21.1.length:Int)) <|some (.inr<|.inr<|.inr<|((cpy s21.1 (0+s21.2.toNat) (FT ((s21.1.length:Int).toNat-s21.2.toNat) (default:LI))<|(s21.1.length:Int).toNat-s21.2.toNat).drop (0:Int).toNat).take<|s21.2.toNat-(0:Int).toNat) else some (.inl ())) λs14=>gd (CS .i64<|s8.2+(1:Int)) <|some (.inl (s8.1,(s8.2+(1:Int)))) else some (.inr<|.inl s8.1)
def av (s:LL):Option (LL):= bif decide ((s.length:Int)<(2:Int)) then some s else sumK (dH aB (s,(1:Int))) λs2=>some s2
def aH (list:LL):Option (LL):= FG (cN list) λv1=>FG (av v1) λv2=>some v2
def dZ (s9:(List<|ByteArray×Bool)×(LL)×(List CX)) (s19:(LL)) (v27:(LI)):LS ((List<|ByteArray×Bool)×(List CX)×Int) (((List<|ByteArray×Bool)×(LL)×(List CX)) ⊕ ((List<|ByteArray×Bool)×(LL))):=λs31=>bif decide (s31.2.2<(v27.length:Int)) then FG (gd (decide<|0<=s31.2.2/\s31.2.2<(v27.length:Int)) <|FG (bZ (s9.2.2.getD (((s9.2.2.length:Int)-(1:Int)).toNat) default)<|v27.getD s31.2.2.toNat default) λv37=>FG (bz v37) λv38=>bif !((rH s31.1 v38).getD false) then gd (fH (s31.2.1.length+1) 16) <|some ((oH s31.1 v38 true),(s31.2.1++[v37])) else some (s31.1,s31.2.1)) λs35=>gd (CS .i64<|s31.2.2+(1:Int)) <|some (.inl (s35.1,s35.2,(s31.2.2+(1:Int)))) else some (.inr<|.inl (s31.1,s19,s31.2.1))
def d9:LS ((List<|ByteArray×Bool)×(LL)×(List CX)) ((List<|ByteArray×Bool)×(LL)):=λs9=>bif decide ((0:Int)<(s9.2.2.length:Int)) then gd (CS .i64<|(s9.2.2.length:Int)-(1:Int)) <|gd (decide<|0<=((s9.2.2.length:Int)-(1:Int))/\((s9.2.2.length:Int)-(1:Int))<(s9.2.2.length:Int)) <|gd (decide<|0<=(0:Int)/\(0:Int)<=((s9.2.2.length:Int)-(1:Int))/\((s9.2.2.length:Int)-(1:Int))<=(s9.2.2.length:Int)) <|FG (FG (bA<|s9.2.2.getD (((s9.2.2.length:Int)-(1:Int)).toNat) default) λv20=>bif v20 then FG (aG<|(s9.2.2.getD (((s9.2.2.length:Int)-(1:Int)).toNat) default).values) λv22=>gd (fH (s9.2.1.length+1) 24) <|some (s9.2.1++[v22]) else some s9.2.1) λs19=>FG (bY<|s9.2.2.getD (((s9.2.2.length:Int)-(1:Int)).toNat) default) λv27=>dH (dZ s9 s19 v27) (s9.1,((s9.2.2.drop (0:Int).toNat).take<|((s9.2.2.length:Int)-(1:Int)).toNat-(0:Int).toNat),(0:Int)) else some (.inr (s9.1,s9.2.1))
def dJ (start:CX):Option ((LL)×Int):= FG (bz start) λv1=>FG (dH d9 ((oH ([]:List<|ByteArray×Bool) v1 true),([]:LL),([start]:List CX))) λs2=>FG (aH s2.2) λv46=>some (v46,(s2.1.length:Int))
def dS (p:List<|List CV):Option (LL):= FG (ak p) λv1=>bif !v1 then some ([]:LL) else FG (lw p) λv3=>FG (dJ v3) λv4=>some v4.1
def dU (p:List<|List CV) (split:Bool):Option aa:= gd (decide<|0<=(p.length:Int)/\(p.length:Int)<=(p.length:Int)/\(p.length:Int)*((24:Nat):Int)<=140737488355328/\(p.length:Int)<=140737488355328) <|FG (bif split then gd (CS .i64<|(3:Int)*(p.length:Int)) <|gd (decide<|0<=((3:Int)*(p.length:Int))/\((3:Int)*(p.length:Int))<=((3:Int)*(p.length:Int))/\((3:Int)*(p.length:Int))*((24:Nat):Int)<=140737488355328/\((3:Int)*(p.length:Int))<=140737488355328) <|some (FT ((3:Int)*(p.length:Int)).toNat ([]:LI)) else some (FT (p.length:Int).toNat ([]:LI))) λs2=>some (⟨(⟨p,(⟨(0:Int),(0:Int),(0:Int)⟩:Z3b),(⟨(⟨(0:Int),(0:Int),(0:Int)⟩:Z3b),(⟨(0:Int),(0:Int),(0:Int)⟩:Z3b),(⟨(0:Int),(0:Int),(0:Int)⟩:Z3b)⟩:Z33),(⟨(0:Int),(0:Int),(0:Int)⟩:Z3b)⟩:CW),split,s2⟩:aa)
def dO (s:aa):LS ((LI)×Int) (LI):=λs7=>bif decide (s7.2<(s.waits.length:Int)) then gd (decide<|0<=s7.2/\s7.2<(s.waits.length:Int)) <|gd (CS .u8 ((s.waits.getD s7.2.toNat default).length:Int)) <|gd (fH (s7.1.length+1) 1) <|gd (fH ((s7.1++[((s.waits.getD s7.2.toNat default).length:Int)]).length+(s.waits.getD s7.2.toNat default).length) 1) <|gd (CS .i64<|s7.2+(1:Int)) <|some (.inl (((s7.1++[((s.waits.getD s7.2.toNat default).length:Int)])++(s.waits.getD s7.2.toNat default)),(s7.2+(1:Int)))) else some (.inr s7.1)
def aZ (s:aa):Option ByteArray:= FG (aX s.values) λv1=>gd (decide<|v1.size<=35184372088832) <|FG (dH (dO s) ((ik v1),(0:Int))) λs3=>some<|strOfNums s3
def fS (waits:LI):Option Bool:= some<|decide<|(0:Int)<(waits.length:Int)
def aQ (s:LL):LS Int (Unit ⊕ Int):=λs4=>bif decide (s4<(s.length:Int)) then gd (decide<|0<=s4/\s4<(s.length:Int)) <|FG (fS<|s.getD s4.toNat default) λv8=>bif v8 then some (.inr<|.inr s4) else gd (CS .i64<|s4+(1:Int)) <|some (.inl<|s4+(1:Int)) else some (.inr<|.inl ())
def aF (s:LL):Option Int:= sumK (dH (aQ s) (0:Int)) λs1=>some (-1:Int)
def aC (s:LL):Option Bool:= FG (aF s) λv1=>some<|decide<|(0:Int)<=v1
def bu (s:aa):Option Bool:= FG (aS s.values) λv1=>FG (bif v1 then FG (aC s.waits) λv4=>some (!v4) else some false) λs2=>some s2
def bB (s:aa) (t:Int) (loc:Int):Option Int:= bif s.split then gd (CS .i64<|(3:Int)*t) <|gd (CS .i64<|((3:Int)*t)+loc) <|some (((3:Int)*t)+loc) else some t
def ez (s:aa) (t:Int):LS Int (Unit ⊕ Bool):=λs4=>bif decide (s4<(3:Int)) then FG (bB s t s4) λv7=>gd (decide<|0<=v7/\v7<(s.waits.length:Int)) <|bif decide ((0:Int)<((s.waits.getD v7.toNat default).length:Int)) then some (.inr<|.inr false) else gd (CS .i64<|s4+(1:Int)) <|some (.inl<|s4+(1:Int)) else some (.inr<|.inl ())
def bU (s:aa) (t:Int):Option Bool:= sumK (dH (ez s t) (0:Int)) λs1=>some true
def dz (s:aa):LS ((LI)×Int) (LI):=λs7=>bif decide (s7.2<(s.values.p.length:Int)) then FG (FG (aT s.values s7.2) λv14=>FG (bif v14.2 then FG (bif (v14.1.Op != (4:Int)) then some (v14.1.Op != (5:Int)) else some false) λs17=>FG (bif s17 then some true else FG (bU s s7.2) λv21=>some v21) λs19=>some s19 else some false) λs15=>bif s15 then gd (fH (s7.1.length+1) 8) <|some (s7.1++[s7.2]) else some s7.1) λs13=>gd (CS .i64<|s7.2+(1:Int)) <|some (.inl (s13,(s7.2+(1:Int)))) else some (.inr s7.1)
def cQ (s:aa):LS ((LI)×Int) (LI):=λs37=>bif decide (s37.2<(s.waits.length:Int)) then FG (gd (decide<|0<=s37.2/\s37.2<(s.waits.length:Int)) <|bif decide ((0:Int)<((s.waits.getD s37.2.toNat default).length:Int)) then gd (CS .i64<|(s.values.p.length:Int)+s37.2) <|gd (fH (s37.1.length+1) 8) <|some (s37.1++[((s.values.p.length:Int)+s37.2)]) else some s37.1) λs43=>gd (CS .i64<|s37.2+(1:Int)) <|some (.inl (s43,(s37.2+(1:Int)))) else some (.inr s37.1)
def bh (s:aa):Option (LI):= FG (dH (dz s) (([]:LI),(0:Int))) λs1=>FG (dH (cQ s) (s1,(0:Int))) λs31=>some s31
def cG (s:LL):Option (LL):= nilK (s.isEmpty) (some ([]:LL)) (gd (fH (([]:LL).length+s.length) 24) <|some<|([]:LL)++s)
def cT (s:LI):Option (LI):= nilK (s.isEmpty) (some ([]:LI)) (gd (fH (([]:LI).length+s.length) 1) <|some<|([]:LI)++s)
def bi (s:aa) (move:Int):Option aa:= FG (cG s.waits) λv1=>bif decide ((s.values.p.length:Int)<=move) then gd (CS .i64<|move-(s.values.p.length:Int)) <|gd (decide<|0<=(move-(s.values.p.length:Int))/\(move-(s.values.p.length:Int))<(s.waits.length:Int)) <|gd (decide<|0<=(0:Int)/\(0:Int)<((s.waits.getD (move-(s.values.p.length:Int)).toNat default).length:Int)) <|gd (decide<|0<=(1:Int)/\(1:Int)<=((s.waits.getD (move-(s.values.p.length:Int)).toNat default).length:Int)/\((s.waits.getD (move-(s.values.p.length:Int)).toNat default).length:Int)<=((s.waits.getD (move-(s.values.p.length:Int)).toNat default).length:Int)) <|gd (decide<|0<=(move-(s.values.p.length:Int))/\(move-(s.values.p.length:Int))<(v1.length:Int)) <|gd (decide<|(16:Int)≠0) <|gd (CS .u8<|((s.waits.getD (move-(s.values.p.length:Int)).toNat default).getD (0:Int).toNat default).tdiv (16:Int)) <|gd (decide<|0<=(((s.waits.getD (move-(s.values.p.length:Int)).toNat default).getD (0:Int).toNat default).tdiv (16:Int))/\(((s.waits.getD (move-(s.values.p.length:Int)).toNat default).getD (0:Int).toNat default).tdiv (16:Int))<3) <|some (⟨(⟨s.values.p,(⟨s.values.pc.x0,s.values.pc.x1,s.values.pc.x2⟩:Z3b),(⟨(⟨s.values.reg.x0.x0,s.values.reg.x0.x1,s.values.reg.x0.x2⟩:Z3b),(⟨s.values.reg.x1.x0,s.values.reg.x1.x1,s.values.reg.x1.x2⟩:Z3b),(⟨s.values.reg.x2.x0,s.values.reg.x2.x1,s.values.reg.x2.x2⟩:Z3b)⟩:Z33),(⟨(Z3b.set s.values.mem (((s.waits.getD (move-(s.values.p.length:Int)).toNat default).getD (0:Int).toNat default).tdiv (16:Int))<|((s.waits.getD (move-(s.values.p.length:Int)).toNat default).getD (0:Int).toNat default).tmod (16:Int)).x0,(Z3b.set s.values.mem (((s.waits.getD (move-(s.values.p.length:Int)).toNat default).getD (0:Int).toNat default).tdiv (16:Int))<|((s.waits.getD (move-(s.values.p.length:Int)).toNat default).getD (0:Int).toNat default).tmod (16:Int)).x1,(Z3b.set s.values.mem (((s.waits.getD (move-(s.values.p.length:Int)).toNat default).getD (0:Int).toNat default).tdiv (16:Int))<|((s.waits.getD (move-(s.values.p.length:Int)).toNat default).getD (0:Int).toNat default).tmod (16:Int)).x2⟩:Z3b)⟩:CW),s.split,(v1.set ((move-(s.values.p.length:Int)).toNat)<|((s.waits.getD (move-(s.values.p.length:Int)).toNat default).drop (1:Int).toNat).take<|((s.waits.getD (move-(s.values.p.length:Int)).toNat default).length:Int).toNat-(1:Int).toNat)⟩:aa) else FG (aT s.values move) λv14=>gd (decide<|0<=move/\move<3) <|gd (CS .u8<|(Z3b.get s.values.pc move)+(1:Int)) <|FG (FG (cm (⟨v14.1.Op,v14.1.Loc,v14.1.Reg,v14.1.Val⟩:CV)) λv18=>bif v18 then FG (bQ s move v14.1.Loc) λv20=>gd (decide<|0<=v14.1.Reg/\v14.1.Reg<3) <|some (((Z33.set s.values.reg move<|Z3b.set (Z33.get s.values.reg move) v14.1.Reg v20).x0).x0,((Z33.set s.values.reg move<|Z3b.set (Z33.get s.values.reg move) v14.1.Reg v20).x0).x1,((Z33.set s.values.reg move<|Z3b.set (Z33.get s.values.reg move) v14.1.Reg v20).x0).x2,((Z33.set s.values.reg move<|Z3b.set (Z33.get s.values.reg move) v14.1.Reg v20).x1).x0,((Z33.set s.values.reg move<|Z3b.set (Z33.get s.values.reg move) v14.1.Reg v20).x1).x1,((Z33.set s.values.reg move<|Z3b.set (Z33.get s.values.reg move) v14.1.Reg v20).x1).x2,((Z33.set s.values.reg move<|Z3b.set (Z33.get s.values.reg move) v14.1.Reg v20).x2).x0,((Z33.set s.values.reg move<|Z3b.set (Z33.get s.values.reg move) v14.1.Reg v20).x2).x1,((Z33.set s.values.reg move<|Z3b.set (Z33.get s.values.reg move) v14.1.Reg v20).x2).x2,v1) else some (s.values.reg.x0.x0,s.values.reg.x0.x1,s.values.reg.x0.x2,s.values.reg.x1.x0,s.values.reg.x1.x1,s.values.reg.x1.x2,s.values.reg.x2.x0,s.values.reg.x2.x1,s.values.reg.x2.x2,v1)) λs17=>FG (FG (bif (v14.1.Op==(2:Int)) then some (v14.1.Op==(2:Int)) else some (v14.1.Op==(3:Int))) λs26=>bif s26 then FG (bB s move v14.1.Loc) λv29=>gd (decide<|0<=v29/\v29<(s.waits.length:Int)) <|gd (CS .u8 v14.1.Loc) <|gd (CS .u8<|v14.1.Loc*(16:Int)) <|FG (cT<|s.waits.getD v29.toNat default) λv33=>FG (bG s.values move (⟨v14.1.Op,v14.1.Loc,v14.1.Reg,v14.1.Val⟩:CV)) λv37=>gd (CS .u8<|(v14.1.Loc*(16:Int))+v37) <|gd (fH (v33.length+1) 1) <|gd (decide<|0<=v29/\v29<(s17.2.2.2.2.2.2.2.2.2.length:Int)) <|some (s.values.mem.x0,s.values.mem.x1,s.values.mem.x2,(s17.2.2.2.2.2.2.2.2.2.set v29.toNat<|v33++[((v14.1.Loc*(16:Int))+v37)])) else bif (v14.1.Op==(5:Int)) then gd (CS .u8 v14.1.Val) <|gd (decide<|0<=v14.1.Loc/\v14.1.Loc<3) <|some ((Z3b.set s.values.mem v14.1.Loc v14.1.Val).x0,(Z3b.set s.values.mem v14.1.Loc v14.1.Val).x1,(Z3b.set s.values.mem v14.1.Loc v14.1.Val).x2,s17.2.2.2.2.2.2.2.2.2) else some (s.values.mem.x0,s.values.mem.x1,s.values.mem.x2,s17.2.2.2.2.2.2.2.2.2)) λs25=>some (⟨(⟨s.values.p,(⟨(Z3b.set s.values.pc move<|(Z3b.get s.values.pc move)+(1:Int)).x0,(Z3b.set s.values.pc move<|(Z3b.get s.values.pc move)+(1:Int)).x1,(Z3b.set s.values.pc move<|(Z3b.get s.values.pc move)+(1:Int)).x2⟩:Z3b),(⟨(⟨s17.1,s17.2.1,s17.2.2.1⟩:Z3b),(⟨s17.2.2.2.1,s17.2.2.2.2.1,s17.2.2.2.2.2.1⟩:Z3b),(⟨s17.2.2.2.2.2.2.1,s17.2.2.2.2.2.2.2.1,s17.2.2.2.2.2.2.2.2.1⟩:Z3b)⟩:Z33),(⟨s25.1,s25.2.1,s25.2.2.1⟩:Z3b)⟩:CW),s.split,s25.2.2.2⟩:aa)
def dh (s9:(List<|ByteArray×Bool)×(LL)×(List aa)) (s19:(LL)) (v27:(LI)):LS ((List<|ByteArray×Bool)×(List aa)×Int) (((List<|ByteArray×Bool)×(LL)×(List aa)) ⊕ ((List<|ByteArray×Bool)×(LL))):=λs31=>bif decide (s31.2.2<(v27.length:Int)) then FG (gd (decide<|0<=s31.2.2/\s31.2.2<(v27.length:Int)) <|FG (bi (s9.2.2.getD (((s9.2.2.length:Int)-(1:Int)).toNat) default)<|v27.getD s31.2.2.toNat default) λv37=>FG (aZ v37) λv38=>bif !((rH s31.1 v38).getD false) then gd (fH (s31.2.1.length+1) 16) <|some ((oH s31.1 v38 true),(s31.2.1++[v37])) else some (s31.1,s31.2.1)) λs35=>gd (CS .i64<|s31.2.2+(1:Int)) <|some (.inl (s35.1,s35.2,(s31.2.2+(1:Int)))) else some (.inr<|.inl (s31.1,s19,s31.2.1))
def di:LS ((List<|ByteArray×Bool)×(LL)×(List aa)) ((List<|ByteArray×Bool)×(LL)):=λs9=>bif decide ((0:Int)<(s9.2.2.length:Int)) then gd (CS .i64<|(s9.2.2.length:Int)-(1:Int)) <|gd (decide<|0<=((s9.2.2.length:Int)-(1:Int))/\((s9.2.2.length:Int)-(1:Int))<(s9.2.2.length:Int)) <|gd (decide<|0<=(0:Int)/\(0:Int)<=((s9.2.2.length:Int)-(1:Int))/\((s9.2.2.length:Int)-(1:Int))<=(s9.2.2.length:Int)) <|FG (FG (bu<|s9.2.2.getD (((s9.2.2.length:Int)-(1:Int)).toNat) default) λv20=>bif v20 then FG (aG<|(s9.2.2.getD (((s9.2.2.length:Int)-(1:Int)).toNat) default).values) λv22=>gd (fH (s9.2.1.length+1) 24) <|some (s9.2.1++[v22]) else some s9.2.1) λs19=>FG (bh<|s9.2.2.getD (((s9.2.2.length:Int)-(1:Int)).toNat) default) λv27=>dH (dh s9 s19 v27) (s9.1,((s9.2.2.drop (0:Int).toNat).take<|((s9.2.2.length:Int)-(1:Int)).toNat-(0:Int).toNat),(0:Int)) else some (.inr (s9.1,s9.2.1))
def bW (start:aa):Option ((LL)×Int):= FG (aZ start) λv1=>FG (dH di ((oH ([]:List<|ByteArray×Bool) v1 true),([]:LL),([start]:List aa))) λs2=>FG (aH s2.2) λv46=>some (v46,(s2.1.length:Int))
def cV (p:List<|List CV) (split:Bool):Option ((LL)×Int):= FG (ak p) λv1=>bif !v1 then some (([]:LL),(0:Int)) else FG (dU p split) λv3=>FG (bW v3) λv4=>some (v4.1,v4.2)
def iH (p:List<|List CV):Option (LL):= FG (cV p false) λv1=>some v1.1
def iI (p:List<|List CV):Option (LL):= FG (cV p true) λv1=>some v1.1
def ax (p:List<|List CV) (name:ByteArray):Option (LL):= bif decide (name=(⟨#[115,101,113]⟩:ByteArray)) then FG (dS p) λv2=>some v2 else bif decide (name=(⟨#[116,115,111]⟩:ByteArray)) then FG (iH p) λv4=>some v4 else bif decide (name=(⟨#[112,115,111]⟩:ByteArray)) then FG (iI p) λv6=>some v6 else bif decide (name=(⟨#[114,97]⟩:ByteArray)) then none else some ([]:LL)
def CY {α:Type} (x:Option α) (P:α->Prop):Prop:=∃ v,x=some v/\P v
section
variable {α β S E:Type} {P:α->Prop} {Q:β->Prop} {x y:Option α}
theorem CY.pure {v:α} (h:P v):CY (some v) P:=⟨v,rfl,h⟩
theorem CY.mono {P':α->Prop} (h:CY x P) (k:∀ v,P v->P' v):CY x P':=by
 obtain ⟨v,e,p⟩:=h;exact ⟨v,e,k v p⟩
theorem CY.bind {o:Option α} {f:α->Option β} (h:CY o P) (k:∀ v,P v->CY (f v) Q):CY (o.bind f) Q:=by
 obtain ⟨v,rfl,p⟩:=h;exact k v p
theorem CY.gd {b:Bool} (hb:b=true) (h:CY x P):CY (gd b x) P:=by rw [kF hb];exact h
theorem CY.gdD {A:Prop} [Decidable A] (hb:A) (h:CY x P):CY (Go.Proofs.YtjcmfddobaplbaaGreat.gd (decide A) x) P:=CY.gd (decide_eq_true hb) h
theorem CY.gdI {n:Int} (hb : -9223372036854775808<=n/\n<=9223372036854775807) (h:CY x P):CY (Go.Proofs.YtjcmfddobaplbaaGreat.gd (CS .i64 n) x) P:=CY.gd (zb hb) h
theorem CY.gdY {n:Int} (hb:0<=n/\n<=255) (h:CY x P):CY (Go.Proofs.YtjcmfddobaplbaaGreat.gd (CS .u8 n) x) P:=CY.gd (AK hb) h
theorem CY.bif {b:Bool} (h1:b=true->CY x P) (h2:b=false->CY y P):CY (bif b then x else y) P:=by
 cases b with
 | true=>exact h1 rfl
 | false=>exact h2 rfl
theorem CY.bifD {A:Prop} [Decidable A] (h1:A->CY x P) (h2 : ¬ A->CY y P):CY (_root_.cond (decide A) x y) P:=
 CY.bif (λh=>h1<|of_decide_eq_true h) (λh=>h2<|of_decide_eq_false h)
theorem CY.sum {W:Type} {PS:S->Prop} {PW:W->Prop} {a:Option (S ⊕ W)} {f:S->Option W} (h:CY a λz=>match z with
  | .inl s=>PS s
  | .inr w=>PW w) (k:∀ s,PS s->CY (f s) PW):CY (sumK a f) PW:=by
 obtain ⟨v,rfl,p⟩:=h
 match v,p with
 | .inl s,p=>exact k s p
 | .inr w,p=>exact ⟨w,rfl,p⟩
theorem CY.loop {step:S->Option (S ⊕ E)} {R:E->Prop} (J:S->Prop) (mu:S->Nat) {s0:S} (h0:J s0) (h:∀ s,J s->CY (step s) λz=>match z with
  | .inl s'=>J s'/\mu s'<mu s
  | .inr x=>R x):CY (dH step s0) R:=by
 have key:∀ (n:Nat) (s:S),mu s=n->J s->CY (dH step s) R:=by
  intro n
  induction n using Nat.strongRecOn with
  | _ n ih=>
   intro s hs hj;obtain ⟨z,e,hz⟩:=h s hj;rw [mU,e]
   match z,hz with
   | .inl s',hz=>exact ih (mu s') (by omega) s' rfl hz.1
   | .inr x,hz=>exact ⟨x,rfl,hz⟩
 exact key _ s0 rfl h0
theorem CY.eq {v:α} (h:CY x (· = v)):x=some v:=by
 obtain ⟨u,e,rfl⟩:=h;exact e
theorem CY.of {v:α} (h:x=some v) (p:P v):CY x P:=⟨v,h,p⟩
end
section
variable {α β:Type} {x x' y y':Option α}
end
def rdX (x:CV):Bool:=x.Op==1||x.Op==5
def wrX (x:CV):Bool:=x.Op==2||x.Op==3||x.Op==5
theorem zk (x:CV):CY (cm x) (· = rdX x):=by
 unfold cm rdX;exact CY.bind (P:=(· = (x.Op==1||x.Op==5))) (.bif (λh => .pure<|by rw [h];rfl) λh => .pure<|by rw [h];rfl) λv hv => .pure hv
theorem zL (x:CV):CY (dx x) (· = wrX x):=by
 unfold dx wrX;exact CY.bind (P:=(· = (x.Op==2||x.Op==3))) (.bif (λh => .pure<|by rw [h];rfl) λh => .pure<|by rw [h];rfl) λv hv=>CY.bind (P:=(· = (x.Op==2||x.Op==3||x.Op==5))) (.bif (λh => .pure<|by rw [<- hv,h];rfl) λh => .pure<|by rw [<- hv,h];rfl) λv hv => .pure hv
def Vs (p:List<|List CV):Prop:=p.length<=3/\∀ n,(p.getD n default).length<=7
theorem Vs.of {p:List (List CV)} (h:fB (p.map λr=>r.map kH)=true):Vs p/\∀ t k:Nat,t<p.length->k<(p.getD t default).length->iG (kH<|(p.getD t default).getD k default)=true:=by
 simp only [fB,mF,bae,dte,List.all_eq_true,rowOk] at h;have hl:p.length<=3:=by simpa using h.1.1.1.1
 have hr:=h.1.1.1.2;refine ⟨⟨hl,λn=>?_⟩,λt k ht hk=>?_⟩
 ·by_cases hn:n<p.length
  ·have e:p.getD n default=p[n]:=by simp [hn]
   rw [e];have := (hr (p[n].map kH)<|FL.2 ⟨p[n],FV hn,rfl⟩).1;simpa using this
  rw [gdq,gen (by omega)];exact Nat.zero_le _
 have e:p.getD t default=p[t]:=by simp [ht]
 rw [e] at hk ⊢;have h1:=(hr (p[t].map kH)<|FL.2 ⟨p[t],FV ht,rfl⟩).2;have e2:p[t].getD k default=p[t][k]:=by simp [hk]
 rw [e2];exact h1 _<|FL.2 ⟨_,FV hk,rfl⟩
def InR (x:CV):Prop:=0<=x.Loc/\x.Loc<=2/\0<=x.Reg/\x.Reg<=2/\0<=x.Val/\x.Val<=3
theorem wP {x:CV} (h:iG (kH x)=true):InR x:=by
 obtain ⟨o,l,r,v⟩:=x;unfold InR;simp only;unfold iG kH at h;simp only [inB] at h
 split at h
 ·simp only [bae,dte,beq_iff_eq] at h;omega
 split at h
 ·simp only [bae,dte,beq_iff_eq] at h;omega
 split at h
 ·simp only [bae,dte,beq_iff_eq] at h;omega
 split at h
 ·simp only [bae,dte] at h;omega
 cases h
structure PV (p:List (List CV)):Prop where
 vs:Vs p
 pos:0<p.length
 ins:∀ t k:Nat,t<p.length->k<(p.getD t default).length->InR ((p.getD t default).getD k default)
theorem PV.of {p:List (List CV)} (h:fB (p.map λr=>r.map kH)=true):PV p:=by
 have h1:=Vs.of h;refine ⟨h1.1,?_,λt k ht hk=>wP<|h1.2 t k ht hk⟩;simp only [fB,bae,dte,llm] at h;exact h.1.2
theorem fP {n m:Nat} (hn:n<=4000000) (hm:Nat.ble m 1000=true):fH n m=true:=by
 have h1:=nlb hm;have h2:n*m<=4000000*1000:=Nat.mul_le_mul hn h1;exact decide_eq_true ⟨by omega,by omega⟩
theorem iJ (a:Z3b) (q i v:Int) (hq:0<=q/\q<=2) (hi:0<=i/\i<=2):Z3b.get (Z3b.set a q v) i=if i=q then v else Z3b.get a i:=by
 obtain ⟨x,y,z⟩:=a;have h1:q=0\/q=1\/q=2:=by omega
 have h2:i=0\/i=1\/i=2:=by omega
 rcases h1 with rfl | rfl | rfl <;> rcases h2 with rfl | rfl | rfl <;> rfl
theorem nS (a:Z33) (q i:Int) (v:Z3b) (hq:0<=q/\q<=2) (hi:0<=i/\i<=2):Z33.get (Z33.set a q v) i=if i=q then v else Z33.get a i:=by
 obtain ⟨x,y,z⟩:=a;have h1:q=0\/q=1\/q=2:=by omega
 have h2:i=0\/i=1\/i=2:=by omega
 rcases h1 with rfl | rfl | rfl <;> rcases h2 with rfl | rfl | rfl <;> rfl
def rI (u:CW) (t:Int) (x:CV):Int:=if x.Op=3 then Z3b.get (Z33.get u.reg t) x.Reg else x.Val
def wQ (u:CW) (t:Int) (x:CV):CW:=
 ⟨u.p,Z3b.set u.pc t<|Z3b.get u.pc t+1,if rdX x=true then Z33.set u.reg t (Z3b.set (Z33.get u.reg t) x.Reg<|Z3b.get u.mem x.Loc) else u.reg,if wrX x=true then Z3b.set u.mem x.Loc (rI u t x) else u.mem⟩
structure Mac (σ:Type) where
 mv:σ->LI
 af:σ->Int->σ
 ky:σ->ByteArray
 dn:σ->Bool
 oc:σ->LI
section
variable {σ:Type} (M:Mac σ)
inductive Rea (s0:σ):σ->Prop
 | base:Rea s0 s0
 | step {s:σ} {m:Int} (h:Rea s0 s) (hm:m∈M.mv s):Rea s0 (M.af s m)
def Ar (s0:σ) (o:LI):Prop:=∃ s,Rea M s0 s/\M.dn s=true/\M.oc s=o
structure Mok (s0:σ) (N:Nat):Prop where
 key:∀ s t,Rea M s0 s->Rea M s0 t->M.ky s=M.ky t->s=t
 cnt:∀ V:List σ,V.Nodup->(∀ v∈V,Rea M s0 v)->V.length<=N
variable {M} {s0:σ} {N:Nat}
def kys (M:Mac σ) (V:List σ):List (ByteArray×Bool):=V.map λv=>(M.ky v,true)
theorem tN (V:List σ) (k:ByteArray):(∃ j,l5 (kys M V) k=some j)↔∃ v∈V,M.ky v=k:=by
 unfold l5 kys;rw [Gb]
 cases h:List.findIdx? (λx=>decide<|x=k) (V.map<|(λx:ByteArray×Bool=>x.1) ∘ λv=>(M.ky v,true)) with
 | none=>
  rw [List.findIdx?_eq_none_iff] at h;refine ⟨λ⟨j,hj⟩=>(by cases hj),λ⟨v,hv,e⟩ => ?_⟩;have := h (M.ky v)<|FL.2 ⟨v,hv,rfl⟩;rw [e] at this;simp at this
 | some j=>
  refine ⟨λ_=>?_,λ_=>⟨j,rfl⟩⟩;obtain ⟨h1,h2,_⟩:=List.findIdx?_eq_some_iff_getElem.1 h;have hj:j<V.length:=by simpa using h1
  refine ⟨V[j],FV hj,?_⟩;simpa using h2
theorem tO (V:List σ) (k:ByteArray):((rH (kys M V) k).getD false)=true↔∃ v∈V,M.ky v=k:=by
 rw [<- tN];unfold rH
 cases h:l5 (kys M V) k with
 | none=>simp
 | some j=>
  obtain ⟨hj,v,hv⟩:=nH h;rw [Option.bind_some,hv];have : (k,v)∈kys M V:=FZ hv;unfold kys at this;obtain ⟨u,_,e⟩:=FL.1 this;injection e with _ e;subst e;simp
theorem zM {V:List σ} {s:σ} (h : ¬ ∃ v∈V,M.ky v=M.ky s):oH (kys M V) (M.ky s) true=kys M (V++[s]):=by
 unfold oH
 cases hm:l5 (kys M V) (M.ky s) with
 | some j=>exact absurd ((tN V _).1 ⟨j,hm⟩) h
 | none=>simp [kys]
def Done (M:Mac σ) (V:List σ) (outs:LL) (v:σ):Prop:=(∀ m∈M.mv v,M.af v m∈V)/\(M.dn v=true->M.oc v∈outs)
structure Srch (M:Mac σ) (s0:σ) (V stack:List σ) (outs:List (List Int)) (cur:Option (σ×Nat)):Prop where
 rea:∀ v∈V,Rea M s0 v
 base:s0∈V
 nd:V.Nodup
 sub:∀ v∈stack,v∈V
 all:∀ v∈V,v∈stack\/(∃ n,cur=some (v,n))\/Done M V outs v
 out:∀ o∈outs,∃ v∈V,M.dn v=true/\M.oc v=o
 len:outs.length+stack.length<=V.length
 cur_:∀ s n,cur=some (s,n)->s∈V/\(M.dn s=true->M.oc s∈outs)/\∀ j,j<n->∀ m,(M.mv s)[j]? = some m->M.af s m∈V
theorem Srch.start:Srch M s0 [s0] [s0] [] none where
 rea:=λv hv=>by rw [FH.1 hv];exact .base
 base:=FH.2 rfl
 nd:=by simp
 sub:=λv hv=>hv
 all:=λv hv => .inl hv
 out:=nofun
 len:=by simp
 cur_:=nofun
theorem Srch.pop {V stack:List σ} {s:σ} {outs:LL} (h:Srch M s0 V (stack++[s]) outs none) {outs':LL} (ho:outs'=if M.dn s then outs++[M.oc s] else outs):Srch M s0 V stack outs' (some (s,0)) where
 rea:=h.rea
 base:=h.base
 nd:=h.nd
 sub:=λv hv=>h.sub v<|FO _ hv
 all:=λv hv=>by
  rcases h.all v hv with h1 | ⟨n,h1⟩ | ⟨h1,h2⟩
  ·rcases FP.1 h1 with h1 | h1
   ·exact .inl h1
   rw [FH.1 h1];exact .inr<|.inl ⟨0,rfl⟩
  ·cases h1
  refine .inr<|.inr ⟨h1,λhd=>?_⟩;rw [ho]
  split
  ·exact FO _<|h2 hd
  exact h2 hd
 out:=λo hm=>by
  rw [ho] at hm
  split at hm
  ·rename_i hd;rcases FP.1 hm with hm | hm
   ·exact h.out o hm
   rw [FH.1 hm];exact ⟨s,h.sub s<|FW _<|FH.2 rfl,hd,rfl⟩
  exact h.out o hm
 len:=by
  have := h.len;rw [lla,FM] at this;rw [ho]
  split
  ·rw [lla,FM];omega
  omega
 cur_:=λt n e=>by
  injection e with e;injection e with e1 e2;subst e1 e2;refine ⟨h.sub s<|FW _<|FH.2 rfl,λhd=>?_,λj hj=>absurd hj<|by omega⟩;rw [ho,if_pos hd];exact FW _<|FH.2 rfl
theorem Srch.old {V stack:List σ} {s:σ} {outs:LL} {n:Nat} {m:Int} (h:Srch M s0 V stack outs<|some (s,n)) (hm:(M.mv s)[n]? = some m) (hv:M.af s m∈V):Srch M s0 V stack outs (some (s,n+1)) where
 rea:=h.rea
 base:=h.base
 nd:=h.nd
 sub:=h.sub
 all:=λv hv=>by
  rcases h.all v hv with h1 | ⟨k,h1⟩ | h1
  ·exact .inl h1
  ·injection h1 with h1;injection h1 with h1 _;subst h1;exact .inr<|.inl ⟨n+1,rfl⟩
  exact .inr<|.inr h1
 out:=h.out
 len:=h.len
 cur_:=λt k e=>by
  injection e with e;injection e with e1 e2;subst e1 e2;obtain ⟨g1,g2,g3⟩:=h.cur_ s n rfl;refine ⟨g1,g2,λj hj m' hm' => ?_⟩;rcases Gj j n with h' | h'
  ·exact g3 j h' m' hm'
  obtain rfl:j=n:=by omega
  rw [hm] at hm';obtain rfl:=osl hm';exact hv
theorem Srch.new {V stack:List σ} {s:σ} {outs:LL} {n:Nat} {m:Int} (h:Srch M s0 V stack outs<|some (s,n)) (hm:(M.mv s)[n]? = some m) (hv:M.af s m∉V):Srch M s0 (V++[M.af s m]) (stack++[M.af s m]) outs (some (s,n+1)) where
 rea:=λv hv=>by
  rcases FP.1 hv with hv | hv
  ·exact h.rea v hv
  rw [FH.1 hv];exact .step (h.rea s (h.cur_ s n rfl).1)<|FZ hm
 base:=FO _ h.base
 nd:=by
  rw [List.nodup_append];exact ⟨h.nd,by simp,λa ha b hb e=>hv<|by rw [<- FH.1 hb,<- e];exact ha⟩
 sub:=λv hv=>by
  rcases FP.1 hv with hv | hv
  ·exact FO _<|h.sub v hv
  exact FW _ hv
 all:=λv hv=>by
  rcases FP.1 hv with hv | hv
  ·rcases h.all v hv with h1 | ⟨k,h1⟩ | ⟨h1,h2⟩
   ·exact .inl<|FO _ h1
   ·injection h1 with h1;injection h1 with h1 _;subst h1;exact .inr<|.inl ⟨n+1,rfl⟩
   exact .inr<|.inr ⟨λm hm=>FO _<|h1 m hm,h2⟩
  exact .inl<|FW _ hv
 out:=λo ho=>by
  obtain ⟨v,g1,g2⟩:=h.out o ho;exact ⟨v,FO _ g1,g2⟩
 len:=by
  have := h.len;simp only [lla,FM];omega
 cur_:=λt k e=>by
  injection e with e;injection e with e1 e2;subst e1 e2;obtain ⟨g1,g2,g3⟩:=h.cur_ s n rfl;refine ⟨FO _ g1,g2,λj hj m' hm' => ?_⟩;rcases Gj j n with h' | h'
  ·exact FO _<|g3 j h' m' hm'
  obtain rfl:j=n:=by omega
  rw [hm] at hm';obtain rfl:=osl hm';exact FW _<|FH.2 rfl
theorem Srch.fin {V stack:List σ} {s:σ} {outs:LL} {n:Nat} (h:Srch M s0 V stack outs<|some (s,n)) (hn:(M.mv s).length<=n):Srch M s0 V stack outs none where
 rea:=h.rea
 base:=h.base
 nd:=h.nd
 sub:=h.sub
 all:=λv hv=>by
  rcases h.all v hv with h1 | ⟨k,h1⟩ | h1
  ·exact .inl h1
  ·injection h1 with h1;injection h1 with h1 _;subst h1;obtain ⟨_,g2,g3⟩:=h.cur_ s n rfl;refine .inr<|.inr ⟨λm hm=>?_,g2⟩;obtain ⟨j,hj⟩:=Gt hm;exact g3 j (by have := (ges hj).1;omega) m hj
  exact .inr<|.inr h1
 out:=h.out
 len:=h.len
 cur_:=nofun
theorem Srch.ends {V:List σ} {outs:LL} (h:Srch M s0 V [] outs none):(∀ o,o∈outs↔Ar M s0 o)/\∀ v,v∈V↔Rea M s0 v:=by
 have all:∀ v,Rea M s0 v->v∈V:=λv hv=>by
  induction hv with
  | base=>exact h.base
  | step _ hm ih=>
   rcases h.all _ ih with h1 | ⟨_,h1⟩ | h1
   ·cases h1
   ·cases h1
   exact h1.1 _ hm
 refine ⟨λo=>⟨λho=>?_,λ⟨s,h1,h2,h3⟩ => ?_⟩,λv=>⟨h.rea v,all v⟩⟩
 ·obtain ⟨v,g1,g2,g3⟩:=h.out o ho;exact ⟨v,h.rea v g1,g2,g3⟩
 rcases h.all s (all s h1) with h4 | ⟨_,h4⟩ | h4
 ·cases h4
 ·cases h4
 rw [<- h3];exact h4.2 h2
end
section
variable {σ:Type} [Inhabited σ] (mv:σ->Option (LI)) (af:σ->Int->Option σ) (ky:σ->Option ByteArray) (dn:σ->Option Bool) (oc:σ->Option (LI)) (srt:LL->Option (LL))
def BW (s9:(List<|ByteArray×Bool)×(LL)×(List σ)) (s19:(LL)) (v27:(LI)):((List<|ByteArray×Bool)×(List σ)×Int)->Option (((List<|ByteArray×Bool)×(List σ)×Int) ⊕ (((List<|ByteArray×Bool)×(LL)×(List σ)) ⊕ ((List<|ByteArray×Bool)×(LL)))):=λs31=>
 bif decide (s31.2.2<(v27.length:Int)) then
  FG (
   gd (decide<|0<=s31.2.2/\s31.2.2<(v27.length:Int)) <|
   FG (af (s9.2.2.getD (((s9.2.2.length:Int)-(1:Int)).toNat) default)<|v27.getD s31.2.2.toNat default) λv37=>
   FG (ky v37) λv38=>
   bif !((rH s31.1 v38).getD false) then
    gd (fH (s31.2.1.length+1) 16) <|
    some ((oH s31.1 v38 true),(s31.2.1++[v37]))
   else
    some (s31.1,s31.2.1)
  ) λs35=>
  gd (CS .i64<|s31.2.2+(1:Int)) <|
  some (.inl (s35.1,s35.2,(s31.2.2+(1:Int))))
 else
  some (.inr<|.inl (s31.1,s19,s31.2.1))
def Co:((List<|ByteArray×Bool)×(LL)×(List σ))->Option (((List<|ByteArray×Bool)×(LL)×(List σ)) ⊕ ((List<|ByteArray×Bool)×(LL))):=λs9=>
 bif decide ((0:Int)<(s9.2.2.length:Int)) then
  gd (CS .i64<|(s9.2.2.length:Int)-(1:Int)) <|
  gd (decide<|0<=((s9.2.2.length:Int)-(1:Int))/\((s9.2.2.length:Int)-(1:Int))<(s9.2.2.length:Int)) <|
  gd (decide<|0<=(0:Int)/\(0:Int)<=((s9.2.2.length:Int)-(1:Int))/\((s9.2.2.length:Int)-(1:Int))<=(s9.2.2.length:Int)) <|
  FG (
   FG (dn<|s9.2.2.getD (((s9.2.2.length:Int)-(1:Int)).toNat) default) λv20=>
   bif v20 then
    FG (oc<|s9.2.2.getD (((s9.2.2.length:Int)-(1:Int)).toNat) default) λv22=>
    gd (fH (s9.2.1.length+1) 24) <|
    some (s9.2.1++[v22])
   else
    some s9.2.1
  ) λs19=>
  FG (mv<|s9.2.2.getD (((s9.2.2.length:Int)-(1:Int)).toNat) default) λv27=>
  dH (BW af ky s9 s19 v27) (s9.1,((s9.2.2.drop (0:Int).toNat).take<|((s9.2.2.length:Int)-(1:Int)).toNat-(0:Int).toNat),(0:Int))
 else
  some (.inr (s9.1,s9.2.1))
def BI (start:σ):Option ((LL)×Int):=
 FG (ky start) λv1=>
 FG (
  dH (Co mv af ky dn oc) ((oH ([]:List<|ByteArray×Bool) v1 true),([]:LL),([start]:List σ))
 ) λs2=>
 FG (srt s2.2) λv46=>
 some (v46,(s2.1.length:Int))
variable {mv af ky dn oc srt} {M:Mac σ} {s0:σ} {N:Nat}
structure Mrt (mv:σ->Option (List Int)) (af:σ->Int->Option σ) (ky:σ->Option ByteArray) (dn:σ->Option Bool) (oc:σ->Option (List Int)) (M:Mac σ) (s0:σ):Prop where
 mv:∀ s,Rea M s0 s->CY (mv s) (· = M.mv s)
 af:∀ s m,Rea M s0 s->m∈M.mv s->CY (af s m) (· = M.af s m)
 ky:∀ s,Rea M s0 s->CY (ky s) (· = M.ky s)
 dn:∀ s,Rea M s0 s->CY (dn s) (· = M.dn s)
 oc:∀ s,Rea M s0 s->M.dn s=true->CY (oc s) (· = M.oc s)
 len:∀ s,Rea M s0 s->(M.mv s).length<=1048576
theorem Cq {n m:Nat} (hn:n<=1099511627776) (hm:Nat.ble m 32=true):fH n m=true:=by
 have h1:=nlb hm;have h2:n*m<=1099511627776*32:=Nat.mul_le_mul hn h1;exact decide_eq_true ⟨by omega,by omega⟩
theorem yj (K:Mok M s0 N) (R:Mrt mv af ky dn oc M s0) (hN:N<1099511627776) {V stk:List σ} {s:σ} {outs outs':LL} (h:Srch M s0 V stk outs'<|some (s,0)) :
  CY (dH (BW af ky (kys M V,outs,stk++[s]) outs'<|M.mv s) (kys M V,stk,(0:Int))) λz=>∃ V' stk',z = .inl (kys M V',outs',stk')/\Srch M s0 V' stk' outs' none/\V.length<=V'.length/\2*V.length+stk'.length<=2*V'.length+stk.length:=by
 have hsV:=(h.cur_ s 0 rfl).1;have hs:=h.rea s hsV;have hcur:(stk++[s]).getD ((((stk++[s]).length:Int)-1).toNat) default=s:=by
  rw [lla,FM,show (((stk.length+1:Nat):Int)-1).toNat=stk.length by omega,gdq,gar (FR _)];simp
 have hlen:=R.len s hs;refine CY.loop (λz=>∃ V',z.1=kys M V'/\(0<=z.2.2/\z.2.2<=((M.mv s).length:Int))/\Srch M s0 V' z.2.1 outs' (some (s,z.2.2.toNat))/\V.length<=V'.length/\2*V.length+z.2.1.length<=2*V'.length+stk.length) (λz=>(((M.mv s).length:Int)-z.2.2).toNat) ⟨V,rfl,⟨FI _,by simp⟩,h,FR _,FR _⟩ λz ⟨V',h1,h2,h3,h4,h5⟩ => ?_;unfold BW;simp only [hcur];refine .bifD (λhlt=>?_) λhge => .pure ⟨V',z.2.1,by rw [h1],h3.fin (by omega),h4,h5⟩;have hj:z.2.2.toNat<(M.mv s).length:=by omega
 have hm:(M.mv s)[z.2.2.toNat]? = some ((M.mv s).getD z.2.2.toNat default):=by simp [geq hj]
 have hmm:=FZ hm;have hi1:(z.2.2+1).toNat=z.2.2.toNat+1:=by omega
 have hV':=K.cnt V' h3.nd h3.rea;have hl:=h3.len;refine CY.bind (P:=λw=>∃ V2,w.1=kys M V2/\Srch M s0 V2 w.2 outs' (some (s,z.2.2.toNat+1))/\V.length<=V2.length/\2*V.length+w.2.length<=2*V2.length+stk.length) ?_ λw ⟨V2,w1,w2,w3,w4⟩ => .gdI (by omega)<|.pure ⟨⟨V2,w1,⟨by simp only [];omega,by simp only [];omega⟩,by simp only [hi1];exact w2,w3,w4⟩,by simp only [];omega⟩;refine .gdD ⟨h2.1,hlt⟩<|(R.af s _ hs hmm).bind λv37 e37=>?_;subst e37;refine (R.ky _<|.step hs hmm).bind λv38 e38=>?_;subst e38;refine .bif (λhb => .gd (Cq (by omega) rfl)<|.pure ?_) λhb => .pure ?_
 ·have hn : ¬ ∃ v∈V',M.ky v=M.ky (M.af s<|(M.mv s).getD z.2.2.toNat default):=λhh=>by
   rw [h1,(tO V' _).2 hh] at hb
   cases hb
  refine ⟨V'++[M.af s ((M.mv s).getD z.2.2.toNat default)],?_,h3.new hm λhv=>hn ⟨_,hv,rfl⟩,?_,?_⟩
  ·simp only [h1];exact zM hn
  ·simp;omega
  simp;omega
 have hy:∃ v∈V',M.ky v=M.ky (M.af s<|(M.mv s).getD z.2.2.toNat default):=by
  rw [<- tO,<- h1];simpa using hb
 obtain ⟨v,hv,e⟩:=hy;have := K.key v _ (h3.rea v hv) (.step hs hmm) e;refine ⟨V',h1,h3.old hm<|this ▸ hv,h4,h5⟩
theorem wR (K:Mok M s0 N) (R:Mrt mv af ky dn oc M s0) (hN:N<1099511627776) {Q:LL->LL->Prop} (hs:∀ l:LL,l.length<=N->(∀ o∈l,Ar M s0 o)->CY (srt l) (Q l)) :
  CY (BI mv af ky dn oc srt s0) λq=>∃ l,Q l q.1/\(∀ o,o∈l↔Ar M s0 o)/\∃ V:List σ,V.Nodup/\(∀ v,v∈V↔Rea M s0 v)/\q.2=(V.length:Int):=by
 unfold BI;refine (R.ky s0 .base).bind λv1 e1=>?_;subst e1;refine CY.bind (P:=λw=>∃ V,w.1=kys M V/\Srch M s0 V [] w.2 none) ?_ λw ⟨V,w1,w2⟩ => ?_
 ·refine CY.loop (λz=>∃ V,z.1=kys M V/\Srch M s0 V z.2.2 z.2.1 none) (λz=>2*(N-z.1.length)+z.2.2.length) ⟨[s0],rfl,.start⟩ λz ⟨V,h1,h2⟩ => ?_;have hV:=K.cnt V h2.nd h2.rea;have hl:=h2.len;obtain ⟨kk,outs,stk⟩:=z;simp only at h1 h2 hl;subst h1;unfold Co;simp only [];refine .bifD (λhlt=>?_) λhge=>?_
  ·obtain ⟨stk',s,rfl⟩:∃ stk' s,stk=stk'++[s]:=⟨_,_,(List.dropLast_concat_getLast<|by rintro rfl;simp at hlt).symm⟩;have hcur:(stk'++[s]).getD ((((stk'++[s]).length:Int)-1).toNat) default=s:=by
    rw [lla,FM,show (((stk'.length+1:Nat):Int)-1).toNat=stk'.length by omega,gdq,gar (FR _)];simp
   have hcut:((stk'++[s]).drop (0:Int).toNat).take ((((stk'++[s]).length:Int)-1).toNat-(0:Int).toNat)=stk':=by
    rw [lla,FM,show (((stk'.length+1:Nat):Int)-1).toNat-(0:Int).toNat=stk'.length by omega];simp
   have hre:=h2.rea s<|h2.sub s<|FW _<|FH.2 rfl;rw [lla,FM] at hl;refine .gdI (by simp;omega) (.gdD ⟨by simp,by omega⟩<|.gdD ⟨FI _,by simp,by omega⟩ ?_);rw [hcur,hcut];refine CY.bind (P:=λo=>o=if M.dn s then outs++[M.oc s] else outs) ?_ λo ho=>?_
   ·refine (R.dn s hre).bind λb hb=>?_;subst hb;refine .bif (λhb=>(R.oc s hre hb).bind λo ho => .gd (Cq (by omega) rfl)<|.pure ?_) λhb => .pure ?_
    ·rw [if_pos hb,ho]
    rw [if_neg (by rw [hb];decide)]
   have h3:=h2.pop ho;refine (R.mv s hre).bind λv27 e27=>?_;subst e27;refine (yj K R hN (outs:=outs) h3).mono λz ⟨V',stk2,e,g1,g2,g3⟩ => ?_;subst e;have hV2:=K.cnt V' g1.nd g1.rea;refine ⟨⟨V',rfl,g1⟩,?_⟩;simp only [kys,llm,lla,FM];omega
  refine .pure ⟨V,rfl,?_⟩;have : stk=[]:=Gv (by omega);subst this;exact h2
 have hV:=K.cnt V w2.nd w2.rea;have hl:=w2.len;refine (hs w.2 (by omega) λo ho=>(w2.ends.1 o).1 ho).bind λq hq => .pure ⟨w.2,hq,w2.ends.1,V,w2.nd,w2.ends.2,?_⟩;rw [w1];simp [kys]
end
theorem yl {σ:Type} (f:σ->Nat) (m:Nat):∀ (V:List σ),V.Nodup->(∀ v∈V,f v<m)->(∀ u∈V,∀ v∈V,f u=f v->u=v)->V.length<=m:=λV hn hl hi=>by
 have h1:(V.map f).Nodup:=by
  rw [Gx] at hn ⊢;rw [List.pairwise_map];exact hn.imp_of_mem λ{a b} ha hb hne e=>hne<|hi a ha b hb e
 have := Gy h1 (l₂:=FJ m) λx hx=>by
  obtain ⟨v,hv,rfl⟩:=FL.1 hx;exact F5.2<|hl v hv
 simpa using this
def kJ:List (Nat×Nat)->Nat
 | []=>0
 | (d,b)::l=>d+b*kJ l
def uT:List (Nat×Nat)->Nat
 | []=>1
 | (_,b)::l=>b*uT l
theorem tP:∀ (l:List<|Nat×Nat),(∀ x∈l,x.1<x.2)->kJ l<uT l
 | [],_=>Nat.one_pos
 | (d,b)::l,h=>by
  have h1:d<b:=h _ FK;have h2:=tP l λx hx=>h x<|FY _ hx;show d+b*kJ l<b*uT l;have h3:b*(kJ l+1)<=b*uT l:=Nat.mul_le_mul_left _ h2;rw [Nat.mul_add,Nat.mul_one] at h3;omega
theorem ry:∀ (l k:List<|Nat×Nat),l.map (·.2)=k.map (·.2)->(∀ x∈l,x.1<x.2)->(∀ x∈k,x.1<x.2)->kJ l=kJ k->l=k
 | [],[],_,_,_,_=>rfl
 | [],_::_,h,_,_,_=>by cases h
 | _::_,[],h,_,_,_=>by cases h
 | (d,b)::l,(d',b')::k,h,hl,hk,e=>by
  injection h with hb ht;simp only at hb;subst hb;have h1:d<b:=hl _ FK;have h2:d'<b:=hk _ FK;have e:d+b*kJ l=d'+b*kJ k:=e;have hd:d=d':=by
   have := congrArg (· % b) e;simp only [Nat.add_mul_mod_self_left,Gd h1,Gd h2] at this;exact this
  subst hd;have hc:kJ l=kJ k:=Nat.eq_of_mul_eq_mul_left (by omega) (by omega:b*kJ l=b*kJ k);rw [ry l k ht (λx hx=>hl x<|FY _ hx) (λx hx=>hk x<|FY _ hx) hc]
def ltL (x y:LI):Prop:=cmpL x y<0
theorem zN {x y:LI}:leL x y=true↔ltL x y\/x=y:=by
 unfold leL ltL;rw [dte];rcases jy x y with h | h | h
 ·exact ⟨λ_ => .inl h,λ_=>by have := jv x y;omega⟩
 ·exact ⟨λ_ => .inr h,λ_=>by rw [h,jc];decide⟩
 refine ⟨λg=>absurd h g,λg=>?_⟩;rcases g with g | g
 ·have := jv x y;omega
 rw [g,jc] at h;exact absurd h (by decide)
structure Sor (l q:List (List Int)):Prop where
 lt:q.Pairwise ltL
 mem:∀ o,o∈q↔o∈l
 len:q.length<=l.length
theorem tQ {l c:LL} {n:Nat} (hs:l.Pairwise λx y=>leL x y=true) (h:c.Pairwise ltL) (hm:∀ o,o∈c↔o∈l.take n) (h0:0<n) (hn:n<l.length) (hne:l.getD n default≠l.getD (n-1) default) :
  (c++[l.getD n default]).Pairwise ltL/\∀ o,o∈c++[l.getD n default]↔o∈l.take (n+1):=by
 have e1:l.getD n default=l[n]:=by simp [hn]
 have e2:l.getD (n-1) default=l[n-1]:=by simp [List.getD,show n-1<l.length by omega]
 rw [e1] at hne ⊢;rw [e2] at hne;have hp:=List.pairwise_iff_getElem.1 hs;refine ⟨List.pairwise_append.2 ⟨h,by simp,λy hy x hx=>?_⟩,λo=>?_⟩
 ·rw [FH.1 hx];obtain ⟨j,hj,rfl⟩:=Gz<|(hm y).1 hy;have hjn:j<n:=Nat.lt_of_lt_of_le (show j<min n l.length by simpa using hj)<|Nat.min_le_left _ _;rw [List.getElem_take];rcases zN.1 (hp j n (by omega) hn hjn) with g | g
  ·exact g
  exfalso;apply hne
  by_cases hj1:j=n-1
  ·subst hj1;exact g.symm
  exact tL _ _ (g ▸ hp j (n-1) (by omega) (by omega) (by omega))<|hp (n-1) n (by omega) hn (by omega)
 rw [FP,hm,F6,FP,geq hn];simp
theorem tT {l:LL} {n:Nat} (h0:0<n) (hn:n<l.length) (he:l.getD n default=l.getD (n-1) default) (o:LI):o∈l.take (n+1)↔o∈l.take n:=by
 have e1:l.getD n default=l[n]:=by simp [hn]
 have e2:l.getD (n-1) default=l[n-1]:=by simp [List.getD,show n-1<l.length by omega]
 rw [e1,e2] at he;rw [F6,FP,geq hn];refine ⟨λh=>h.elim id λh=>?_,.inl⟩;have : o=l[n-1]:=by simpa [he] using h
 rw [this];exact List.mem_iff_getElem.2 ⟨n-1,by simp;omega,by simp⟩
theorem rz (a b:LI) (ha:a.length<=1048576):CY (bq a b) (· = decide (a=b)):=by
 unfold bq;refine .bif (λh => .pure ?_) λh=>?_
 ·have h:a.length≠b.length:=by
   intro e;rw [e] at h;simp at h
  rw [decide_eq_false (λe=>h<|by rw [e])]
 have h:a.length=b.length:=by
  have : (a.length:Int)=(b.length:Int):=by simpa using h
  omega
 refine CY.sum (PS:=λ_=>a=b) (PW:=λv=>v=decide (a=b)) ?_ λ_ he => .pure (by rw [decide_eq_true he]);refine CY.loop (λi=>0<=i/\i<=(a.length:Int)/\∀ j:Nat,(j:Int)<i->a[j]? = b[j]?) (λi=>((a.length:Int)-i).toNat) ⟨FI _,by omega,λj hj=>absurd hj<|by omega⟩ λi ⟨h1,h2,h3⟩ => ?_;unfold eu;refine .bifD (λhlt => .gdD ⟨h1,hlt⟩<|.gdD ⟨h1,by omega⟩ ?_) λhge => .pure ?_
 ·have hi:i.toNat<a.length:=by omega
  have hib:i.toNat<b.length:=by omega
  have ea:a.getD i.toNat default=a[i.toNat]:=by simp [hi]
  have eb:b.getD i.toNat default=b[i.toNat]:=by simp [hib]
  rw [ea,eb];refine .bif (λhb => .pure ?_) λhb => .gdI (by omega)<|.pure ⟨⟨by omega,by omega,λj hj=>?_⟩,by omega⟩
  ·simp only [bne_iff_ne] at hb;have : a≠b:=λe=>hb (by simp [e]);simp only [];rw [decide_eq_false this]
  by_cases ej:j=i.toNat
  ·subst ej;rw [geq hi,geq hib];have : a[i.toNat]=b[i.toNat]:=by simpa using hb
   rw [this]
  exact h3 j (by omega)
 simp only [];apply List.ext_getElem?;intro j;rcases Gj j a.length with g | g
 ·exact h3 j (by omega)
 rw [gen g,gen (by omega)]
theorem wS (a b:LI) (ha:a.length<=1048576):CY (aY a b) (· = decide (a=b)):=by
 unfold aY;exact (rz a b ha).bind λv hv => .pure hv
theorem sD {l:LL} (hs:l.Pairwise λx y=>leL x y=true) (hl:l.length<=1099511627776) (hr:∀ r∈l,r.length<=1048576):CY (av l) (Sor l):=by
 have hrD:∀ n,(l.getD n default).length<=1048576:=λn=>by
  by_cases hn:n<l.length
  ·have : l.getD n default=l[n]:=by simp [hn]
   rw [this];exact hr _<|FV hn
  rw [gdq,gen (by omega)];exact Nat.zero_le _
 unfold av;refine .bifD (λh => .pure ⟨?_,λ_=>Iff.rfl,FR _⟩) λh=>?_
 ·match l,h with
  | [],_=>exact .nil
  | [x],_=>simp
  | _::_::_,h=>simp at h;omega
 have h2:2<=l.length:=by omega
 refine CY.sum (PS:=λq=>Sor l q) (PW:=λq=>Sor l q) ?_ λq hq => .pure hq;refine CY.loop (λs=>s.1=l/\1<=s.2/\s.2<=(l.length:Int)/\(l.take s.2.toNat).Pairwise ltL) (λs=>((l.length:Int)-s.2).toNat) ⟨rfl,FI _,by simp only [];omega,?_⟩ λs ⟨e,h1,h3,h4⟩ => ?_
 ·match l,h2 with
  | x::_,_=>simp
 obtain ⟨c,k⟩:=s;simp only at e h1 h3 h4;subst e;unfold aB;simp only [];refine .bifD (λhlt=>?_) λhge => .pure ?_
 rotate_left
 ·have : k.toNat=c.length:=by omega
  rw [this,List.take_length] at h4;exact ⟨h4,λ_=>Iff.rfl,FR _⟩
 have hk1:(k-1).toNat=k.toNat-1:=by omega
 refine CY.sum (PS:=λ_=>c.getD k.toNat default≠c.getD (k.toNat-1) default) ?_ λ_ hne => .gdI (by omega)<|.pure ⟨⟨rfl,by simp only [];omega,by simp only [];omega,?_⟩,by simp only [];omega⟩
 rotate_left
 ·have := (tQ hs h4 (λ_=>Iff.rfl) (by omega) (by omega) hne).1;simp only [];rw [show (k+1).toNat=k.toNat+1 by omega,F6,geq (by omega)];rw [show c.getD k.toNat default=c[k.toNat]'(by omega) by simp [show k.toNat<c.length by omega]] at this;simpa using this
 refine .gdD ⟨by omega,hlt⟩<|.gdI (by omega)<|.gdD ⟨by omega,by omega⟩<|(wS _ _<|hrD _).bind λv hv=>?_;subst hv;rw [hk1];refine .bifD (λhe=>?_) λhne => .pure hne;refine .gdD ⟨by omega,by omega,FI _⟩ ?_;refine CY.bind (P:=λz=>(k<=z.2/\z.2<=(c.length:Int))/\z.1.length=c.length/\(z.1.take z.2.toNat).Pairwise ltL/\∀ o,o∈z.1.take z.2.toNat↔o∈c) ?_ λz ⟨⟨z1,z2⟩,z3,z4,z5⟩ => .gdD ⟨by omega,by omega,FI _⟩<|.gdD ⟨FI _,by omega,by omega⟩<|.pure ?_
 rotate_left
 ·have e1:(((cpy z.1 (0+z.2.toNat) (FT ((z.1.length:Int).toNat-z.2.toNat) (default:LI))<|(z.1.length:Int).toNat-z.2.toNat).drop (0:Int).toNat).take<|z.2.toNat-(0:Int).toNat)=z.1.take z.2.toNat:=by
   simp only [cpy,Nat.zero_add,show (0:Int).toNat=0 from rfl,List.drop_zero,Nat.sub_zero];rw [if_pos (by omega),Gm,List.take_append_of_le_length (by rw [Gf];omega),List.take_take,Nat.min_self]
  simp only [];rw [e1];exact ⟨z4,z5,by simp;omega⟩
 refine CY.loop (λs=>(1<=s.2.1/\k+s.2.1<=(c.length:Int))/\(k<=s.2.2/\s.2.2<=k+s.2.1-1)/\s.1.length=c.length/\(∀ j:Nat,k+s.2.1-1<=(j:Int)->s.1[j]? = c[j]?)/\(s.1.take s.2.2.toNat).Pairwise ltL/\∀ o,o∈s.1.take s.2.2.toNat↔o∈c.take (k+s.2.1).toNat) (λs=>((c.length:Int)-k-s.2.1).toNat) ⟨⟨FI _,by simp only [];omega⟩,⟨FI _,by simp only [];omega⟩,rfl,λ_ _=>rfl,h4,λo=>?_⟩ λs ⟨⟨a1,a2⟩,⟨a3,a4⟩,a5,a6,a7,a8⟩ => ?_
 ·simp only [];rw [show (k+1).toNat=k.toNat+1 by omega];exact (tT (by omega) (by omega) he o).symm
 obtain ⟨d,k2,kk⟩:=s;simp only at a1 a2 a3 a4 a5 a6 a7 a8;unfold aA;simp only [];have hz:((((c.length:Int).toNat-k.toNat:Nat)):Int)=(c.length:Int)-k:=by omega
 rw [hz];refine .bifD (λhlt2=>?_) λhge => .pure ⟨⟨a3,by simp only [];omega⟩,a5,a7,λo=>?_⟩
 rotate_left
 ·rw [a8,show (k+k2).toNat=c.length by omega,List.take_length]
 have g1:d.getD (0+k.toNat+k2.toNat) default=c.getD (k+k2).toNat default:=by
  rw [gdq,gdq,a6 _ (by omega),show 0+k.toNat+k2.toNat=(k+k2).toNat by omega]
 have g2:d.getD (0+k.toNat+(k2-1).toNat) default=c.getD ((k+k2).toNat-1) default:=by
  rw [gdq,gdq,a6 _ (by omega),show 0+k.toNat+(k2-1).toNat=(k+k2).toNat-1 by omega]
 have hn1:(k+(k2+1)).toNat=(k+k2).toNat+1:=by omega
 refine CY.bind (P:=λz=>(k<=z.2/\z.2<=k+k2)/\z.1.length=c.length/\(∀ j:Nat,k+k2<=(j:Int)->z.1[j]? = c[j]?)/\(z.1.take z.2.toNat).Pairwise ltL/\∀ o,o∈z.1.take z.2.toNat↔o∈c.take ((k+k2).toNat+1)) ?_ λz ⟨⟨z1,z2⟩,z3,z4,z5,z6⟩ => .gdI (by omega)<|.pure ⟨⟨⟨by simp only [];omega,by simp only [];omega⟩,⟨z1,by simp only [];omega⟩,z3,λj hj=>z4 j (by simp only [] at hj;omega),z5,by simp only [hn1];exact z6⟩,by simp only [];omega⟩;refine .gdD ⟨⟨by omega,by omega⟩,by omega⟩<|.gdI (by omega)<|.gdD ⟨⟨by omega,by omega⟩,by omega⟩ ?_;rw [g1,g2];refine (wS _ _<|hrD _).bind λv hv=>?_;subst hv;rw [<- decide_not];refine .bifD (λhne=>?_) λhe2 => .pure ⟨⟨a3,by simp only [];omega⟩,a5,λj hj=>a6 j (by omega),a7,λo=>?_⟩
 ·have hkl:kk.toNat<d.length:=by omega
  refine .gdD ⟨by omega,by omega⟩<|.gdI (by omega)<|.pure ⟨⟨by simp only [];omega,by simp only [];omega⟩,by simp [a5],λj hj=>?_,?_⟩
  ·simp only [];rw [Gh (by omega)];exact a6 j (by omega)
  have e:(d.set kk.toNat<|c.getD (k+k2).toNat default).take (kk+1).toNat=d.take kk.toNat++[c.getD (k+k2).toNat default]:=by
   rw [show (kk+1).toNat=kk.toNat+1 by omega,F6,F4 hkl,List.take_set_of_le (FR _)]
   rfl
  simp only [];rw [e];exact tQ hs a7 a8 (by omega) (by omega) hne
 simp only [];rw [a8];exact (tT (by omega) (by omega) (Decidable.not_not.1 he2) o).symm
theorem pG {l:LL} (hl:l.length<=1099511627776) (hr:∀ r∈l,r.length<=1048576):CY (aH l) (Sor l):=by
 unfold aH;refine CY.bind (P:=(· = ru l)) ?_ λv hv=>?_
 ·unfold cN;exact .gdD (by omega)<|.pure rfl
 subst hv;have hp:=gK l;refine (sD (nQ l) (by rw [hp.length_eq];exact hl) λr h=>hr r<|hp.mem_iff.1 h).bind λv ⟨v1,v2,v3⟩ => .pure ⟨v1,λo=>(v2 o).trans hp.mem_iff,by rw [<- hp.length_eq];exact v3⟩
structure Iv (p:List (List CV)) (u:CW):Prop where
 up:u.p=p
 pc:∀ t:Nat,t<3->0<=Z3b.get u.pc t/\Z3b.get u.pc t<=((p.getD t default).length:Int)
 rv:∀ t g:Nat,t<3->g<3->0<=Z3b.get (Z33.get u.reg t) g/\Z3b.get (Z33.get u.reg t) g<=3
 mv:∀ l:Nat,l<3->0<=Z3b.get u.mem l/\Z3b.get u.mem l<=3
def sF (u:CW) (t:Nat):Bool:=decide<|Z3b.get u.pc t<((u.p.getD t default).length:Int)
def vw (u:CW) (n:Nat):LI:=((FJ n).filter<|sF u).map Int.ofNat
def nT (u:CW):LI:=vw u u.p.length
def nU (u:CW) (t:Int):CV:=(u.p.getD t.toNat default).getD (Z3b.get u.pc t).toNat default
def nV (u:CW) (n:Nat):LI:=(FJ n).flatMap λt:Nat=>(FJ 3).map λg:Nat=>Z3b.get (Z33.get u.reg t) g
def BJ (u:CW):LI:=(FJ 3).map λl:Nat=>Z3b.get u.mem l
def wT (u:CW):LI:=nV u u.p.length++BJ u
def keyL (u:CW):LI:=[u.pc.x0,u.pc.x1,u.pc.x2,u.reg.x0.x0,u.reg.x0.x1,u.reg.x0.x2,u.reg.x1.x0,u.reg.x1.x1,u.reg.x1.x2,u.reg.x2.x0,u.reg.x2.x1,u.reg.x2.x2,u.mem.x0,u.mem.x1,u.mem.x2]
def AY:Mac CX where
 mv s:=nT s.values
 af s t:=⟨wQ s.values t<|nU s.values t⟩
 ky s:=strOfNums<|keyL s.values
 dn s:=(nT s.values).isEmpty
 oc s:=wT s.values
section
variable {p:List (List CV)} {u:CW}
theorem gz {n:Nat} {m:Int}:m∈vw u n↔∃ t:Nat,t<n/\m=t/\sF u t=true:=by
 unfold vw;rw [FL]
 constructor
 ·rintro ⟨t,ht,rfl⟩;rw [List.mem_filter,F5] at ht;exact ⟨t,ht.1,rfl,ht.2⟩
 rintro ⟨t,h1,rfl,h2⟩;exact ⟨t,List.mem_filter.2 ⟨F5.2 h1,h2⟩,rfl⟩
theorem nW (n:Nat):vw u (n+1)=if sF u n=true then vw u n++[(n:Int)] else vw u n:=by
 unfold vw;rw [Gc,List.filter_append,Gn]
 split
 ·rename_i h;rw [List.filter_cons_of_pos h]
  rfl
 rename_i h;rw [List.filter_cons_of_neg h];simp
theorem tV (n:Nat):(vw u n).length<=n:=by
 unfold vw;rw [llm];exact FX (List.length_filter_le _ _) (by simp)
theorem wU (hp:PV p) (h:Iv p u) {t:Nat} (ht:t<p.length):CY (aT u t) λv=>v.2=sF u t/\(v.2=true->v.1=nU u t):=by
 have hl:=hp.vs.1;have hr:=hp.vs.2 t;have h1:=h.pc t (by omega);unfold aT sF nU;rw [h.up];simp only [tnn];refine .gdD ⟨by omega,by omega⟩<|.gdI (by omega)<|.gdD ⟨by omega,by omega⟩<|.bifD (λhle => .pure ⟨?_,nofun⟩) λhle => .gdD ⟨h1.1,by omega⟩<|.pure ⟨?_,λ_=>rfl⟩
 ·rw [decide_eq_false (by omega)]
 rw [decide_eq_true (by omega)]
theorem AZ (hp:PV p) (h:Iv p u):CY (bY ⟨u⟩) (· = nT u):=by
 have hl:=hp.vs.1;unfold bY;refine CY.bind (P:=(· = nT u)) ?_ λv hv => .pure hv;refine CY.loop (λs=>(0<=s.2/\s.2<=(p.length:Int))/\s.1=vw u s.2.toNat) (λs=>((p.length:Int)-s.2).toNat) ⟨⟨FI _,by simp only [];omega⟩,rfl⟩ λs ⟨⟨h1,h2⟩,h3⟩ => ?_;unfold eG;simp only [h.up];refine .bifD (λhlt=>?_) λhge => .pure ?_
 ·obtain ⟨l,i⟩:=s;simp only at h1 h2 h3 hlt;obtain ⟨n,rfl⟩:∃ n:Nat,i=n:=⟨i.toNat,by omega⟩;simp only [tnn] at h3;subst h3;have hln:=tV (u:=u) n;refine CY.bind (P:=(· = vw u (n+1))) ?_ λv hv => .gdI (by omega)<|.pure ⟨⟨⟨by simp only [];omega,by simp only [];omega⟩,hv⟩,by simp only [];omega⟩;refine (wU hp h<|by omega).bind λv ⟨e1,_⟩ => .bif (λhb => .gd (fP (by simp only [];omega) rfl)<|.pure ?_) λhb => .pure ?_
  ·rw [nW,if_pos (by rw [<- e1,hb])]
  rw [nW,if_neg (by rw [<- e1,hb];decide)]
 rw [h3];unfold nT;rw [h.up,show s.2.toNat=p.length by omega]
theorem A7 (hp:PV p) (h:Iv p u):CY (bA ⟨u⟩) (· = (nT u).isEmpty):=by
 have hl:=hp.vs.1;unfold bA;refine CY.bind (P:=(· = (nT u).isEmpty)) ?_ λv hv => .pure hv;unfold aS;refine CY.sum (PS:=λ_=>nT u=[]) (PW:=(· = (nT u).isEmpty)) ?_ λ_ hn => .pure (by rw [hn];rfl);refine CY.loop (λi=>(0<=i/\i<=(p.length:Int))/\vw u i.toNat=[]) (λi=>((p.length:Int)-i).toNat) ⟨⟨FI _,by omega⟩,rfl⟩ λi ⟨⟨h1,h2⟩,h3⟩ => ?_;unfold eM;simp only [h.up];refine .bifD (λhlt=>?_) λhge => .pure ?_
 ·obtain ⟨n,rfl⟩:∃ n:Nat,i=n:=⟨i.toNat,by omega⟩;simp only [tnn] at h3;refine (wU hp h<|by omega).bind λv ⟨e1,_⟩ => .bif (λhb => .pure ?_) λhb => .gdI (by omega)<|.pure ⟨⟨⟨by omega,by omega⟩,?_⟩,by omega⟩
  ·have hm:(n:Int)∈nT u:=gz.2 ⟨n,by rw [h.up];omega,rfl,by rw [<- e1,hb]⟩
   cases e:nT u with
   | nil=>rw [e] at hm;cases hm
   | cons a l=>rfl
  rw [show ((n:Int)+1).toNat=n+1 by omega,nW,if_neg (by rw [<- e1,hb];decide),h3]
 simp only [];unfold nT;rw [h.up,<- show i.toNat=p.length by omega,h3]
theorem pI (n:Nat):nV u (n+1)=nV u n++(FJ 3).map λg:Nat=>Z3b.get (Z33.get u.reg n) g:=by
 unfold nV;rw [show FJ (n+1)=FJ n++[n] from Gc,List.flatMap_append];simp
theorem nX (n:Nat):(nV u n).length=3*n:=by
 induction n with
 | zero=>rfl
 | succ n ih=>rw [pI,lla,ih];simp;omega
theorem tX (hp:PV p) (h:Iv p u):CY (aG u) (· = wT u):=by
 have hl:=hp.vs.1;unfold aG;refine CY.bind (P:=(· = nV u p.length)) ?_ λv hv=>?_
 ·refine CY.loop (λs=>(0<=s.2/\s.2<=(p.length:Int))/\s.1=nV u s.2.toNat) (λs=>((p.length:Int)-s.2).toNat) ⟨⟨FI _,by simp only [];omega⟩,rfl⟩ λs ⟨⟨h1,h2⟩,h3⟩ => ?_;unfold cO;simp only [h.up];refine .bifD (λhlt=>?_) λhge => .pure ?_
  ·obtain ⟨l,i⟩:=s;simp only at h1 h2 h3 hlt;obtain ⟨n,rfl⟩:∃ n:Nat,i=n:=⟨i.toNat,by omega⟩;simp only [tnn] at h3;subst h3;have hln:=nX (u:=u) n;refine CY.bind (P:=(· = nV u (n+1))) ?_ λv hv => .gdI (by omega)<|.pure ⟨⟨⟨by simp only [];omega,by simp only [];omega⟩,hv⟩,by simp only [];omega⟩;refine .gdD ⟨by omega,by omega⟩<|CY.loop (λs=>(0<=s.2/\s.2<=3)/\s.1=nV u n++(FJ s.2.toNat).map λg:Nat=>Z3b.get (Z33.get u.reg n) g) (λs=>((3:Int)-s.2).toNat) ⟨⟨FI _,(by decide:(0:Int)<=3)⟩,by simp⟩ λs ⟨⟨a1,a2⟩,a3⟩ => ?_;unfold cE;simp only [];refine .bifD (λhlt=>?_) λhge => .pure ?_
   ·obtain ⟨l,j⟩:=s;simp only at a1 a2 a3 hlt;obtain ⟨g,rfl⟩:∃ g:Nat,j=g:=⟨j.toNat,by omega⟩;simp only [tnn] at a3;subst a3;have hv:=h.rv n g (by omega) (by omega);refine .gdD ⟨by omega,hlt⟩<|.gdI (by first | omega | (simp only [];omega))<|.gd (fP (by simp;omega) rfl)<|.gdI (by omega)<|.pure ⟨⟨⟨by simp only [];omega,by simp only [];omega⟩,?_⟩,by simp only [];omega⟩;simp only [];rw [show ((g:Int)+1).toNat=g+1 by omega,Gc,Gn,<- Gm]
    rfl
   rw [a3,pI,show s.2.toNat=3 by omega]
  rw [h3,show s.2.toNat=p.length by omega]
 subst hv;refine CY.bind (P:=(· = wT u)) ?_ λv hv => .pure hv;have hln:=nX (u:=u) p.length;refine CY.loop (λs=>(0<=s.2/\s.2<=3)/\s.1=nV u p.length++(FJ s.2.toNat).map λg:Nat=>Z3b.get u.mem g) (λs=>((3:Int)-s.2).toNat) ⟨⟨FI _,(by decide:(0:Int)<=3)⟩,by simp⟩ λs ⟨⟨a1,a2⟩,a3⟩ => ?_;unfold cF;refine .bifD (λhlt=>?_) λhge => .pure ?_
 ·obtain ⟨l,j⟩:=s;simp only at a1 a2 a3 hlt;obtain ⟨g,rfl⟩:∃ g:Nat,j=g:=⟨j.toNat,by omega⟩;simp only [tnn] at a3;subst a3;have hv:=h.mv g (by omega);refine .gdD ⟨by omega,hlt⟩<|.gdI (by first | omega | (simp only [];omega))<|.gd (fP (by simp;omega) rfl)<|.gdI (by omega)<|.pure ⟨⟨⟨by simp only [];omega,by simp only [];omega⟩,?_⟩,by simp only [];omega⟩;simp only [];rw [show ((g:Int)+1).toNat=g+1 by omega,Gc,Gn,<- Gm]
  rfl
 rw [a3,show s.2.toNat=3 by omega];unfold wT BJ;rw [h.up]
theorem tY (u:CW):CY (bz ⟨u⟩) (· = strOfNums (keyL u)):=by
 unfold bz aX;refine CY.bind (P:=(· = strOfNums (keyL u))) (.gd rfl ?_) λv hv => .pure hv;refine CY.bind (P:=λl=>l=[u.pc.x0,u.pc.x1,u.pc.x2,u.reg.x0.x0,u.reg.x0.x1,u.reg.x0.x2,u.reg.x1.x0,u.reg.x1.x1,u.reg.x1.x2,u.reg.x2.x0,u.reg.x2.x1,u.reg.x2.x2]) ?_ λv hv=>?_
 ·refine CY.of (v:=[u.pc.x0,u.pc.x1,u.pc.x2,u.reg.x0.x0,u.reg.x0.x1,u.reg.x0.x2,u.reg.x1.x0,u.reg.x1.x1,u.reg.x1.x2,u.reg.x2.x0,u.reg.x2.x1,u.reg.x2.x2]) ?_ rfl
  exact wm (step:=dN u) (λi=>match i with
   | 0=>([u.pc.x0,u.pc.x1,u.pc.x2],0)
   | 1=>([u.pc.x0,u.pc.x1,u.pc.x2,u.reg.x0.x0,u.reg.x0.x1,u.reg.x0.x2],1)
   | 2=>([u.pc.x0,u.pc.x1,u.pc.x2,u.reg.x0.x0,u.reg.x0.x1,u.reg.x0.x2,u.reg.x1.x0,u.reg.x1.x1,u.reg.x1.x2],2)
   | _=>([u.pc.x0,u.pc.x1,u.pc.x2,u.reg.x0.x0,u.reg.x0.x1,u.reg.x0.x2,u.reg.x1.x0,u.reg.x1.x1,u.reg.x1.x2,u.reg.x2.x0,u.reg.x2.x1,u.reg.x2.x2],3)) 3 (λi hi=>match i,hi with
   | 0,_=>rfl
   | 1,_=>rfl
   | 2,_=>rfl) rfl
 subst hv;exact .gd rfl<|.pure rfl
theorem lC:∀ {l k:LI},(∀ x∈l,0<=x/\x<=255)->(∀ x∈k,0<=x/\x<=255)->strOfNums l=strOfNums k->l=k:=λ{l k} hl hk h=>by
 have h1:(l.map λn=>UInt8.ofNat n.toNat)=k.map λn=>UInt8.ofNat n.toNat:=by
  rw [<- strOfNums_data,<- strOfNums_data,h]
 have h2:(l.map λn=>UInt8.ofNat n.toNat).map (λb=>(b.toNat:Int))=(k.map λn=>UInt8.ofNat n.toNat).map (λb=>(b.toNat:Int)):=by rw [h1]
 have back:∀ l:LI,(∀ x∈l,0<=x/\x<=255)->(l.map λn=>UInt8.ofNat n.toNat).map (λb=>(b.toNat:Int))=l:=λl hl=>by
  rw [Gb]
  conv=>rhs;rw [<- Gp l]
  refine Gq λx hx=>?_;have := hl x hx;simp only [Function.comp,UInt8.toNat_ofNat',id];omega
 rwa [back l hl,back k hk] at h2
theorem Cr (a:Z3b):Z3b.get a ((0:Nat):Int)=a.x0:=rfl
theorem Cs (a:Z3b):Z3b.get a ((1:Nat):Int)=a.x1:=rfl
theorem Ct (a:Z3b):Z3b.get a ((2:Nat):Int)=a.x2:=rfl
theorem Iv.keyL (hp:PV p) (h:Iv p u):∃ d:List Nat,Go.Proofs.YtjcmfddobaplbaaGreat.keyL u=d.map Int.ofNat/\d.length=15/\∀ x∈d.zip [8,8,8,4,4,4,4,4,4,4,4,4,4,4,4],x.1<x.2:=by
 have e:∀ x:Int,0<=x->x=Int.ofNat x.toNat:=λx hx=>(Int.toNat_of_nonneg hx).symm;have hv:=hp.vs.2;have p0:=h.pc 0 (by decide);have p1:=h.pc 1 (by decide);have p2:=h.pc 2 (by decide);have v0:=hv 0;have v1:=hv 1;have v2:=hv 2;have r00:=h.rv 0 0 (by decide) (by decide);have r01:=h.rv 0 1 (by decide) (by decide);have r02:=h.rv 0 2 (by decide) (by decide);have r10:=h.rv 1 0 (by decide) (by decide);have r11:=h.rv 1 1 (by decide) (by decide);have r12:=h.rv 1 2 (by decide) (by decide);have r20:=h.rv 2 0 (by decide) (by decide);have r21:=h.rv 2 1 (by decide) (by decide);have r22:=h.rv 2 2 (by decide) (by decide);have m0:=h.mv 0 (by decide);have m1:=h.mv 1 (by decide);have m2:=h.mv 2 (by decide);change 0<=u.pc.x0/\u.pc.x0<=_ at p0;change 0<=u.pc.x1/\u.pc.x1<=_ at p1;change 0<=u.pc.x2/\u.pc.x2<=_ at p2;change 0<=u.reg.x0.x0/\u.reg.x0.x0<=_ at r00;change 0<=u.reg.x0.x1/\u.reg.x0.x1<=_ at r01;change 0<=u.reg.x0.x2/\u.reg.x0.x2<=_ at r02;change 0<=u.reg.x1.x0/\u.reg.x1.x0<=_ at r10;change 0<=u.reg.x1.x1/\u.reg.x1.x1<=_ at r11;change 0<=u.reg.x1.x2/\u.reg.x1.x2<=_ at r12;change 0<=u.reg.x2.x0/\u.reg.x2.x0<=_ at r20;change 0<=u.reg.x2.x1/\u.reg.x2.x1<=_ at r21;change 0<=u.reg.x2.x2/\u.reg.x2.x2<=_ at r22;change 0<=u.mem.x0/\u.mem.x0<=_ at m0;change 0<=u.mem.x1/\u.mem.x1<=_ at m1;change 0<=u.mem.x2/\u.mem.x2<=_ at m2;refine ⟨(Go.Proofs.YtjcmfddobaplbaaGreat.keyL u).map Int.toNat,?_,rfl,?_⟩
 ·unfold Go.Proofs.YtjcmfddobaplbaaGreat.keyL;simp only [List.map_cons,List.map_nil];rw [<- e _ p0.1,<- e _ p1.1,<- e _ p2.1,<- e _ r00.1,<- e _ r01.1,<- e _ r02.1,<- e _ r10.1,<- e _ r11.1,<- e _ r12.1,<- e _ r20.1,<- e _ r21.1,<- e _ r22.1,<- e _ m0.1,<- e _ m1.1,<- e _ m2.1]
 unfold Go.Proofs.YtjcmfddobaplbaaGreat.keyL;simp only [List.map_cons,List.map_nil,List.zip_cons_cons,List.zip_nil_left,FU,F7,or_false,forall_eq_or_imp,forall_eq];refine ⟨?_,?_,?_,?_,?_,?_,?_,?_,?_,?_,?_,?_,?_,?_,?_⟩ <;> omega
theorem qo {u v:CW} (hp:u.p=v.p) (h:keyL u=keyL v):u=v:=by
 obtain ⟨p,⟨a0,a1,a2⟩,⟨⟨b0,b1,b2⟩,⟨c0,c1,c2⟩,⟨d0,d1,d2⟩⟩,⟨e0,e1,e2⟩⟩:=u;obtain ⟨p',⟨a0',a1',a2'⟩,⟨⟨b0',b1',b2'⟩,⟨c0',c1',c2'⟩,⟨d0',d1',d2'⟩⟩,⟨e0',e1',e2'⟩⟩:=v;simp only [keyL,List.cons.injEq,and_true] at h;obtain ⟨rfl,rfl,rfl,rfl,rfl,rfl,rfl,rfl,rfl,rfl,rfl,rfl,rfl,rfl,rfl⟩:=h;simp only at hp;subst hp
 rfl
end
section
variable {p:List (List CV)} {u:CW}
theorem Iv.ins (hp:PV p) (h:Iv p u) {t:Nat} (ht:t<p.length) (hc:sF u t=true):InR (nU u t):=by
 have hl:=hp.vs.1;have h1:=h.pc t (by omega);unfold sF at hc;rw [h.up] at hc;have hc:=of_decide_eq_true hc;unfold nU;rw [h.up,tnn];exact hp.ins t _ ht (by omega)
theorem A8 (hp:PV p) (h:Iv p u) {t:Nat} (ht:t<p.length) (hc:sF u t=true):CY (bZ ⟨u⟩ t) (· = ⟨wQ u t<|nU u t⟩):=by
 have hl:=hp.vs.1;have hr7:=hp.vs.2 t;have h1:=h.pc t (by omega);have hx:=h.ins hp ht hc;unfold bZ;refine (wU hp h ht).bind λv ⟨e1,e2⟩ => ?_;have e3:=e2<|e1.trans hc;rw [<- e3] at hx ⊢;generalize v.1=x at hx ⊢;obtain ⟨x1,x2,x3,x4,x5,x6⟩:=hx;refine .gdD ⟨by omega,by omega⟩<|.gdY (by simp only [];omega) ?_;refine CY.bind (P:=(· = rI u t x)) ?_ λv4 hv4=>?_
 ·unfold bG rI;refine .bif (λho => .gdD ⟨by omega,by omega⟩<|.gdD ⟨x3,by simp only [];omega⟩<|.pure ?_) λho => .gdY (by simp only [];omega) (.pure ?_)
  ·rw [if_pos (by simpa using ho)]
  rw [if_neg (by simpa using ho)]
 subst hv4;refine CY.bind (P:=λw=>(⟨⟨w.1,w.2.1,w.2.2.1⟩,⟨w.2.2.2.1,w.2.2.2.2.1,w.2.2.2.2.2.1⟩,⟨w.2.2.2.2.2.2.1,w.2.2.2.2.2.2.2.1,w.2.2.2.2.2.2.2.2⟩⟩:Z33)=if rdX x=true then Z33.set u.reg t (Z3b.set (Z33.get u.reg t) x.Reg<|Z3b.get u.mem x.Loc) else u.reg) ?_ λw5 hw5=>?_
 ·refine (zk _).bind λb hb=>?_;have hb':b=rdX x:=hb;refine .bif (λhc => .gdD ⟨x1,by omega⟩<|.gdD ⟨x3,by omega⟩<|.pure ?_) λhc => .pure ?_
  ·rw [if_pos (by rw [<- hb'];exact hc)]
  rw [if_neg (by rw [<- hb',hc];decide)]
 refine CY.bind (P:=λw=>(⟨w.1,w.2.1,w.2.2⟩:Z3b)=if wrX x=true then Z3b.set u.mem x.Loc (rI u t x) else u.mem) ?_ λw10 hw10 => .pure ?_
 ·refine (zL _).bind λb hb=>?_;have hb':b=wrX x:=hb;refine .bif (λhc => .gdD ⟨x1,by omega⟩<|.pure ?_) λhc => .pure ?_
  ·rw [if_pos (by rw [<- hb'];exact hc)]
  rw [if_neg (by rw [<- hb',hc];decide)]
 unfold wQ;rw [hw5,hw10]
theorem Iv.after (h:Iv p u) {t:Nat} (ht:t<3) (hc:sF u t=true) {x:CV} (hx:InR x):Iv p (wQ u t x):=by
 obtain ⟨x1,x2,x3,x4,x5,x6⟩:=hx;obtain ⟨l,hlx⟩:∃ l:Nat,x.Loc=l:=⟨x.Loc.toNat,by omega⟩;obtain ⟨g,hgx⟩:∃ g:Nat,x.Reg=g:=⟨x.Reg.toNat,by omega⟩;unfold sF at hc;rw [h.up] at hc;have hc:=of_decide_eq_true hc;have hvv:0<=rI u t x/\rI u t x<=3:=by
  unfold rI
  split
  ·rw [hgx];exact h.rv t g ht (by omega)
  omega
 unfold wQ;refine ⟨h.up,λi hi=>?_,λt' g' ht' hg' => ?_,λl' hl' => ?_⟩
 ·simp only [];rw [iJ _ _ _ _ (by omega) (by omega)]
  by_cases e:i=t
  ·subst e;have := h.pc i hi;rw [if_pos rfl];omega
  rw [if_neg (by omega)];exact h.pc i hi
 ·simp only []
  split
  ·rw [nS _ _ _ _ (by omega) (by omega)]
   by_cases e:t'=t
   ·subst e;rw [if_pos rfl,hgx,iJ _ _ _ _ (by omega) (by omega)]
    by_cases e2:g'=g
    ·subst e2;rw [if_pos rfl,hlx];exact h.mv l (by omega)
    rw [if_neg (by omega)];exact h.rv t' g' ht' hg'
   rw [if_neg (by omega)];exact h.rv t' g' ht' hg'
  exact h.rv t' g' ht' hg'
 simp only []
 split
 ·rw [hlx,iJ _ _ _ _ (by omega) (by omega)]
  split
  ·exact hvv
  exact h.mv l' hl'
 exact h.mv l' hl'
def v0 (p:List<|List CV):CW:=⟨p,⟨0,0,0⟩,⟨⟨0,0,0⟩,⟨0,0,0⟩,⟨0,0,0⟩⟩,⟨0,0,0⟩⟩
theorem z3 (i:Int):Z3b.get ⟨0,0,0⟩ i=0:=by
 simp only [Z3b.get]
 split <;> (try split) <;> rfl
theorem z33 (i:Int):Z33.get ⟨⟨0,0,0⟩,⟨0,0,0⟩,⟨0,0,0⟩⟩ i=⟨0,0,0⟩:=by
 simp only [Z33.get]
 split <;> (try split) <;> rfl
theorem Iv.start (p:List<|List CV):Iv p (v0 p):=by
 refine ⟨rfl,λt _=>?_,λt g _ _=>?_,λl _=>?_⟩
 ·unfold v0;simp only [z3];omega
 ·unfold v0;simp only [z33,z3];decide
 unfold v0;simp only [z3];decide
theorem lD (hp:PV p) {s0 s:CX} (h0:Iv p s0.values) (h:Rea AY s0 s):Iv p s.values:=by
 induction h with
 | base=>exact h0
 | step _ hm ih=>
  obtain ⟨t,h1,rfl,h2⟩:=gz.1 hm;rw [ih.up] at h1;have hl:=hp.vs.1;exact ih.after (by omega) h2<|ih.ins hp h1 h2
def bas:List Nat:=[8,8,8,4,4,4,4,4,4,4,4,4,4,4,4]
def dig (u:CW):List (Nat×Nat):=((keyL u).map Int.toNat).zip bas
theorem sG (u:CW):(dig u).map (·.2)=bas:=rfl
theorem wV (u:CW):(dig u).map (·.1)=(keyL u).map Int.toNat:=rfl
theorem tZ:∀ l:List (Nat×Nat),uT l=(l.map (·.2)).foldr (· * ·) 1
 | []=>rfl
 | (_,b)::l=>congrArg (b * ·) (tZ l)
theorem ym (u:CW):uT (dig u)=8589934592:=by
 rw [tZ,sG]
 decide
theorem digits (hp:PV p) (h:Iv p u):∀ x∈dig u,x.1<x.2:=by
 obtain ⟨d,h1,_,h2⟩:=h.keyL hp;unfold dig;rw [h1,Gb];have : d.map (Int.toNat ∘ Int.ofNat)=d:=by
  conv=>rhs;rw [<- Gp d]
  exact Gq λ_ _=>rfl
 rw [this];exact h2
theorem zO (hp:PV p) {u v:CW} (hu:Iv p u) (hv:Iv p v) (h:kJ (dig u)=kJ (dig v)):(keyL u).map Int.toNat=(keyL v).map Int.toNat:=by
 rw [<- wV,<- wV,ry (dig u) (dig v) ((sG u).trans (sG v).symm) (digits hp hu) (digits hp hv) h]
theorem pJ (hp:PV p) (h:Iv p u):∀ x∈keyL u,0<=x/\x<=255:=by
 obtain ⟨d,h1,h3,h2⟩:=h.keyL hp;rw [h1];intro x hx;obtain ⟨n,hn,rfl⟩:=FL.1 hx;obtain ⟨j,hj,rfl⟩:=Gz hn;have hz:j<(d.zip [8,8,8,4,4,4,4,4,4,4,4,4,4,4,4]).length:=by simp;omega
 have h4:=h2 _<|FV hz;rw [List.getElem_zip] at h4;have h5:∀ b∈[8,8,8,4,4,4,4,4,4,4,4,4,4,4,4],b<=8:=by decide
 have h6:=h5 _<|FV (l:=[8,8,8,4,4,4,4,4,4,4,4,4,4,4,4]) (n:=j) (by simp;omega);simp only at h4
 constructor
 ·exact Int.natCast_nonneg _
 show ((d[j]:Nat):Int)<=255;omega
theorem yn (hp:PV p) {u v:CW} (hu:Iv p u) (hv:Iv p v) (h:(keyL u).map Int.toNat=(keyL v).map Int.toNat):keyL u=keyL v:=by
 have back:∀ l:LI,(∀ x∈l,0<=x/\x<=255)->(l.map Int.toNat).map Int.ofNat=l:=λl hl=>by
  rw [Gb]
  conv=>rhs;rw [<- Gp l]
  refine Gq λx hx=>?_;exact Int.toNat_of_nonneg (hl x hx).1
 rw [<- back _ (pJ hp hu),<- back _ (pJ hp hv),h]
theorem zP (hp:PV p) {s0:CX} (h0:Iv p s0.values):Mok AY s0 8589934592 where
 key:=λs t hs ht h=>by
  have h1:=lD hp h0 hs;have h2:=lD hp h0 ht;have := qo (h1.up.trans h2.up.symm)<|lC (pJ hp h1) (pJ hp h2) h
  cases s;cases t
  simp only at this;rw [this]
 cnt:=λV hn hV=>by
  have hI:∀ v∈V,Iv p v.values:=λv hv=>lD hp h0<|hV v hv;refine yl (λv=>kJ<|dig v.values) _ V hn (λv hv=>?_) λs hs t ht h=>?_
  ·have := tP _<|digits hp<|hI v hv
   rwa [ym] at this
  have h3:=zO hp (hI s hs) (hI t ht) h;have := qo ((hI s hs).up.trans (hI t ht).up.symm)<|yn hp (hI s hs) (hI t ht) h3
  cases s;cases t
  simp only at this;rw [this]
theorem zQ (hp:PV p) {s0:CX} (h0:Iv p s0.values):Mrt bY bZ bz bA (λs=>aG s.values) AY s0 where
 mv:=λs hs=>AZ hp<|lD hp h0 hs
 af:=λs m hs hm=>by
  have h1:=lD hp h0 hs;obtain ⟨t,h2,rfl,h3⟩:=gz.1 hm;rw [h1.up] at h2;exact A8 hp h1 h2 h3
 ky:=λs hs=>tY s.values
 dn:=λs hs=>A7 hp<|lD hp h0 hs
 oc:=λs hs _=>tX hp<|lD hp h0 hs
 len:=λs hs=>by
  have h1:=tV (u:=s.values) s.values.p.length;have h2:=(lD hp h0 hs).up;have h3:=hp.vs.1;rw [h2] at h1;show (nT s.values).length<=_;unfold nT;rw [h2];omega
theorem ub (u:CW):(wT u).length=3*u.p.length+3:=by
 unfold wT BJ;rw [lla,nX]
 rfl
def yp (p:List<|List CV):LI->Prop:=Ar AY ⟨v0 p⟩
end
def ud {κ α:Type} [DecidableEq κ] (f:κ->α) (k:κ) (v:α):κ->α:=λj=>if j=k then v else f j
section
variable {κ α:Type} [DecidableEq κ]
theorem rA (f:κ->α) (k j:κ) (v:α):ud f k v j=if j=k then v else f j:=rfl
theorem f7 (f:κ->α) (k:κ) (v:α):ud f k v k=v:=if_pos rfl
theorem mN {f:κ->α} {k j:κ} {v:α} (h:j≠k):ud f k v j=f j:=if_neg h
theorem wW (f:κ->α) (k:κ) (v w:α):ud (ud f k v) k w=ud f k w:=by
 funext j;unfold ud;split <;> rfl
theorem wX (f:κ->α) {k j:κ} (v w:α) (h:k≠j):ud (ud f k v) j w=ud (ud f j w) k v:=by
 funext i;unfold ud;split <;> split <;> first | rfl | (exfalso;rename_i h1 h2;exact h<|h2 ▸ h1)
end
inductive Rch {α:Type} (S:α->α->Prop) (a0:α):α->Prop
 | base:Rch S a0 a0
 | step {a b:α} (h:Rch S a0 a) (s:S a b):Rch S a0 b
theorem Rch.inv {α:Type} {S:α->α->Prop} {a0:α} (I:α->Prop) (h0:I a0) (hs:∀ a b,I a->S a b->I b) {a:α} (h:Rch S a0 a):I a:=by
 induction h with
 | base=>exact h0
 | step _ s ih=>exact hs _ _ ih s
theorem Rch.trans {α:Type} {S:α->α->Prop} {a0 a b:α} (h:Rch S a0 a) (k:Rch S a b):Rch S a0 b:=by
 induction k with
 | base=>exact h
 | step _ s ih=>exact ih.step s
structure Bis {σ α:Type} (M:Mac σ) (s0:σ) (S:α->α->Prop) (a0:α) (D:α->Prop) (O:α->List Int) (I:σ->Prop) (A:σ->α):Prop where
 i0:I s0
 h0:A s0=a0
 fw:∀ s m,I s->Rch S a0 (A s)->m∈M.mv s->I (M.af s m)/\S (A s) (A<|M.af s m)
 bw:∀ s b,I s->Rch S a0 (A s)->S (A s) b->∃ m,m∈M.mv s/\A (M.af s m)=b
 dn:∀ s,I s->Rch S a0 (A s)->(M.dn s=true↔D (A s))
 oc:∀ s,I s->Rch S a0 (A s)->M.dn s=true->M.oc s=O (A s)
section
variable {σ α:Type} {M:Mac σ} {s0:σ} {S:α->α->Prop} {a0:α} {D:α->Prop} {O:α->LI} {I:σ->Prop} {A:σ->α}
theorem Bis.rea (B:Bis M s0 S a0 D O I A) {s:σ} (h:Rea M s0 s):I s/\Rch S a0 (A s):=by
 induction h with
 | base=>exact ⟨B.i0,by rw [B.h0];exact .base⟩
 | step _ hm ih=>
  have := B.fw _ _ ih.1 ih.2 hm;exact ⟨this.1,ih.2.step this.2⟩
theorem Bis.back (B:Bis M s0 S a0 D O I A) {a:α} (h:Rch S a0 a):∃ s,Rea M s0 s/\A s=a:=by
 induction h with
 | base=>exact ⟨s0,.base,B.h0⟩
 | step h k ih=>
  obtain ⟨s,h1,rfl⟩:=ih;have h2:=B.rea h1;obtain ⟨m,h3,h4⟩:=B.bw s _ h2.1 h2.2 k;exact ⟨_,.step h1 h3,h4⟩
def Cu (S:α->α->Prop) (a0:α) (D:α->Prop) (O:α->LI) (o:LI):Prop:=∃ a,Rch S a0 a/\D a/\O a=o
theorem Bis.outs (B:Bis M s0 S a0 D O I A) (o:LI):Ar M s0 o↔Cu S a0 D O o:=by
 refine ⟨λ⟨s,h1,h2,h3⟩ => ?_,λ⟨a,h1,h2,h3⟩ => ?_⟩
 ·have h4:=B.rea h1;exact ⟨A s,h4.2,(B.dn s h4.1 h4.2).1 h2,by rw [<- B.oc s h4.1 h4.2 h2,h3]⟩
 obtain ⟨s,h4,rfl⟩:=B.back h1;have h5:=B.rea h4;have h6:=(B.dn s h5.1 h5.2).2 h2;exact ⟨s,h4,h6,by rw [B.oc s h5.1 h5.2 h6,h3]⟩
theorem Bis.mok (B:Bis M s0 S a0 D O I A) {N:Nat} (hk:∀ s t,I s->I t->Rch S a0 (A s)->Rch S a0 (A t)->M.ky s=M.ky t->s=t) (ha:∀ s t,I s->I t->A s=A t->s=t) (hc:∀ V:List α,V.Nodup->(∀ v∈V,Rch S a0 v)->V.length<=N):Mok M s0 N where
 key:=λs t hs ht h=>hk s t (B.rea hs).1 (B.rea ht).1 (B.rea hs).2 (B.rea ht).2 h
 cnt:=λV hn hV=>by
  have := hc (V.map A) ?_ λv hv=>?_
  ·simpa using this
  ·rw [Gx] at hn ⊢;rw [List.pairwise_map];exact hn.imp_of_mem λ{a b} h1 h2 hne e=>hne<|ha a b (B.rea<|hV a h1).1 (B.rea<|hV b h2).1 e
  obtain ⟨s,hs,rfl⟩:=FL.1 hv;exact (B.rea<|hV s hs).2
end
structure TS where
 pc:Nat->Nat
 rg:Nat->Int->Int
 mm:Int->Int
 bf:Nat->Int->List (Int×Int)
def rB (x:CV):Bool:=x.Op==2||x.Op==3
section
variable (P:Nat->List CV) (d:Bool) (cl:Int->Int)
def pK (l:Int) (b:List<|Int×Int) (z:Int):Int:=match b.reverse.find? (λe=>decide<|e.1=l) with
 | some e=>e.2
 | none=>z
def jX (a:TS) (t:Nat) (l:Int):Int:=pK l (a.bf t<|cl l)<|a.mm l
def sH (a:TS) (t:Nat) (x:CV):Int:=if x.Op=3 then a.rg t x.Reg else x.Val
def exT (a:TS) (t:Nat) (x:CV):TS where
 pc:=ud a.pc t<|a.pc t+1
 rg:=if rdX x then ud a.rg t (ud (a.rg t) x.Reg<|jX cl a t x.Loc) else a.rg
 mm:=if wrX x&&(d||x.Op==5) then ud a.mm x.Loc (sH a t x) else a.mm
 bf:=if rB x && !d then ud a.bf t (ud (a.bf t) (cl x.Loc)<|a.bf t (cl x.Loc)++[(x.Loc,sH a t x)]) else a.bf
theorem zm (a:TS) (t:Nat) (x:CV):(exT d cl a t x).rg=if rdX x then ud a.rg t (ud (a.rg t) x.Reg<|jX cl a t x.Loc) else a.rg:=rfl
theorem zn (a:TS) (t:Nat) (x:CV):(exT d cl a t x).mm=if wrX x&&(d||x.Op==5) then ud a.mm x.Loc (sH a t x) else a.mm:=rfl
theorem zo (a:TS) (t:Nat) (x:CV):(exT d cl a t x).bf=if rB x && !d then ud a.bf t (ud (a.bf t) (cl x.Loc)<|a.bf t (cl x.Loc)++[(x.Loc,sH a t x)]) else a.bf:=rfl
def flT (a:TS) (t:Nat) (c:Int) (e:Int×Int) (r:List<|Int×Int):TS:={ a with mm:=ud a.mm e.1 e.2,bf:=ud a.bf t (ud (a.bf t) c r) }
def BZ (a:TS) (t:Nat) (x:CV):Prop:=(P t)[a.pc t]? = some x/\(x.Op=4\/x.Op=5->∀ c,a.bf t c=[])
inductive StT:TS->TS->Prop
 | ex {a:TS} {t:Nat} {x:CV} (h:BZ P a t x):StT a (exT d cl a t x)
 | fl {a:TS} {t:Nat} {c:Int} {e:Int×Int} {r:List (Int×Int)} (h:a.bf t c=e::r):StT a (flT a t c e r)
def a0T:TS:=⟨λ_=>0,λ_ _=>0,λ_=>0,λ_ _=>[]⟩
def DnT (a:TS):Prop:=(∀ t,(P t).length<=a.pc t)/\∀ t c,a.bf t c=[]
def outT (n:Nat) (a:TS):LI:=((FJ n).flatMap λt=>(FJ 3).map λg:Nat=>a.rg t g)++(FJ 3).map λl:Nat=>a.mm l
def BL (n:Nat):LI->Prop:=Cu (StT P d cl) a0T (DnT P)<|outT n
end
section
variable {P:Nat->List CV} {d:Bool} {cl:Int->Int}
theorem TS.ext {a b:TS} (h1:a.pc=b.pc) (h2:a.rg=b.rg) (h3:a.mm=b.mm) (h4:a.bf=b.bf):a=b:=by
 cases a;cases b;simp only at h1 h2 h3 h4;subst h1 h2 h3 h4;rfl
theorem zR {x:CV} (h:rB x=true):rdX x=false/\wrX x=true/\x.Op≠4/\x.Op≠5:=by
 unfold rB at h;unfold rdX wrX;rcases Bool.or_eq_true _ _ ▸ h with h | h <;> (have:=eq_of_beq h;rw [this];decide)
theorem zS {a:TS} (h:Rch (StT P true cl) a0T a):∀ t c,a.bf t c=[]:=
 h.inv (λa=>∀ t c,a.bf t c=[]) (λ_ _=>rfl) λa b ha hs=>by
  cases hs with
  | ex h=>simpa [exT] using ha
  | fl h=>rw [ha] at h;cases h
theorem zT {cl':Int->Int} {a:TS} (h:Rch (StT P true cl) a0T a):Rch (StT P false cl') a0T a:=by
 have hh:=h
 induction h with
 | base=>exact .base
 | @step a b h s ih=>
  have hn:=zS h;have ih:=ih h
  cases s with
  | fl h=>rw [hn] at h;cases h
  | @ex t x hc=>
   have hs:∀ l,jX cl a t l=jX cl' a t l:=λl=>by unfold jX;rw [hn,hn]
   cases hx:rB x with
   | false=>
    have : exT true cl a t x=exT false cl' a t x:=by
     unfold exT;rw [hx,hs];refine TS.ext rfl rfl ?_ rfl;have : (wrX x&&(true||x.Op==5))=(wrX x&&(false||x.Op==5)):=by
      unfold rB at hx;unfold wrX
      cases h1:x.Op==2 <;> cases h2:x.Op==3 <;> simp_all
     simp only [this]
    rw [this];exact ih.step<|.ex hc
   | true=>
    obtain ⟨h1,h2,h3,h4⟩:=zR hx;have h5:(x.Op==5)=false:=by simpa using h4
    have h6:=ih.step<|.ex (d:=false) (cl:=cl') hc;have h7:(exT false cl' a t x).bf t (cl' x.Loc)=(x.Loc,sH a t x)::[]:=by
     simp [exT,hx,f7,hn]
    have h8:=h6.step<|.fl h7;have : exT true cl a t x=flT (exT false cl' a t x) t (cl' x.Loc) (x.Loc,sH a t x) []:=by
     refine TS.ext rfl ?_ ?_ ?_
     ·simp [exT,flT,h1]
     ·simp [exT,flT,h2,h5]
     funext t' c'
     have e1:(exT true cl a t x).bf=a.bf:=by simp [exT]
     rw [e1,hn];simp only [exT,flT,hx,Bool.not_false,Bool.and_true,if_true,wW,f7];unfold ud
     split
     ·show []=if c'=cl' x.Loc then [] else a.bf t c'
      split
      ·rfl
      rw [hn]
     rw [hn]
    rw [this];exact h8
theorem yt {cl':Int->Int} {n:Nat} {o:LI} (h:BL P true cl n o):BL P false cl' n o:=by
 obtain ⟨a,h1,h2,h3⟩:=h;exact ⟨a,zT h1,h2,h3⟩
end
theorem uU {α β:Type} {f:α->List β} {m:Nat}:∀ {l:List α},(∀ x∈l,(f x).length<=m)->(l.flatMap f).length<=l.length*m
 | [],_=>by simp
 | x::l,h=>by
  have h1:=h x FK;have h2:=uU (l:=l) λy hy=>h y<|FY _ hy;rw [List.flatMap_cons,lla,llc,F3,Nat.one_mul];omega
theorem wY {α:Type} {V l:List α} (hn:V.Nodup) (h:∀ v∈V,v∈l):V.length<=l.length:=Gy hn h
abbrev LSt:=(Int->Int)×(Int->List (Int×Int))
def l0:LSt:=(λ_=>0,λ_=>[])
def CF (s:LSt) (x:CV):Int:=if x.Op=3 then s.1 x.Reg else x.Val
section
variable (cl:Int->Int)
def lsx (x:CV) (s:LSt):List LSt:=
 if rdX x then [(ud s.1 x.Reg 0,s.2),(ud s.1 x.Reg 1,s.2),(ud s.1 x.Reg 2,s.2),(ud s.1 x.Reg 3,s.2)]
 else if rB x then [(s.1,ud s.2 (cl x.Loc)<|s.2 (cl x.Loc)++[(x.Loc,CF s x)]),(s.1,ud s.2 (cl x.Loc) [])]
 else [s]
def LSn (l:List CV):Nat->List LSt
 | 0=>[l0]
 | k+1=>(LSn l k).flatMap (lsx cl<|l.getD k default)
def evN (l:List CV):Nat:=l.countP λx=>x.Op != 4
variable {cl}
theorem zU (x:CV) (s:LSt):(lsx cl x s).length<=4 ^ evN [x]:=by
 unfold lsx evN rdX rB
 by_cases h:x.Op=4
 ·simp [h]
 have : (x.Op != 4)=true:=by simpa using h
 rw [List.countP_cons_of_pos (p:=λx:CV=>x.Op != 4) this]
 split
 ·simp
 split <;> simp
theorem wZ {l:List CV}:∀ {k:Nat},k<=l.length->(LSn cl l k).length<=4 ^ evN (l.take k)
 | 0,_=>by simp [LSn,evN]
 | k+1,h=>by
  have h1:=wZ (l:=l) (k:=k) (by omega);have h2:=uU (f:=lsx cl<|l.getD k default) (l:=LSn cl l k) λs _=>zU _ s;have h3:evN (l.take<|k+1)=evN (l.take k)+evN [l.getD k default]:=by
   unfold evN;rw [F6,List.countP_append,geq (by omega)];simp [List.getD,show k<l.length by omega]
  rw [h3,Nat.pow_add];exact FX h2<|FN _ h1
theorem yu (l:List CV) (k:Nat):evN (l.take k)<=evN l:=(List.take_sublist k l).countP_le
theorem pO {l:List CV} {c:Int} {e:Int×Int}:∀ {k:Nat} {s:LSt} {r:List (Int×Int)},s∈LSn cl l k->s.2 c=e::r->(s.1,ud s.2 c r)∈LSn cl l k
 | 0,s,r,h,hc=>by
  obtain rfl:=FH.1 h
  cases hc
 | k+1,s,r,h,hc=>by
  obtain ⟨u,hu,hs⟩:=FQ.1 h;refine FQ.2 ?_;unfold lsx at hs ⊢
  split at hs
  ·have h2:s.2=u.2:=by
    simp only [FU,F7,or_false] at hs;rcases hs with rfl | rfl | rfl | rfl <;> rfl
   rename_i hr;have := pO (s:=u) hu<|h2 ▸ hc;refine ⟨_,this,?_⟩;rw [if_pos hr];simp only [FU,F7,or_false] at hs ⊢;rcases hs with rfl | rfl | rfl | rfl <;> simp
  rename_i hr
  split at hs
  ·rename_i ht;simp only [FU,F7,or_false] at hs;rcases hs with rfl | rfl
   ·by_cases g:c=cl (l.getD k default).Loc
    ·subst g;simp only [f7] at hc
     cases hb:u.2 (cl (l.getD k default).Loc) with
     | nil=>
      rw [hb] at hc;injection hc with _ hc;refine ⟨u,hu,?_⟩;rw [if_neg hr,if_pos ht,<- hc,wW];simp
     | cons e0 r0=>
      rw [hb] at hc;injection hc with h1 hc;refine ⟨_,pO hu hb,?_⟩;rw [if_neg hr,if_pos ht];simp only [f7,wW];rw [<- hc];exact FK
    simp only [mN g] at hc;refine ⟨_,pO hu hc,?_⟩;rw [if_neg hr,if_pos ht];simp only [];rw [mN λe=>g e.symm,wX _ _ _ g];exact FK
   by_cases g:c=cl (l.getD k default).Loc
   ·subst g;simp only [f7] at hc
    cases hc
   simp only [mN g] at hc;refine ⟨_,pO hu hc,?_⟩;rw [if_neg hr,if_pos ht];simp only [];rw [show ud (ud u.2 (cl (l.getD k default).Loc) []) c r=ud (ud u.2 c r) (cl (l.getD k default).Loc) [] from wX _ _ _ λe=>g e.symm];exact FY _ FK
  rename_i ht;obtain rfl:=FH.1 hs;refine ⟨_,pO hu hc,?_⟩;rw [if_neg hr,if_neg ht];exact FK
end
def VlL (s:LSt):Prop:=(∀ g,0<=s.1 g/\s.1 g<=3)/\∀ c e,e∈s.2 c->(0<=e.1/\e.1<=2)/\0<=e.2/\e.2<=3
section
variable {P:Nat->List CV} {cl:Int->Int}
structure InT (P:Nat->List CV) (cl:Int->Int) (a:TS):Prop where
 ls:∀ t,(a.rg t,a.bf t)∈LSn cl (P t) (a.pc t)
 vl:∀ t,VlL (a.rg t,a.bf t)
 pc:∀ t,a.pc t<=(P t).length
 mm:∀ l,0<=a.mm l/\a.mm l<=3
 m0:∀ l,¬ (0<=l/\l<=2)->a.mm l=0
theorem w6 {l z:Int} {b:List (Int×Int)}:pK l b z=z\/∃ e∈b,pK l b z=e.2:=by
 unfold pK
 cases h:b.reverse.find? λe=>decide (e.1=l) with
 | none=>exact .inl rfl
 | some e=>exact .inr ⟨e,List.mem_reverse.1<|List.mem_of_find?_eq_some h,rfl⟩
theorem InT.start:InT P cl a0T:=⟨λ_=>FK,λ_=>⟨λ_=>⟨FI _,by show (0:Int)<=3;decide⟩,λ_ _ h=>by cases h⟩,λ_=>Nat.zero_le _,λ_=>⟨FI _,by show (0:Int)<=3;decide⟩,λ_ _=>rfl⟩
theorem InT.seen {a:TS} (h:InT P cl a) (t:Nat) (l:Int):0<=jX cl a t l/\jX cl a t l<=3:=by
 unfold jX;rcases w6 (l:=l) (z:=a.mm l) (b:=a.bf t<|cl l) with e | ⟨x,hx,e⟩
 ·rw [e];exact h.mm l
 rw [e];exact ((h.vl t).2 _ _ hx).2
theorem InT.val {a:TS} (h:InT P cl a) (t:Nat) {x:CV} (hx:InR x):0<=sH a t x/\sH a t x<=3:=by
 unfold sH
 split
 ·exact (h.vl t).1 _
 exact ⟨hx.2.2.2.2.1,hx.2.2.2.2.2⟩
theorem InT.step (hP:∀ (t k:Nat) (x:CV),(P t)[k]? = some x->InR x) {a b:TS} (h:InT P cl a) (s:StT P false cl a b):InT P cl b:=by
 cases s with
 | @ex t x hc=>
  have hx:=hP _ _ _ hc.1;have hs:=h.seen t x.Loc;have hv:=h.val t hx;obtain ⟨hk,he⟩:=ges hc.1;have hg:(P t).getD (a.pc t) default=x:=by simp [List.getD,hc.1]
  refine ⟨λu=>?_,λu=>?_,λu=>?_,λl=>?_,λl hl=>?_⟩
  ·by_cases hu:u=t
   ·subst hu;have hl:=h.ls u;simp only [exT,f7];refine FQ.2 ⟨_,hl,?_⟩;rw [hg];unfold lsx
    cases hr:rdX x with
    | true=>
     have hn:rB x=false:=by
      cases e:rB x with
      | false=>rfl
      | true=>rw [(zR e).1] at hr;cases hr
     rw [hn];simp only [if_true,Bool.false_and,Bool.false_eq_true,if_false,f7,FU,F7,or_false];have : jX cl a u x.Loc=0\/jX cl a u x.Loc=1\/jX cl a u x.Loc=2\/jX cl a u x.Loc=3:=by omega
     rcases this with e | e | e | e <;> rw [e] <;> simp
    | false=>
     simp only [Bool.false_eq_true,if_false]
     cases ht:rB x with
     | false=>simp
     | true=>
      simp only [if_true,Bool.true_and,Bool.not_false,f7];exact FK
   simp only [exT,mN hu];have hl:=h.ls u;have e1:(if rdX x=true then ud a.rg t (ud (a.rg t) x.Reg<|jX cl a t x.Loc) else a.rg) u=a.rg u:=by split <;> simp [mN hu]
   have e2:(if (rB x && !false)=true then ud a.bf t (ud (a.bf t) (cl x.Loc)<|a.bf t (cl x.Loc)++[(x.Loc,sH a t x)]) else a.bf) u=a.bf u:=by split <;> simp [mN hu]
   rw [e1,e2];exact hl
  ·have hl:=h.vl u
   by_cases hu:u=t
   ·subst hu;refine ⟨λg=>?_,λc e he=>?_⟩
    ·simp only [exT]
     split
     ·rw [f7];unfold ud
      split
      ·exact hs
      exact hl.1 g
     exact hl.1 g
    simp only [exT] at he
    split at he
    ·rw [f7] at he;unfold ud at he
     split at he
     ·rcases FP.1 he with he | he
      ·exact hl.2 _ _ he
      rw [FH.1 he];exact ⟨⟨hx.1,hx.2.1⟩,hv⟩
     exact hl.2 _ _ he
    exact hl.2 _ _ he
   have e1:(exT false cl a t x).rg u=a.rg u:=by simp only [exT];split <;> simp [mN hu]
   have e2:(exT false cl a t x).bf u=a.bf u:=by simp only [exT];split <;> simp [mN hu]
   rw [e1,e2];exact hl
  ·simp only [exT,ud]
   split
   ·rename_i e;subst e;omega
   exact h.pc u
  ·simp only [exT]
   split
   ·unfold ud
    split
    ·exact hv
    exact h.mm l
   exact h.mm l
  simp only [exT]
  split
  ·rw [mN λe=>hl (by rw [e];exact ⟨hx.1,hx.2.1⟩)];exact h.m0 l hl
  exact h.m0 l hl
 | @fl t c e r hb=>
  have he:=(h.vl t).2 c e (by show e∈a.bf t c;rw [hb];exact FK);refine ⟨λu=>?_,λu=>?_,h.pc,λl=>?_,λl hl=>?_⟩
  ·by_cases hu:u=t
   ·subst hu;simp only [flT,f7];exact pO (h.ls u) hb
   simp only [flT,mN hu];exact h.ls u
  ·have hl:=h.vl u
   by_cases hu:u=t
   ·subst hu;refine ⟨hl.1,λc' e' he' => ?_⟩;simp only [flT,f7] at he';unfold ud at he'
    split at he'
    ·exact hl.2 c e' (by show e'∈a.bf u c;rw [hb];exact FY _ he')
    exact hl.2 _ _ he'
   simp only [flT,mN hu];exact hl
  ·simp only [flT,ud]
   split
   ·exact he.2
   exact h.mm l
  simp only [flT];rw [mN λe=>hl (by rw [e];exact he.1)];exact h.m0 l hl
theorem InT.of (hP:∀ (t k:Nat) (x:CV),(P t)[k]? = some x->InR x) {a:TS} (h:Rch (StT P false cl) a0T a):InT P cl a:=
 h.inv _ .start λ_ _ h s=>h.step hP s
def Lt (P:Nat->List CV) (cl:Int->Int) (t:Nat):List (Nat×LSt):=(FJ<|(P t).length+1).flatMap λk=>(LSn cl (P t) k).map λs=>(k,s)
theorem w9 (h7:∀ t,(P t).length<=7) (t:Nat):(Lt P cl t).length<=8*4 ^ evN (P t):=by
 have := uU (f:=λk=>(LSn cl (P t) k).map λs=>(k,s)) (l:=FJ<|(P t).length+1) (m:=4 ^ evN (P t)) λk hk=>by
  have hk:=F5.1 hk;rw [llm];exact FX (wZ<|by omega)<|GA (by decide)<|yu _ _
 rw [List.length_range] at this;exact FX this<|FN _ (by have := h7 t;omega)
def m3:List (Int×Int×Int):=[0,1,2,3].flatMap λa=>[0,1,2,3].flatMap λb=>[0,1,2,3].map λc=>(a,b,c)
theorem Ba {a b c:Int} (ha:0<=a/\a<=3) (hb:0<=b/\b<=3) (hc:0<=c/\c<=3):(a,b,c)∈m3:=by
 have h:∀ x:Int,0<=x/\x<=3->x∈([0,1,2,3]:LI):=λx hx=>by
  have : x=0\/x=1\/x=2\/x=3:=by omega
  rcases this with rfl | rfl | rfl | rfl <;> decide
 exact FQ.2 ⟨a,h a ha,FQ.2 ⟨b,h b hb,FL.2 ⟨c,h c hc,rfl⟩⟩⟩
def Bb {α:Type} (a b c z:α) (t:Nat):α:=if t=0 then a else if t=1 then b else if t=2 then c else z
def mkT (a b c:Nat×LSt) (m:Int×Int×Int):TS where
 pc t:=(Bb a b c (0,l0) t).1
 rg t:=(Bb a b c (0,l0) t).2.1
 mm l:=if l=0 then m.1 else if l=1 then m.2.1 else if l=2 then m.2.2 else 0
 bf t:=(Bb a b c (0,l0) t).2.2
theorem CG (hP:∀ (t k:Nat) (x:CV),(P t)[k]? = some x->InR x) (h3:∀ t,3<=t->P t=[]) (h7:∀ t,(P t).length<=7) (he:evN (P 0)+evN (P 1)+evN (P 2)<=12) (V:List TS) (hn:V.Nodup) (hV:∀ v∈V,Rch (StT P false cl) a0T v):V.length<=549755813888:=by
 have hs:=wY hn (l:=(Lt P cl 0).flatMap λa=>(Lt P cl 1).flatMap λb=>(Lt P cl 2).flatMap λc=>m3.map<|mkT a b c) λv hv=>?_
 ·have l2:=w9 (cl:=cl) h7 2;have l1:=w9 (cl:=cl) h7 1;have l0:=w9 (cl:=cl) h7 0;have k2:∀ a b,((Lt P cl 2).flatMap λc=>m3.map<|mkT a b c).length<=8*4 ^ evN (P 2)*64:=λa b=>FX (uU (m:=64) λ_ _=>by rw [llm];decide) (FN _ l2);have k1:∀ a,((Lt P cl 1).flatMap λb=>(Lt P cl 2).flatMap λc=>m3.map<|mkT a b c).length<=8*4 ^ evN (P 1)*(8*4 ^ evN (P 2)*64):=λa=>FX (uU λb _=>k2 a b)<|FN _ l1;have k0:=FX (uU (l:=Lt P cl 0) λa _=>k1 a)<|FN _ l0;have e:8*4 ^ evN (P 0)*(8*4 ^ evN (P 1)*(8*4 ^ evN (P 2)*64))=32768*4 ^ (evN (P 0)+evN (P 1)+evN (P 2)):=by
   rw [Nat.pow_add,Nat.pow_add];generalize 4 ^ evN (P 0)=x;generalize 4 ^ evN (P 1)=y;generalize 4 ^ evN (P 2)=z;have : 8*x*(8*y*(8*z*64))=32768*(x*y*z):=by
    simp only [Nat.mul_assoc,Nat.mul_left_comm,F8]
   exact this
  rw [e] at k0;have h4:4 ^ (evN (P 0)+evN (P 1)+evN (P 2))<=4 ^ 12:=GA (by decide) he;have h5:(4:Nat) ^ 12=16777216:=by decide
  omega
 have hi:=InT.of hP<|hV v hv;have hm:∀ t,(v.pc t,v.rg t,v.bf t)∈Lt P cl t:=λt=>FQ.2 ⟨v.pc t,F5.2 (by have := hi.pc t;omega),FL.2 ⟨_,hi.ls t,rfl⟩⟩;refine FQ.2 ⟨_,hm 0,FQ.2 ⟨_,hm 1,FQ.2 ⟨_,hm 2,FL.2 ⟨(v.mm 0,v.mm 1,v.mm 2),Ba (hi.mm 0) (hi.mm 1)<|hi.mm 2,?_⟩⟩⟩⟩;have hsel:∀ t,Bb (v.pc 0,v.rg 0,v.bf 0) (v.pc 1,v.rg 1,v.bf 1) (v.pc 2,v.rg 2,v.bf 2) (0,l0) t=(v.pc t,v.rg t,v.bf t):=λt=>by
  unfold Bb
  split
  ·rename_i h;rw [h]
  split
  ·rename_i h;rw [h]
  split
  ·rename_i h;rw [h]
  have h0:=h3 t (by omega);have h1:=hi.pc t;have h2:=hi.ls t;rw [h0] at h1 h2;have h1:v.pc t=0:=by simpa using h1
  rw [h1] at h2 ⊢;rw [FH.1 h2]
 unfold mkT;refine TS.ext ?_ ?_ ?_ ?_
 ·funext t;simp only [hsel]
 ·funext t;simp only [hsel]
 ·funext l
  simp only []
  split
  ·rename_i h;rw [h]
  split
  ·rename_i h;rw [h]
  split
  ·rename_i h;rw [h]
  exact (hi.m0 l<|by omega).symm
 funext t;simp only [hsel]
end
end
end Go.Proofs.YtjcmfddobaplbaaGreat
