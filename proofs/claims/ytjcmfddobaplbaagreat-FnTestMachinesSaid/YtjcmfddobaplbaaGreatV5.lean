/- Texts joined. No conditions. -/
import Derived.Test.YtjcmfddobaplbaaGreatV4
namespace Go.Proofs.YtjcmfddobaplbaaGreat
noncomputable section
open _root_.Option renaming bind -> LM
open _root_.List renaming mem_singleton -> LN, length_singleton -> LO, mem_append_left -> LP, mem_append -> LU, replicate -> LV, mem_append_right -> LW, mem_map -> LX, mem_of_getElem? -> LY, getElem?_set_self -> LZ, mem_cons_self -> L6, getElem_mem -> L8, getElem?_cons_zero -> Mb, pairwise_cons -> Mc, take_add_one -> Md, length_take -> Mg, getElem?_take -> Mh, getElem?_set_ne -> Mi, nil_append -> Mj, mem_cons_of_mem -> Ml, getElem?_of_mem -> Mq, eq_nil_of_length_eq_zero -> Mt
open _root_.Int renaming le_refl -> LQ
open _root_.Nat renaming le_refl -> LR, mul_le_mul_right -> L9, add_mul -> Ma, mul_comm -> Me, mod_eq_of_lt -> Mf, lt_or_ge -> Mk
open _root_.Array renaming length_toList -> Mm, getElem?_toList -> Mo, mem_of_getElem? -> Mr, getElem?_eq_getElem -> Mv
open Go.RowKit
set_option maxRecDepth 100000
section
variable {P:Program} {H:AH} {s:Nat} {o:Oper} {ρ:Operand->AV}
theorem Bt {e:TypeId} {i:TypeInfo} {z:Value} (w:World) (hi:P.info? e=some i) (hz:i.zero=some z):(zeroValue e).run P w = .ok z w:=by simp [zeroValue,typeInfo,hi,hz]
theorem Bu {cl:Call} {x:Operand} {t e:TypeId} {b ver off len:Nat} {k:ABlk} {z:Value} {zr:List AV} (ho:o.op = .call cl) (h1:cl.callee = .builtin .clear) (h2:cl.args.toList=[x]) (h3:cl.argTypes.toList=[t])
  (ht:P.underlying t=some (.slice e)) (hz:(P.info? e).bind (·.zero)=some z) (hz1:iP z.cells=true) (hzs:z.cells.size=s) (hzr:zr.length=s) (hzc:∀ (c:Cx) (j:Nat) (a:AV),zr[j]? = some a->∃ u,z.cells[j]? = some u/\c.rel a u)
  (hx:ρ x = .hs b ver s off len) (hb:H[b]? = some (some k)) (hv:k.ver=ver) (hs:k.s=s) (hoff:off+len<=k.rows.length) :
  Jc P o ρ H .top (H.set b<|some { k with rows:=k.rows.take off++(LV len zr).take len++k.rows.drop (off+len) }):=by
 intro c a K Q hH hr hxs hK;obtain ⟨callee,args,ts⟩:=cl;simp only at h1 h2 h3;obtain rfl:args = #[x]:=by cases args;simp_all
 obtain rfl:ts = #[t]:=by cases ts;simp_all
 subst h1;have hx1:=hx ▸ hxs x (by rw [ho];simp [Op.operands,Call.operands]);generalize hn:len=n at hK ⊢;generalize hnews:LV n zr=news at hK ⊢;have hrl:∀ (i:Nat) (row:List AV),news[i]? = some row->row.length=s:=λi row h=>by
  rw [<- hnews] at h;have := LY h;rw [List.mem_replicate] at this;rw [this.2,hzr]
 have hnl0:news.length=n:=by rw [<- hnews,List.length_replicate]
 have hone:∀ v∈z.cells,v.oneCell'=true:=by
  rw [n9,Array.all_eq_true_iff_forall_mem] at hz1;exact hz1
 generalize hvs:(Builtin.zeroCells z.cells n).toList=vs;have hvl:vs.length=n*s:=by rw [<- hvs,Mm,di,hzs]
 have hvget:∀ i j,i<n->j<s->vs[i*s+j]? = z.cells[j]? := λi j hi hj=>by
  have hfit:i*s+j<n*s:=by
   have : (i+1)*s<=n*s:=L9 _ (by omega);rw [Ma] at this;omega
  rw [<- hvs,Mo];unfold Builtin.zeroCells;rw [hzs];have := qY z.cells (n*s) (i*s+j) hfit (by omega);rw [hzs] at this;rw [this,Me i s,Nat.mul_add_mod,Mf hj]
 have hv1:∀ v∈vs,v.oneCell'=true:=λv hm=>by
  obtain ⟨q,hq⟩:=Mq hm;have hq':=(ges hq).1;rw [hvl] at hq';have hs0:0<s:=Nat.pos_of_ne_zero λh=>by rw [h,Nat.mul_zero] at hq';omega
  have e1:q=q / s*s+q % s:=by rw [Me];exact (Nat.div_add_mod q s).symm
  rw [e1,hvget (q / s) (q % s) (Nat.div_lt_of_lt_mul<|by rw [Me];exact hq') (Nat.mod_lt _ hs0)] at hq;exact hone v<|Mr hq
 have hvr:∀ (i:Nat) (row:List AV) (j:Nat) (a:AV),(news.take n)[i]? = some row->row[j]? = some a->∃ u,vs[i*s+j]? = some u/\u.oneCell'=true/\c.rel a u:=λi row j a hi hj=>by
  have hin:i<n:=by
   have := (ges hi).1;rw [Mg] at this;omega
  rw [Mh,if_pos hin,<- hnews] at hi;have := LY hi;rw [List.mem_replicate] at this;rw [this.2] at hj;have hjs:j<s:=by rw [<- hzr];exact (ges hj).1
  obtain ⟨u,g1,g2⟩:=hzc c j a hj;exact ⟨u,by rw [hvget i j hin hjs];exact g1,hone u<|Mr g1,g2⟩
 have hl:c.live b k:=by unfold Cx.live;rw [hH];exact hb
 generalize hux:a.eval x=ux at hx1
 cases hx1 with
 | fr h=>cases h
 | @hs _ _ _ _ _ cap A hbn hcl hcm h0 hh=>
  obtain ⟨cur,fr,hB⟩:=hr.blk b k hl;obtain ⟨fr,rfl,hat,hd⟩:=hB.cells hl λx hx=>(hh x<|hv ▸ hx).1.trans hs.symm;rw [hv] at hd;obtain ⟨_,_,hA,hcf⟩:=hh _ hd;simp only at hA hcf;have hexec:∀ w',(n=0/\w'=c.w)\/(∃ ad,A=some ad/\0<n/\(storeCells ad vs).run P c.w = .ok () w')->(execOp a.eval o).run P c.w = .ok (.value<|.tuple #[]) w':=λw' hw=>by
   have e1:(Builtin.clear_ #[t] o.type #[.slice A len cap]).run P c.w = .ok (.tuple #[]) w':=by
    obtain ⟨inf,h5,h6⟩:=Option.bind_eq_some_iff.1 hz;rcases hw with ⟨h0',rfl⟩ | ⟨ad,rfl,hp,hst⟩
    ·rw [hn,h0']
     cases A <;> simp [Builtin.clear_,Sem.run_bind,ay ht]
    obtain ⟨q,rfl⟩:∃ q,n=q+1:=⟨n-1,by omega⟩;rw [hn];simp [Builtin.clear_,Sem.run_bind,ay ht,Bt c.w h5 h6,hvs,hst]
   simp [execOp,ho,resolve,invoke,builtin,hux,e1]
  unfold Oper.wp;rcases Nat.eq_zero_or_pos n with h00 | hpos
  ·-- nothing is copied
   have hv0:vs=[]:=Mt (by rw [hvl,h00,Nat.zero_mul]);have hk0:({ k with rows:=k.rows.take off++news.take n++k.rows.drop (off+n) }:ABlk)=k:=by
    rw [h00];simp
   rw [hexec c.w (.inl ⟨h00,rfl⟩)];refine hK _ c ?_ hr (Ext.refl c) .top;rw [hk0,uR H b _ hb,hH]
  have h0':0<cap:=by omega
  obtain rfl:=hA h0';have hfit:=hB.fits;have hsp:=hB.pos;have hle:(c.φ b).2+off*s+vs.length<=cur.toList.length:=by
   have h5:(off+len)*s<=k.rows.length*s:=L9 _ hoff;have h6:n*s<=len*s:=L9 _ (by omega);rw [Ma] at h5;have hct:cur.toList.length=cur.size:=Mm;rw [hs] at hfit;rw [hvl,hct];omega
  have hst:=dh (P:=P) (c.φ b).1 ((c.φ b).2+off*s) k.ty fr vs 0 cur c.w hat (hB.fre fr rfl) (by simpa using hle) hv1;rw [Nat.add_zero] at hst;have hg2:=λq=>lw cur.toList _ _ hle q;have hs2:=kz cur.toList _ _ hle;generalize hcs2:(cur.toList.take ((c.φ b).2+off*s)++vs++cur.toList.drop ((c.φ b).2+off*s+vs.length))=ls at *;have hsz2:ls.toArray.size=cur.size:=by simpa using hs2
  have hget:∀ q,ls.toArray[q]? = if (c.φ b).2+off*s<=q/\q<(c.φ b).2+off*s+vs.length then vs[q-((c.φ b).2+off*s)]? else cur[q]? := λq=>by
   rw [List.getElem?_toArray,hg2,Mo (xs:=cur)]
  have hrl2:(k.rows.take off++news.take n++k.rows.drop (off+n)).length=k.rows.length:=by
   simp only [lla,Mg,List.length_drop];omega
  have hrow:∀ (i:Nat) (row:List AV),(k.rows.take off++news.take n++k.rows.drop (off+n))[i]? = some row->(off<=i/\i<off+n/\news[i-off]? = some row)\/((i<off\/off+n<=i)/\k.rows[i]? = some row):=λi row h=>by
   have hnl:(news.take n).length=n:=by simp;omega
   have e:=lw k.rows off (news.take n) (by rw [hnl];omega) i;rw [hnl] at e;rw [e] at h
   split at h
   ·rename_i h2;refine .inl ⟨h2.1,h2.2,?_⟩;rw [Mh,if_pos (by omega)] at h;exact h
   rename_i h2;exact .inr ⟨by omega,h⟩
  have hlen2:∀ (i:Nat) (row:List AV),(k.rows.take off++news.take n++k.rows.drop (off+n))[i]? = some row->row.length=k.s:=λi row h=>by
   rcases hrow i row h with ⟨_,_,h2⟩ | ⟨_,h2⟩
   ·rw [hrl _ row h2,hs]
   exact hB.len i row h2
  have hext:=Cx.upd_ext (k:={ k with rows:=k.rows.take off++news.take n++k.rows.drop (off+n) }) (o:=(c.φ b).2) (cs:=ls.toArray) hr hl hB hsz2 (.inl ⟨rfl,rfl,hrl2,rfl⟩);have hrel:=Cx.upd_rel (k:={ k with rows:=k.rows.take off++news.take n++k.rows.drop (off+n) }) (o:=(c.φ b).2) (cs:=ls.toArray) hr hl hB hsz2 rfl hext hsp (by simp only;rw [hrl2,hsz2];exact hfit) hlen2 (λi row j a' h h'=>by
   have hj:j<s:=by
    have := (ges h').1;rw [hlen2 i row h,hs] at this;exact this
   simp only;rw [hget,hs,hvl];rcases hrow i row h with ⟨g1,g2,g3⟩ | ⟨g1,g3⟩
   ·have hf:=mR (s:=s) (show i-off<n by omega) (j:=j+1) hj;have e:i*s=(i-off)*s+off*s:=by
     rw [<- Ma]
     congr 1
     omega
    rw [if_pos (by omega)];obtain ⟨u',q1,q2,q3⟩:=hvr (i-off) row j a' (by rw [Mh,if_pos (by omega)];exact g3) h';refine ⟨u',?_,q2,q3⟩;rw [<- q1]
    congr 1
    omega
   have hi':=(ges g3).1;rw [if_neg (λhq=>?_)]
   ·have := hB.rel i row j a' g3 h';rw [hs] at this;exact this
   rcases g1 with g1 | g1
   ·have hf:=mR (s:=s) g1 (j:=j+1) hj;omega
   have hf:(off+n)*s<=i*s:=L9 _ g1;rw [Ma] at hf;omega)
  rw [hexec _ (.inr ⟨_,rfl,hpos,hst⟩)];exact hK _ _ (by rw [<- hH];rfl) hrel hext .top
variable {α:Type} {c:α->List AV} {l:List α} {x y:Operand} {t e:TypeId} {ag:Bool} {w m b ver off len:Nat} {zs:List AV}
def ZrR (zs zr:List AV):Prop:=zr.length=zs.length/\∀ (cx:Cx) (j:Nat) (a a':AV) (v:Value),zs[j]? = some a->zr[j]? = some a'->cx.rel a v->cx.rel a' v
theorem zO {β:Type} [Inhabited β] {f:β->List AV} {cx:Cx} {v:Value} (h:cx.rel .nil v):cx.rel (eL f ([]:List β)) v:=by
 obtain rfl:=dQ h;exact .fr<|.sl (s:=1) (g:=0) (o:=0) (λ_ _ => .bool false) (LR _) (by decide) (λh=>absurd h<|by simp) (λi h=>absurd h<|by simp) (λi j a h=>absurd h<|by simp) (λi j a h=>absurd h<|by simp) λi j a h=>absurd h (by simp)
theorem zrN {β:Type} [Inhabited β] {f:β->List AV}:ZrR [.nil] [eL f ([]:List β)]:=⟨rfl,λcx j a a' v h h' hr=>by
 match j with
 | 0=>
  obtain rfl:=osl h;obtain rfl:=osl h';exact zO hr
 | j+1=>simp at h⟩
theorem Jf.ixP {k:IntKind} {i:Int} {n lo:Nat} (q:SlT P t e ag w zs m) (hx:ρ x = .hs b ver w lo n) (hy:ρ y = .v (.int k i)) (hi:0<=i/\i<(n:Int)):Jf P ρ (.indexAddr t x y) (.hp b ver w (lo+i.toNat) 0):=Jf.ixhs q.u q.ty hx hy hi
theorem Jf.lenP {n lo:Nat} (q:SlT P t e ag w zs m) (hx:ρ x = .hs b ver w lo n):Jf P ρ (.call ⟨.builtin .len,#[x],#[t]⟩) (I n):=Jf.lenhs q.u hx
theorem EvA.clearO [Inhabited α] (q:SlT P t e ag w zs m) (hz:ZrR zs<|c default) (hx:ρ x = .hs b ver w off len) (hk:H[b]? = some (bE false ver w e<|l.map c)) (ho:off+len<=l.length) :
  EvA P ρ (.call ⟨.builtin .clear,#[x],#[t]⟩) H .top (H.set b<|bE false ver w e<|(cpy l off (LV len default) len).map c):=λo ho'=>by
 obtain ⟨z,hz0,hzz⟩:=Option.map_eq_some_iff.1 q.z.z;have hone:iP z.cells=true:=by
  have := q.z.one;rw [hz0] at this;exact osl this
 have hsz:z.cells.size=w:=by
  have := congrArg List.length hzz;rw [<- q.zl,<- this];simp [cV]
 have h:=Bu (o:=o) (P:=P) (ρ:=ρ) (H:=H) (s:=w) (k:=⟨ver,w,e,l.map c⟩) (zr:=c default) ho' rfl rfl rfl q.u hz0 hone hsz (hz.1.trans q.zl) (λcx j a ha=>by
  have hjl:j<zs.length:=by rw [<- hz.1];exact (ges ha).1
  have hzs:zs[j]? = some zs[j]:=geq hjl;have hju:j<z.cells.size:=by rw [hsz,<- q.zl];exact hjl
  refine ⟨z.cells[j],Mv hju,hz.2 cx j _ a _ hzs ha ?_⟩;have hc:=kO cx hone;obtain ⟨u,g1,g2⟩:=hc.get (j:=j) (a:=zs[j]) (by rw [hzz];exact hzs);rw [Mv hju] at g1;obtain rfl:=osl g1
  first | exact g2 | exact g2.2) hx hk rfl rfl (by simpa using ho)
 unfold cpy;rw [if_pos ho];simpa [bE,List.map_take,List.map_drop] using h
end
section
variable {P:Program} {H:AH}
theorem dD.wown {f:FuncId} {as0 Jq:List AV} {b:Nat} {g:Bool} {ver w w':Nat} {ty ty':TypeId} {kg rows:List (List AV)} {mk:AV->AV} {n:Nat} (h:dD P f as0 [bE g ver w ty kg]<|wU w' ty' mk n rows 0 []) (hb:H[b]? = some (bE g ver w ty kg))
  (has:RenL (λc i=>[b][i]? = some c) Jq as0) (hk0:∀ r∈kg,∀ a∈r,isF 9 a=true) (hk:∀ r∈rows,∀ a∈r,isF 9 a=true) (hmk:∀ (S:Nat->Nat->Prop) (a b:AV),Ren S a b->Ren S (mk a) (mk b)) :
  dD P f Jq H (λr G=>∃ g' qq,(g'=true->n=0)/\r=mk (hS g' b qq w' n)/\G=H.set b (bE g' qq w' ty' rows)):=by
 have hlt:b<H.length:=(ges hb).1;refine h.frameN [b] (by simp) rfl (λi c hi=>?_) has.spec.1 has.spec.2 λr0 G0 ⟨g',qq,hg,hr0,hG0⟩ => ?_
 ·match i with
  | 0=>
   obtain rfl:b=c:=by simpa using hi
   cases g with
   | true=>exact .inl ⟨hb,rfl⟩
   | false=>exact .inr ⟨_,_,hb,rfl,.ofF hk0⟩
  | i+1=>simp at hi
 subst hr0 hG0;have key:∀ i c,sg [b] H.length i c->i<1->c=b:=λi c hs hi=>by
  rcases hs with hs | ⟨hs,_⟩
  ·obtain rfl:i=0:=by omega
   simpa using hs.symm
  simp at hs;omega
 refine ⟨_,_,⟨by simp,by simp,λi c hi hs hn=>?_,λi c k0 hs hk0=>?_,λc hc hne=>Mi λe=>hne<|by simp [e]⟩,hmk _ _ _ ?_,⟨g',qq,hg,rfl,rfl⟩⟩
 ·simp only [Mj,LO] at hi;obtain rfl:=key i c hs hi;obtain rfl:i=0:=by omega
  simp only [Mj,Mb,sie] at hn;rw [LZ hlt,hn]
 ·have hi:i<1:=by
   have := (ges hk0).1;simpa using this
  obtain rfl:=key i c hs hi;obtain rfl:i=0:=by omega
  simp only [Mj,Mb,sie] at hk0;refine ⟨k0,by rw [LZ hlt,hk0],.ofF λr hr a ha=>?_⟩
  cases g' with
  | true=>cases hk0
  | false=>
   obtain rfl:=osl hk0;exact hk r hr a ha
 cases g' with
 | true=>exact .nil
 | false=>exact .hs (.inl rfl)
theorem fg.oneE {f:FuncId} {as0 Jq:List AV} {b:Nat} {g:Bool} {ver w:Nat} {ty:TypeId} {kg rows:List (List AV)} {r:AV} (h:fg P f as0 [bE g ver w ty kg] r [bE g ver w ty rows]) (hb:H[b]? = some (bE g ver w ty kg))
  (has:RenL (λc i=>[b][i]? = some c) Jq as0) (hk0:∀ r∈kg,∀ a∈r,isF 9 a=true) (hk:∀ r∈rows,∀ a∈r,isF 9 a=true) (hr:isF 9 r=true):fg P f Jq H r (H.set b<|bE g ver w ty rows):=by
 have hlt:b<H.length:=(ges hb).1;have h0:dD P f as0 [bE g ver w ty kg] (λr' G=>r'=r/\G=[bE g ver w ty rows]):=⟨h.1,λc vs hH hr hall=>(h.2 c vs hH hr hall).mono λe w' ⟨v,c',h1,h2,h3,h4,h5,h6⟩=>⟨v,c',r,h1,h2,⟨rfl,h3⟩,h4,h5,h6⟩⟩;refine dD.acall<|h0.frameN [b] (by simp) rfl (λi c hi=>?_) has.spec.1 has.spec.2 λr0 G0 ⟨hr0,hG0⟩ => ?_
 ·match i with
  | 0=>
   obtain rfl:b=c:=by simpa using hi
   cases g with
   | true=>exact .inl ⟨hb,rfl⟩
   | false=>exact .inr ⟨_,_,hb,rfl,.ofF hk0⟩
  | i+1=>simp at hi
 subst hr0 hG0;have key:∀ i c,sg [b] H.length i c->i<1->c=b:=λi c hs hi=>by
  rcases hs with hs | ⟨hs,_⟩
  ·obtain rfl:i=0:=by omega
   simpa using hs.symm
  simp at hs;omega
 refine ⟨_,_,⟨by simp,by simp,λi c hi hs hn=>?_,λi c k0 hs hk0=>?_,λc hc hne=>Mi λe=>hne<|by simp [e]⟩,kI 9 _ hr,rfl,rfl⟩
 ·simp only [LO] at hi;obtain rfl:=key i c hs hi;obtain rfl:i=0:=by omega
  simp only [Mb,sie] at hn;rw [LZ hlt,hn]
 have hi:i<1:=by
  have := (ges hk0).1;simpa using this
 obtain rfl:=key i c hs hi;obtain rfl:i=0:=by omega
 simp only [Mb,sie] at hk0;refine ⟨k0,by rw [LZ hlt,hk0],.ofF λr hr a ha=>?_⟩
 cases g with
 | true=>cases hk0
 | false=>
  obtain rfl:=osl hk0;exact hk r hr a ha
theorem CY {S:Nat->Nat->Prop} {g:Bool} {i j v w n n':Nat} (h:S i j) (hn:n=n'):Ren S (hS g i v w n) (hS g j v w n'):=hn ▸ jf h
variable {nt b0:Nat} {Q:Exit->Env->AH->Prop} {en:List (Nat×AV)} {ops:Array Oper} {l:List Oper} {d:Tmp} {t:TypeId} {pos:String} {af:Array Edge}
theorem oGW {cl:Call} {f:Operand} {g:FuncId} {iX as0:List AV} {H:AH} {b w0 ver w:Nat} {g0:Bool} {ty0 ty:TypeId} {kg rows:List (List AV)} {mk:AV->AV} {n:Nat} (hc:cl.callee = .value f) (hf:rho (ax en) f = .fn (.func g) iX)
  (h:dD P g as0 [bE g0 ver w0 ty0 kg]<|wU w ty mk n rows 0 []) (hb:H[b]? = some (bE g0 ver w0 ty0 kg)) (has:RenL (λc i=>[b][i]? = some c) (cl.args.toList.map (rho<|ax en)++iX) as0) (hk0:∀ r∈kg,∀ a∈r,isF 9 a=true) (hk:∀ r∈rows,∀ a∈r,isF 9 a=true)
  (hmk:∀ (S:Nat->Nat->Prop) (a b:AV),Ren S a b->Ren S (mk a) (mk b)) (k:∀ g' qq,(g'=true->n=0)->TO P nt b0 ops l Q (ax ((d,mk<|hS g' b qq w n)::en)) (H.set b<|bE g' qq w ty rows)):TO P nt b0 ops (⟨some d,.call cl,t,pos,af,none⟩::l) Q (ax en) H:=by
 exact TO.runG (.free rfl) (mS rfl hc hf<|h.wown hb has hk0 hk hmk) λr' H' ⟨g',qq,hg,hr,hH⟩=>by
  subst hr hH;exact k g' qq hg
end
section
variable {P:Program} {ρ:Operand->AV} {H:AH} {x y z:Operand} {t e l9:TypeId} {ag:Bool} {w j b kn:Nat}
theorem Jf.slA {α:Type} [Inhabited α] {c:α->List AV} (l:List α) {row:List AV} (hu:P.underlying t=some (.array 3 e)) (ty:TyF P e ag w) (hx:ρ x = .fp row j) (hl:l.length=3) (hr:Nat.ble (j+3*w) row.length=true)
  (h:[(row.drop<|j+0*w).take w,(row.drop<|j+1*w).take w,(row.drop<|j+2*w).take w]=[c (l.getD 0 default),c (l.getD 1 default),c (l.getD 2 default)]):Jf P ρ (.slice t x none none none) (eL c l):=by
 injection h with h0 h;injection h with h1 h;injection h with h2 _;have key:Jf P ρ (.slice t x none none none) (.sl 3 λi=>(row.drop<|j+i*w).take w) := .mk λK hK=>by
  show pJ P ρ (.slice t x none none none) K;simp only [pJ,qx,hu,hx,Option.map_none];show (0<=(0:Int)/\(0:Int)<=((3:Nat):Int)/\((3:Nat):Int)<=((3:Nat):Int)/\j+3*P.cellsOf e<=row.length/\(P.info? e).isSome=true/\3<=9223372036854775807)/\_;rw [ty.cells];exact ⟨⟨by omega,by omega,by omega,nlb hr,ty.info,by omega⟩,hK⟩
 refine key.res λC v hv=>?_;unfold Go.Proofs.YtjcmfddobaplbaaGreat.eL;rw [hl];exact wz (λi hi=>by
  match i,hi with
  | 0,_=>exact h0
  | 1,_=>exact h1
  | 2,_=>exact h2) hv
variable {K:Type} [DecidableEq K] {kc:K->List Value} {l:List (K×Bool)}
theorem EvA.minsB (q:KeyA P l9 kn kc) (ht:P.underlying t=some (.map l9 e)) (k:K) (v:Bool)
  (hx:ρ x = .mp b (kn+1)) (hy:ρ y=mkA ((kc k).map AV.v)) (hz:ρ z=Bo v) (hb:H[b]? = some (some<|mB kn 1 kc cB l)) :
  EvA P ρ (.insert t x y z) H .top (H.set b<|some<|mB kn 1 kc cB<|qL l k v):=
 EvA.mins (vn:=1) (cv:=cB) q (λ_=>rfl) ht (Nat.succ_pos kn) k v hx hy (by rw [hz];rfl) (by rw [hz];rfl) hb
omit [DecidableEq K] in
theorem EvA.mlenB (ht:P.underlying t=some (.map l9 e)) (hx:ρ x = .mp b (kn+1)) (hb:H[b]? = some (some<|mB kn 1 kc cB l)):EvA P ρ (.call ⟨.builtin .len,#[x],#[t]⟩) H (I l.length) H:=
 EvA.mlen (vn:=1) (cv:=cB) ht hx hb
end
def cmpL:LI->LI->Int
 | [],[]=>0
 | [],_::_ => -1
 | _::_,[]=>1
 | a::l,b::k=>if a<b then -1 else if b<a then 1 else cmpL l k
theorem kR:∀ l,cmpL l l=0
 | []=>rfl
 | a::l=>by rw [cmpL,if_neg (Int.lt_irrefl _),if_neg (Int.lt_irrefl _),kR l]
theorem mU:∀ l k,cmpL k l = - cmpL l k
 | [],[]=>rfl
 | [],_::_=>rfl
 | _::_,[]=>rfl
 | a::l,b::k=>by
  rw [cmpL,cmpL]
  by_cases h:a<b
  ·rw [if_pos h,if_pos h,if_neg (by omega)]
   rfl
  rw [if_neg h,if_neg h]
  by_cases h2:b<a
  ·rw [if_pos h2,if_pos h2]
  rw [if_neg h2,if_neg h2,mU l k]
theorem cmpL_eq:∀ {l k},cmpL l k=0->l=k
 | [],[],_=>rfl
 | [],_::_,h=>by cases h
 | _::_,[],h=>by cases h
 | a::l,b::k,h=>by
  rw [cmpL] at h
  split at h
  ·cases h
  split at h
  ·cases h
  rw [cmpL_eq h]
  congr 1
  omega
theorem mV:∀ {l k m},cmpL l k<0->cmpL k m<0->cmpL l m<0
 | [],[],_,h,_=>by cases h
 | [],_::_,[],_,h=>by simp [cmpL] at h
 | [],_::_,_::_,_,_=>by simp [cmpL]
 | _::_,[],_,h,_=>by simp [cmpL] at h
 | _::_,_::_,[],_,h=>by simp [cmpL] at h
 | a::l,b::k,c::m,h1,h2=>by
  rw [cmpL] at h1 h2 ⊢
  by_cases e1:a<b
  ·by_cases e2:c<b
   ·rw [if_neg (by omega),if_pos e2] at h2
    cases h2
   rw [if_pos (by omega)]
   decide
  rw [if_neg e1] at h1
  by_cases e2:b<a
  ·rw [if_pos e2] at h1
   cases h1
  rw [if_neg e2] at h1;obtain rfl:a=b:=by omega
  by_cases e3:a<c
  ·rw [if_pos e3]
   decide
  rw [if_neg e3] at h2 ⊢
  by_cases e4:c<a
  ·rw [if_pos e4] at h2
   cases h2
  rw [if_neg e4] at h2 ⊢;exact mV h1 h2
theorem mW (l k:LI):cmpL l k<0\/l=k\/cmpL k l<0:=by
 have := mU l k;rcases Int.lt_trichotomy (cmpL l k) 0 with h | h | h
 ·exact .inl h
 ·exact .inr<|.inl<|cmpL_eq h
 exact .inr<|.inr (by omega)
def leL (x y:LI):Bool:=decide<|¬ cmpL y x<0
def wD (l:LL):LL:=l.mergeSort leL
theorem Bv (x y:LI):(leL x y||leL y x)=true:=by
 unfold leL;rw [Bool.or_eq_true,dte,dte];rcases mW x y with h | h | h
 ·left;have := mU x y;omega
 ·left;rw [h,kR];decide
 right;have := mU x y;omega
theorem Bw (x y z:LI) (h1:leL x y=true) (h2:leL y z=true):leL x z=true:=by
 unfold leL at *;rw [dte] at *;intro h;rcases mW x y with g | g | g
 ·rcases mW y z with g2 | g2 | g2
  ·exact h2<|mV h g
  ·rw [g2] at h1;exact h1 h
  exact h2 g2
 ·rw [g] at h;exact h2 h
 exact h1 g
theorem yG (x y:LI) (h1:leL x y=true) (h2:leL y x=true):x=y:=by
 unfold leL at *;rw [dte] at *;rcases mW x y with h | h | h
 ·exact absurd h h2
 ·exact h
 exact absurd h h1
theorem jZ (l:LL):(wD l).Perm l:=List.mergeSort_perm l leL
theorem sF (l:LL):(wD l).Pairwise λx y=>leL x y=true:=List.pairwise_mergeSort Bw Bv l
theorem nN:∀ {l k:LL},l.Perm k->l.Pairwise (λx y=>leL x y=true)->k.Pairwise (λx y=>leL x y=true)->l=k
 | [],k,h,_,_=>h.nil_eq
 | a::l,[],h,_,_=>absurd h.length_eq (by simp)
 | a::l,b::k,h,h1,h2=>by
  have hab:a=b:=by
   rcases List.mem_cons.1 (h.subset<|L6) with e | e
   ·exact e
   rcases List.mem_cons.1 (h.symm.subset<|L6) with e2 | e2
   ·exact e2.symm
   exact yG a b ((Mc.1 h1).1 b e2)<|(Mc.1 h2).1 a e
  subst hab;rw [nN (List.perm_cons a |>.1 h) (Mc.1 h1).2 (Mc.1 h2).2]
def dY (l:LL):Option (LL):=gd (decide<|l.length<4611686018427387904)<|some<|wD l
theorem mE {l q:LL} (h:l=[]) (c:dY l=some q):q=[]:=by
 subst h;obtain ⟨_,c⟩:=gdD c;rw [<- osl c];exact (jZ []).eq_nil
theorem mF {l q:LL} (c:dY l=some q):q.length=l.length:=by
 obtain ⟨_,c⟩:=gdD c;rw [<- osl c];exact (jZ l).length_eq
def oM (p:List<|List Ji):Option Jk:= some (⟨(⟨p,(⟨(0:Int),(0:Int),(0:Int)⟩:Z3b),(⟨(⟨(0:Int),(0:Int),(0:Int)⟩:Z3b),(⟨(0:Int),(0:Int),(0:Int)⟩:Z3b),(⟨(0:Int),(0:Int),(0:Int)⟩:Z3b)⟩:Z33),(⟨(0:Int),(0:Int),(0:Int)⟩:Z3b)⟩:Jj)⟩:Jk)
def gm (v:Jj):LS ((LI)×Int) (LI):=λs6=>bif decide (s6.2<(3:Int)) then gd (decide<|0<=s6.2/\s6.2<3) <|gd (fo (s6.1.length+([(⟨(Z33.get v.reg s6.2).x0,(Z33.get v.reg s6.2).x1,(Z33.get v.reg s6.2).x2⟩:Z3b).x0,(⟨(Z33.get v.reg s6.2).x0,(Z33.get v.reg s6.2).x1,(Z33.get v.reg s6.2).x2⟩:Z3b).x1,(⟨(Z33.get v.reg s6.2).x0,(Z33.get v.reg s6.2).x1,(Z33.get v.reg s6.2).x2⟩:Z3b).x2]:LI).length) 1) <|gd (Jg .i64<|s6.2+(1:Int)) <|some (.inl ((s6.1++([(⟨(Z33.get v.reg s6.2).x0,(Z33.get v.reg s6.2).x1,(Z33.get v.reg s6.2).x2⟩:Z3b).x0,(⟨(Z33.get v.reg s6.2).x0,(Z33.get v.reg s6.2).x1,(Z33.get v.reg s6.2).x2⟩:Z3b).x1,(⟨(Z33.get v.reg s6.2).x0,(Z33.get v.reg s6.2).x1,(Z33.get v.reg s6.2).x2⟩:Z3b).x2]:LI)),(s6.2+(1:Int)))) else some (.inr s6.1)
def bI (v:Jj):Option ByteArray:= gd (fo (([]:LI).length+([v.pc.x0,v.pc.x1,v.pc.x2]:LI).length) 1) <|LM (bQ (gm v) ((([]:LI)++([v.pc.x0,v.pc.x1,v.pc.x2]:LI)),(0:Int))) λs2=>gd (fo (s2.length+([v.mem.x0,v.mem.x1,v.mem.x2]:LI).length) 1) <|some<|strOfNums<|s2++([v.mem.x0,v.mem.x1,v.mem.x2]:LI)
def cF (s:Jk):Option ByteArray:= LM (bI s.values) λv1=>some v1
def aZ (v:Jj) (t:Int):Option (Ji×Bool):= gd (decide<|0<=t/\t<3) <|gd (Jg .i64<|Z3b.get v.pc t) <|gd (decide<|0<=t/\t<(v.p.length:Int)) <|bif decide (((v.p.getD t.toNat default).length:Int)<=(Z3b.get v.pc t)) then some ((⟨(0:Int),(0:Int),(0:Int),(0:Int)⟩:Ji),false) else gd (decide<|0<=(Z3b.get v.pc t)/\(Z3b.get v.pc t)<((v.p.getD t.toNat default).length:Int)) <|some ((⟨((v.p.getD t.toNat default).getD (Z3b.get v.pc t).toNat default).Op,((v.p.getD t.toNat default).getD (Z3b.get v.pc t).toNat default).Loc,((v.p.getD t.toNat default).getD (Z3b.get v.pc t).toNat default).Reg,((v.p.getD t.toNat default).getD (Z3b.get v.pc t).toNat default).Val⟩:Ji),true)
def il (v:Jj):LS Int (Unit ⊕ Bool):=λs4=>bif decide (s4<(v.p.length:Int)) then LM (aZ v s4) λv7=>bif v7.2 then some (.inr<|.inr false) else gd (Jg .i64<|s4+(1:Int)) <|some (.inl<|s4+(1:Int)) else some (.inr<|.inl ())
def bh (v:Jj):Option Bool:= sumK (bQ (il v) (0:Int)) λs1=>some true
def cG (s:Jk):Option Bool:= LM (bh s.values) λv1=>some v1
def dR (v:Jj) (s7:(LI)×Int):LS ((LI)×Int) (LI):=λs20=>bif decide (s20.2<(3:Int)) then gd (decide<|0<=s20.2/\s20.2<3) <|gd (Jg .i64<|Z3b.get (Z33.get v.reg s7.2) s20.2) <|gd (fo (s20.1.length+1) 8) <|gd (Jg .i64<|s20.2+(1:Int)) <|some (.inl ((s20.1++[(Z3b.get (Z33.get v.reg s7.2) s20.2)]),(s20.2+(1:Int)))) else some (.inr s20.1)
def bS (v:Jj):LS ((LI)×Int) (LI):=λs7=>bif decide (s7.2<(v.p.length:Int)) then LM (gd (decide<|0<=s7.2/\s7.2<3) <|bQ (dR v s7) (s7.1,(0:Int))) λs13=>gd (Jg .i64<|s7.2+(1:Int)) <|some (.inl (s13,(s7.2+(1:Int)))) else some (.inr s7.1)
def bM (v:Jj):LS ((LI)×Int) (LI):=λs43=>bif decide (s43.2<(3:Int)) then gd (decide<|0<=s43.2/\s43.2<3) <|gd (Jg .i64<|Z3b.get v.mem s43.2) <|gd (fo (s43.1.length+1) 8) <|gd (Jg .i64<|s43.2+(1:Int)) <|some (.inl ((s43.1++[(Z3b.get v.mem s43.2)]),(s43.2+(1:Int)))) else some (.inr s43.1)
def aN (v:Jj):Option (LI):= LM (bQ (bS v) (([]:LI),(0:Int))) λs1=>LM (bQ (bM v) (s1,(0:Int))) λs37=>some s37
def ij (s:Jk):LS ((LI)×Int) (LI):=λs7=>bif decide (s7.2<(s.values.p.length:Int)) then LM (LM (aZ s.values s7.2) λv14=>bif v14.2 then gd (fo (s7.1.length+1) 8) <|some (s7.1++[s7.2]) else some s7.1) λs13=>gd (Jg .i64<|s7.2+(1:Int)) <|some (.inl (s13,(s7.2+(1:Int)))) else some (.inr s7.1)
def dJ (s:Jk):Option (LI):= LM (bQ (ij s) (([]:LI),(0:Int))) λs1=>some s1
def bz (v:Jj) (t:Int) (x:Ji):Option Int:= bif (x.Op==(3:Int)) then gd (decide<|0<=t/\t<3) <|gd (decide<|0<=x.Reg/\x.Reg<3) <|some (Z3b.get (Z33.get v.reg t) x.Reg) else gd (Jg .u8 x.Val) <|some x.Val
def cN (x:Ji):Option Bool:= LM (bif (x.Op==(1:Int)) then some true else some (x.Op==(5:Int))) λs1=>some s1
def eH (x:Ji):Option Bool:= LM (bif (x.Op==(2:Int)) then some true else some (x.Op==(3:Int))) λs1=>LM (bif s1 then some true else some (x.Op==(5:Int))) λs3=>some s3
def dK (s:Jk) (t:Int):Option Jk:= LM (aZ s.values t) λv1=>gd (decide<|0<=t/\t<3) <|gd (Jg .u8<|(Z3b.get s.values.pc t)+(1:Int)) <|LM (bz s.values t (⟨v1.1.Op,v1.1.Loc,v1.1.Reg,v1.1.Val⟩:Ji)) λv4=>LM (LM (cN (⟨v1.1.Op,v1.1.Loc,v1.1.Reg,v1.1.Val⟩:Ji)) λv6=>bif v6 then gd (decide<|0<=v1.1.Loc/\v1.1.Loc<3) <|gd (decide<|0<=v1.1.Reg/\v1.1.Reg<3) <|some (((Z33.set s.values.reg t<|Z3b.set (Z33.get s.values.reg t) v1.1.Reg<|Z3b.get s.values.mem v1.1.Loc).x0).x0,((Z33.set s.values.reg t<|Z3b.set (Z33.get s.values.reg t) v1.1.Reg<|Z3b.get s.values.mem v1.1.Loc).x0).x1,((Z33.set s.values.reg t<|Z3b.set (Z33.get s.values.reg t) v1.1.Reg<|Z3b.get s.values.mem v1.1.Loc).x0).x2,((Z33.set s.values.reg t<|Z3b.set (Z33.get s.values.reg t) v1.1.Reg<|Z3b.get s.values.mem v1.1.Loc).x1).x0,((Z33.set s.values.reg t<|Z3b.set (Z33.get s.values.reg t) v1.1.Reg<|Z3b.get s.values.mem v1.1.Loc).x1).x1,((Z33.set s.values.reg t<|Z3b.set (Z33.get s.values.reg t) v1.1.Reg<|Z3b.get s.values.mem v1.1.Loc).x1).x2,((Z33.set s.values.reg t<|Z3b.set (Z33.get s.values.reg t) v1.1.Reg<|Z3b.get s.values.mem v1.1.Loc).x2).x0,((Z33.set s.values.reg t<|Z3b.set (Z33.get s.values.reg t) v1.1.Reg<|Z3b.get s.values.mem v1.1.Loc).x2).x1,((Z33.set s.values.reg t<|Z3b.set (Z33.get s.values.reg t) v1.1.Reg<|Z3b.get s.values.mem v1.1.Loc).x2).x2) else some (s.values.reg.x0.x0,s.values.reg.x0.x1,s.values.reg.x0.x2,s.values.reg.x1.x0,s.values.reg.x1.x1,s.values.reg.x1.x2,s.values.reg.x2.x0,s.values.reg.x2.x1,s.values.reg.x2.x2)) λs5=>LM (LM (eH (⟨v1.1.Op,v1.1.Loc,v1.1.Reg,v1.1.Val⟩:Ji)) λv11=>bif v11 then gd (decide<|0<=v1.1.Loc/\v1.1.Loc<3) <|some ((Z3b.set s.values.mem v1.1.Loc v4).x0,(Z3b.set s.values.mem v1.1.Loc v4).x1,(Z3b.set s.values.mem v1.1.Loc v4).x2) else some (s.values.mem.x0,s.values.mem.x1,s.values.mem.x2)) λs10=>some (⟨(⟨s.values.p,(⟨(Z3b.set s.values.pc t<|(Z3b.get s.values.pc t)+(1:Int)).x0,(Z3b.set s.values.pc t<|(Z3b.get s.values.pc t)+(1:Int)).x1,(Z3b.set s.values.pc t<|(Z3b.get s.values.pc t)+(1:Int)).x2⟩:Z3b),(⟨(⟨s5.1,s5.2.1,s5.2.2.1⟩:Z3b),(⟨s5.2.2.2.1,s5.2.2.2.2.1,s5.2.2.2.2.2.1⟩:Z3b),(⟨s5.2.2.2.2.2.2.1,s5.2.2.2.2.2.2.2.1,s5.2.2.2.2.2.2.2.2⟩:Z3b)⟩:Z33),(⟨s10.1,s10.2.1,s10.2.2⟩:Z3b)⟩:Jj)⟩:Jk)
def gW (s1_:LI) (s2_:LI):LS Int (Unit ⊕ Bool):=λs5=>bif decide (s5<(s1_.length:Int)) then gd (decide<|0<=s5/\s5<(s1_.length:Int)) <|gd (decide<|0<=s5/\s5<(s2_.length:Int)) <|bif ((s1_.getD s5.toNat default) != (s2_.getD s5.toNat default)) then some (.inr<|.inr false) else gd (Jg .i64<|s5+(1:Int)) <|some (.inl<|s5+(1:Int)) else some (.inr<|.inl ())
def cn (s1_:LI) (s2_:LI):Option Bool:= bif ((s1_.length:Int) != (s2_.length:Int)) then some false else sumK (bQ (gW s1_ s2_) (0:Int)) λs2=>some true
def bW (a:LI) (b:LI):Option Bool:= LM (cn a b) λv1=>some v1
def aQ (s8:(LL)×Int):LS ((LL)×Int×Int) ((LL)×Int):=λs25=>bif decide (s25.2.1<((((s8.1.length:Int).toNat-s8.2.toNat):Nat):Int)) then LM (gd (decide<|(0<=s25.2.1/\s25.2.1<((((s8.1.length:Int).toNat-s8.2.toNat):Nat):Int))/\((0+s8.2.toNat)+s25.2.1.toNat)<s25.1.length) <|gd (Jg .i64<|s25.2.1-(1:Int)) <|gd (decide<|(0<=(s25.2.1-(1:Int))/\(s25.2.1-(1:Int))<((((s8.1.length:Int).toNat-s8.2.toNat):Nat):Int))/\((0+s8.2.toNat)+(s25.2.1-(1:Int)).toNat)<s25.1.length) <|LM (bW (s25.1.getD ((0+s8.2.toNat)+s25.2.1.toNat) default)<|s25.1.getD ((0+s8.2.toNat)+(s25.2.1-(1:Int)).toNat) default) λv33=>bif !v33 then gd (decide<|0<=s25.2.2/\s25.2.2<(s25.1.length:Int)) <|gd (Jg .i64<|s25.2.2+(1:Int)) <|some ((s25.1.set s25.2.2.toNat<|s25.1.getD ((0+s8.2.toNat)+s25.2.1.toNat) default),(s25.2.2+(1:Int))) else some (s25.1,s25.2.2)) λs29=>gd (Jg .i64<|s25.2.1+(1:Int)) <|some (.inl (s29.1,(s25.2.1+(1:Int)),s29.2)) else some (.inr (s25.1,s25.2.2))
def aS:LS ((LL)×Int) ((LL) ⊕ (LL)):=λs8=>bif decide (s8.2<(s8.1.length:Int)) then sumK (gd (decide<|0<=s8.2/\s8.2<(s8.1.length:Int)) <|gd (Jg .i64<|s8.2-(1:Int)) <|gd (decide<|0<=(s8.2-(1:Int))/\(s8.2-(1:Int))<(s8.1.length:Int)) <|LM (bW (s8.1.getD s8.2.toNat default)<|s8.1.getD ((s8.2-(1:Int)).toNat) default) λv18=>bif v18 then gd (decide<|0<=s8.2/\s8.2<=(s8.1.length:Int)/\(s8.1.length:Int)<=(s8.1.length:Int)) <|LM (bQ (aQ s8) (s8.1,(1:Int),s8.2)) λs21=>gd (decide<|0<=s21.2/\s21.2<=(s21.1.length:Int)/\(s21.1.length:Int)<=(s21.1.length:Int)) <|gd (decide<|0<=(0:Int)/\(0:Int)<=s21.2/\s21.2<=(s21.1.length:Int)) <|some (.inr<|.inr<|.inr<|((cpy s21.1 (0+s21.2.toNat) (LV ((s21.1.length:Int).toNat-s21.2.toNat) (default:LI))<|(s21.1.length:Int).toNat-s21.2.toNat).drop (0:Int).toNat).take<|s21.2.toNat-(0:Int).toNat) else some (.inl ())) λs14=>gd (Jg .i64<|s8.2+(1:Int)) <|some (.inl (s8.1,(s8.2+(1:Int)))) else some (.inr<|.inl s8.1)
def aK (s:LL):Option (LL):= bif decide ((s.length:Int)<(2:Int)) then some s else sumK (bQ aS (s,(1:Int))) λs2=>some s2
def aO (list:LL):Option (LL):= LM (dY list) λv1=>LM (aK v1) λv2=>some v2
def gI (s9:(List<|ByteArray×Bool)×(LL)×(List Jk)) (s19:(LL)) (v27:(LI)):LS ((List<|ByteArray×Bool)×(List Jk)×Int) (((List<|ByteArray×Bool)×(LL)×(List Jk)) ⊕ ((List<|ByteArray×Bool)×(LL))):=λs31=>bif decide (s31.2.2<(v27.length:Int)) then LM (gd (decide<|0<=s31.2.2/\s31.2.2<(v27.length:Int)) <|LM (dK (s9.2.2.getD (((s9.2.2.length:Int)-(1:Int)).toNat) default)<|v27.getD s31.2.2.toNat default) λv37=>LM (cF v37) λv38=>bif !((vZ s31.1 v38).getD false) then gd (fo (s31.2.1.length+1) 16) <|some ((qL s31.1 v38 true),(s31.2.1++[v37])) else some (s31.1,s31.2.1)) λs35=>gd (Jg .i64<|s31.2.2+(1:Int)) <|some (.inl (s35.1,s35.2,(s31.2.2+(1:Int)))) else some (.inr<|.inl (s31.1,s19,s31.2.1))
def gJ:LS ((List<|ByteArray×Bool)×(LL)×(List Jk)) ((List<|ByteArray×Bool)×(LL)):=λs9=>bif decide ((0:Int)<(s9.2.2.length:Int)) then gd (Jg .i64<|(s9.2.2.length:Int)-(1:Int)) <|gd (decide<|0<=((s9.2.2.length:Int)-(1:Int))/\((s9.2.2.length:Int)-(1:Int))<(s9.2.2.length:Int)) <|gd (decide<|0<=(0:Int)/\(0:Int)<=((s9.2.2.length:Int)-(1:Int))/\((s9.2.2.length:Int)-(1:Int))<=(s9.2.2.length:Int)) <|LM (LM (cG<|s9.2.2.getD (((s9.2.2.length:Int)-(1:Int)).toNat) default) λv20=>bif v20 then LM (aN<|(s9.2.2.getD (((s9.2.2.length:Int)-(1:Int)).toNat) default).values) λv22=>gd (fo (s9.2.1.length+1) 24) <|some (s9.2.1++[v22]) else some s9.2.1) λs19=>LM (dJ<|s9.2.2.getD (((s9.2.2.length:Int)-(1:Int)).toNat) default) λv27=>bQ (gI s9 s19 v27) (s9.1,((s9.2.2.drop (0:Int).toNat).take<|((s9.2.2.length:Int)-(1:Int)).toNat-(0:Int).toNat),(0:Int)) else some (.inr (s9.1,s9.2.1))
def fE (start:Jk):Option ((LL)×Int):= LM (cF start) λv1=>LM (bQ gJ ((qL ([]:List<|ByteArray×Bool) v1 true),([]:LL),([start]:List Jk))) λs2=>LM (aO s2.2) λv46=>some (v46,(s2.1.length:Int))
def eM (p:List<|List Ji):Option (LL):= LM (aJ p) λv1=>bif !v1 then some ([]:LL) else LM (oM p) λv3=>LM (fE v3) λv4=>some v4.1
def gz (p:List<|List Ji) (split:Bool):Option aj:= gd (decide<|0<=(p.length:Int)/\(p.length:Int)<=(p.length:Int)/\(p.length:Int)*((24:Nat):Int)<=140737488355328/\(p.length:Int)<=140737488355328) <|LM (bif split then gd (Jg .i64<|(3:Int)*(p.length:Int)) <|gd (decide<|0<=((3:Int)*(p.length:Int))/\((3:Int)*(p.length:Int))<=((3:Int)*(p.length:Int))/\((3:Int)*(p.length:Int))*((24:Nat):Int)<=140737488355328/\((3:Int)*(p.length:Int))<=140737488355328) <|some (LV ((3:Int)*(p.length:Int)).toNat ([]:LI)) else some (LV (p.length:Int).toNat ([]:LI))) λs2=>some (⟨(⟨p,(⟨(0:Int),(0:Int),(0:Int)⟩:Z3b),(⟨(⟨(0:Int),(0:Int),(0:Int)⟩:Z3b),(⟨(0:Int),(0:Int),(0:Int)⟩:Z3b),(⟨(0:Int),(0:Int),(0:Int)⟩:Z3b)⟩:Z33),(⟨(0:Int),(0:Int),(0:Int)⟩:Z3b)⟩:Jj),split,s2⟩:aj)
def gp (s:aj):LS ((LI)×Int) (LI):=λs7=>bif decide (s7.2<(s.waits.length:Int)) then gd (decide<|0<=s7.2/\s7.2<(s.waits.length:Int)) <|gd (Jg .u8 ((s.waits.getD s7.2.toNat default).length:Int)) <|gd (fo (s7.1.length+1) 1) <|gd (fo ((s7.1++[((s.waits.getD s7.2.toNat default).length:Int)]).length+(s.waits.getD s7.2.toNat default).length) 1) <|gd (Jg .i64<|s7.2+(1:Int)) <|some (.inl (((s7.1++[((s.waits.getD s7.2.toNat default).length:Int)])++(s.waits.getD s7.2.toNat default)),(s7.2+(1:Int)))) else some (.inr s7.1)
def bX (s:aj):Option ByteArray:= LM (bI s.values) λv1=>gd (decide<|v1.size<=35184372088832) <|LM (bQ (gp s) ((jl v1),(0:Int))) λs3=>some<|strOfNums s3
def jc (waits:LI):Option Bool:= some<|decide<|(0:Int)<(waits.length:Int)
def bA (s:LL):LS Int (Unit ⊕ Int):=λs4=>bif decide (s4<(s.length:Int)) then gd (decide<|0<=s4/\s4<(s.length:Int)) <|LM (jc<|s.getD s4.toNat default) λv8=>bif v8 then some (.inr<|.inr s4) else gd (Jg .i64<|s4+(1:Int)) <|some (.inl<|s4+(1:Int)) else some (.inr<|.inl ())
def aW (s:LL):Option Int:= sumK (bQ (bA s) (0:Int)) λs1=>some (-1:Int)
def aU (s:LL):Option Bool:= LM (aW s) λv1=>some<|decide<|(0:Int)<=v1
def cu (s:aj):Option Bool:= LM (bh s.values) λv1=>LM (bif v1 then LM (aU s.waits) λv4=>some (!v4) else some false) λs2=>some s2
def cH (s:aj) (t:Int) (loc:Int):Option Int:= bif s.split then gd (Jg .i64<|(3:Int)*t) <|gd (Jg .i64<|((3:Int)*t)+loc) <|some (((3:Int)*t)+loc) else some t
def gX (s:aj) (t:Int):LS Int (Unit ⊕ Bool):=λs4=>bif decide (s4<(3:Int)) then LM (cH s t s4) λv7=>gd (decide<|0<=v7/\v7<(s.waits.length:Int)) <|bif decide ((0:Int)<((s.waits.getD v7.toNat default).length:Int)) then some (.inr<|.inr false) else gd (Jg .i64<|s4+(1:Int)) <|some (.inl<|s4+(1:Int)) else some (.inr<|.inl ())
def dB (s:aj) (t:Int):Option Bool:= sumK (bQ (gX s t) (0:Int)) λs1=>some true
def eO (s:aj):LS ((LI)×Int) (LI):=λs7=>bif decide (s7.2<(s.values.p.length:Int)) then LM (LM (aZ s.values s7.2) λv14=>LM (bif v14.2 then LM (bif (v14.1.Op != (4:Int)) then some (v14.1.Op != (5:Int)) else some false) λs17=>LM (bif s17 then some true else LM (dB s s7.2) λv21=>some v21) λs19=>some s19 else some false) λs15=>bif s15 then gd (fo (s7.1.length+1) 8) <|some (s7.1++[s7.2]) else some s7.1) λs13=>gd (Jg .i64<|s7.2+(1:Int)) <|some (.inl (s13,(s7.2+(1:Int)))) else some (.inr s7.1)
def dZ (s:aj):LS ((LI)×Int) (LI):=λs37=>bif decide (s37.2<(s.waits.length:Int)) then LM (gd (decide<|0<=s37.2/\s37.2<(s.waits.length:Int)) <|bif decide ((0:Int)<((s.waits.getD s37.2.toNat default).length:Int)) then gd (Jg .i64<|(s.values.p.length:Int)+s37.2) <|gd (fo (s37.1.length+1) 8) <|some (s37.1++[((s.values.p.length:Int)+s37.2)]) else some s37.1) λs43=>gd (Jg .i64<|s37.2+(1:Int)) <|some (.inl (s43,(s37.2+(1:Int)))) else some (.inr s37.1)
def bZ (s:aj):Option (LI):= LM (bQ (eO s) (([]:LI),(0:Int))) λs1=>LM (bQ (dZ s) (s1,(0:Int))) λs31=>some s31
def dS (s:LL):Option (LL):= nilK (s.isEmpty) (some ([]:LL)) (gd (fo (([]:LL).length+s.length) 24) <|some<|([]:LL)++s)
def d9 (s:LI):Option (LI):= nilK (s.isEmpty) (some ([]:LI)) (gd (fo (([]:LI).length+s.length) 1) <|some<|([]:LI)++s)
def cf (s:aj) (move:Int):Option aj:= LM (dS s.waits) λv1=>bif decide ((s.values.p.length:Int)<=move) then gd (Jg .i64<|move-(s.values.p.length:Int)) <|gd (decide<|0<=(move-(s.values.p.length:Int))/\(move-(s.values.p.length:Int))<(s.waits.length:Int)) <|gd (decide<|0<=(0:Int)/\(0:Int)<((s.waits.getD (move-(s.values.p.length:Int)).toNat default).length:Int)) <|gd (decide<|0<=(1:Int)/\(1:Int)<=((s.waits.getD (move-(s.values.p.length:Int)).toNat default).length:Int)/\((s.waits.getD (move-(s.values.p.length:Int)).toNat default).length:Int)<=((s.waits.getD (move-(s.values.p.length:Int)).toNat default).length:Int)) <|gd (decide<|0<=(move-(s.values.p.length:Int))/\(move-(s.values.p.length:Int))<(v1.length:Int)) <|gd (decide<|(16:Int)≠0) <|gd (Jg .u8<|((s.waits.getD (move-(s.values.p.length:Int)).toNat default).getD (0:Int).toNat default).tdiv (16:Int)) <|gd (decide<|0<=(((s.waits.getD (move-(s.values.p.length:Int)).toNat default).getD (0:Int).toNat default).tdiv (16:Int))/\(((s.waits.getD (move-(s.values.p.length:Int)).toNat default).getD (0:Int).toNat default).tdiv (16:Int))<3) <|some (⟨(⟨s.values.p,(⟨s.values.pc.x0,s.values.pc.x1,s.values.pc.x2⟩:Z3b),(⟨(⟨s.values.reg.x0.x0,s.values.reg.x0.x1,s.values.reg.x0.x2⟩:Z3b),(⟨s.values.reg.x1.x0,s.values.reg.x1.x1,s.values.reg.x1.x2⟩:Z3b),(⟨s.values.reg.x2.x0,s.values.reg.x2.x1,s.values.reg.x2.x2⟩:Z3b)⟩:Z33),(⟨(Z3b.set s.values.mem (((s.waits.getD (move-(s.values.p.length:Int)).toNat default).getD (0:Int).toNat default).tdiv (16:Int))<|((s.waits.getD (move-(s.values.p.length:Int)).toNat default).getD (0:Int).toNat default).tmod (16:Int)).x0,(Z3b.set s.values.mem (((s.waits.getD (move-(s.values.p.length:Int)).toNat default).getD (0:Int).toNat default).tdiv (16:Int))<|((s.waits.getD (move-(s.values.p.length:Int)).toNat default).getD (0:Int).toNat default).tmod (16:Int)).x1,(Z3b.set s.values.mem (((s.waits.getD (move-(s.values.p.length:Int)).toNat default).getD (0:Int).toNat default).tdiv (16:Int))<|((s.waits.getD (move-(s.values.p.length:Int)).toNat default).getD (0:Int).toNat default).tmod (16:Int)).x2⟩:Z3b)⟩:Jj),s.split,(v1.set ((move-(s.values.p.length:Int)).toNat)<|((s.waits.getD (move-(s.values.p.length:Int)).toNat default).drop (1:Int).toNat).take<|((s.waits.getD (move-(s.values.p.length:Int)).toNat default).length:Int).toNat-(1:Int).toNat)⟩:aj) else LM (aZ s.values move) λv14=>gd (decide<|0<=move/\move<3) <|gd (Jg .u8<|(Z3b.get s.values.pc move)+(1:Int)) <|LM (LM (cN (⟨v14.1.Op,v14.1.Loc,v14.1.Reg,v14.1.Val⟩:Ji)) λv18=>bif v18 then LM (dm s move v14.1.Loc) λv20=>gd (decide<|0<=v14.1.Reg/\v14.1.Reg<3) <|some (((Z33.set s.values.reg move<|Z3b.set (Z33.get s.values.reg move) v14.1.Reg v20).x0).x0,((Z33.set s.values.reg move<|Z3b.set (Z33.get s.values.reg move) v14.1.Reg v20).x0).x1,((Z33.set s.values.reg move<|Z3b.set (Z33.get s.values.reg move) v14.1.Reg v20).x0).x2,((Z33.set s.values.reg move<|Z3b.set (Z33.get s.values.reg move) v14.1.Reg v20).x1).x0,((Z33.set s.values.reg move<|Z3b.set (Z33.get s.values.reg move) v14.1.Reg v20).x1).x1,((Z33.set s.values.reg move<|Z3b.set (Z33.get s.values.reg move) v14.1.Reg v20).x1).x2,((Z33.set s.values.reg move<|Z3b.set (Z33.get s.values.reg move) v14.1.Reg v20).x2).x0,((Z33.set s.values.reg move<|Z3b.set (Z33.get s.values.reg move) v14.1.Reg v20).x2).x1,((Z33.set s.values.reg move<|Z3b.set (Z33.get s.values.reg move) v14.1.Reg v20).x2).x2,v1) else some (s.values.reg.x0.x0,s.values.reg.x0.x1,s.values.reg.x0.x2,s.values.reg.x1.x0,s.values.reg.x1.x1,s.values.reg.x1.x2,s.values.reg.x2.x0,s.values.reg.x2.x1,s.values.reg.x2.x2,v1)) λs17=>LM (LM (bif (v14.1.Op==(2:Int)) then some (v14.1.Op==(2:Int)) else some (v14.1.Op==(3:Int))) λs26=>bif s26 then LM (cH s move v14.1.Loc) λv29=>gd (decide<|0<=v29/\v29<(s.waits.length:Int)) <|gd (Jg .u8 v14.1.Loc) <|gd (Jg .u8<|v14.1.Loc*(16:Int)) <|LM (d9<|s.waits.getD v29.toNat default) λv33=>LM (bz s.values move (⟨v14.1.Op,v14.1.Loc,v14.1.Reg,v14.1.Val⟩:Ji)) λv37=>gd (Jg .u8<|(v14.1.Loc*(16:Int))+v37) <|gd (fo (v33.length+1) 1) <|gd (decide<|0<=v29/\v29<(s17.2.2.2.2.2.2.2.2.2.length:Int)) <|some (s.values.mem.x0,s.values.mem.x1,s.values.mem.x2,(s17.2.2.2.2.2.2.2.2.2.set v29.toNat<|v33++[((v14.1.Loc*(16:Int))+v37)])) else bif (v14.1.Op==(5:Int)) then gd (Jg .u8 v14.1.Val) <|gd (decide<|0<=v14.1.Loc/\v14.1.Loc<3) <|some ((Z3b.set s.values.mem v14.1.Loc v14.1.Val).x0,(Z3b.set s.values.mem v14.1.Loc v14.1.Val).x1,(Z3b.set s.values.mem v14.1.Loc v14.1.Val).x2,s17.2.2.2.2.2.2.2.2.2) else some (s.values.mem.x0,s.values.mem.x1,s.values.mem.x2,s17.2.2.2.2.2.2.2.2.2)) λs25=>some (⟨(⟨s.values.p,(⟨(Z3b.set s.values.pc move<|(Z3b.get s.values.pc move)+(1:Int)).x0,(Z3b.set s.values.pc move<|(Z3b.get s.values.pc move)+(1:Int)).x1,(Z3b.set s.values.pc move<|(Z3b.get s.values.pc move)+(1:Int)).x2⟩:Z3b),(⟨(⟨s17.1,s17.2.1,s17.2.2.1⟩:Z3b),(⟨s17.2.2.2.1,s17.2.2.2.2.1,s17.2.2.2.2.2.1⟩:Z3b),(⟨s17.2.2.2.2.2.2.1,s17.2.2.2.2.2.2.2.1,s17.2.2.2.2.2.2.2.2.1⟩:Z3b)⟩:Z33),(⟨s25.1,s25.2.1,s25.2.2.1⟩:Z3b)⟩:Jj),s.split,s25.2.2.2⟩:aj)
def eC (s9:(List<|ByteArray×Bool)×(LL)×(List aj)) (s19:(LL)) (v27:(LI)):LS ((List<|ByteArray×Bool)×(List aj)×Int) (((List<|ByteArray×Bool)×(LL)×(List aj)) ⊕ ((List<|ByteArray×Bool)×(LL))):=λs31=>bif decide (s31.2.2<(v27.length:Int)) then LM (gd (decide<|0<=s31.2.2/\s31.2.2<(v27.length:Int)) <|LM (cf (s9.2.2.getD (((s9.2.2.length:Int)-(1:Int)).toNat) default)<|v27.getD s31.2.2.toNat default) λv37=>LM (bX v37) λv38=>bif !((vZ s31.1 v38).getD false) then gd (fo (s31.2.1.length+1) 16) <|some ((qL s31.1 v38 true),(s31.2.1++[v37])) else some (s31.1,s31.2.1)) λs35=>gd (Jg .i64<|s31.2.2+(1:Int)) <|some (.inl (s35.1,s35.2,(s31.2.2+(1:Int)))) else some (.inr<|.inl (s31.1,s19,s31.2.1))
def eD:LS ((List<|ByteArray×Bool)×(LL)×(List aj)) ((List<|ByteArray×Bool)×(LL)):=λs9=>bif decide ((0:Int)<(s9.2.2.length:Int)) then gd (Jg .i64<|(s9.2.2.length:Int)-(1:Int)) <|gd (decide<|0<=((s9.2.2.length:Int)-(1:Int))/\((s9.2.2.length:Int)-(1:Int))<(s9.2.2.length:Int)) <|gd (decide<|0<=(0:Int)/\(0:Int)<=((s9.2.2.length:Int)-(1:Int))/\((s9.2.2.length:Int)-(1:Int))<=(s9.2.2.length:Int)) <|LM (LM (cu<|s9.2.2.getD (((s9.2.2.length:Int)-(1:Int)).toNat) default) λv20=>bif v20 then LM (aN<|(s9.2.2.getD (((s9.2.2.length:Int)-(1:Int)).toNat) default).values) λv22=>gd (fo (s9.2.1.length+1) 24) <|some (s9.2.1++[v22]) else some s9.2.1) λs19=>LM (bZ<|s9.2.2.getD (((s9.2.2.length:Int)-(1:Int)).toNat) default) λv27=>bQ (eC s9 s19 v27) (s9.1,((s9.2.2.drop (0:Int).toNat).take<|((s9.2.2.length:Int)-(1:Int)).toNat-(0:Int).toNat),(0:Int)) else some (.inr (s9.1,s9.2.1))
def dH (start:aj):Option ((LL)×Int):= LM (bX start) λv1=>LM (bQ eD ((qL ([]:List<|ByteArray×Bool) v1 true),([]:LL),([start]:List aj))) λs2=>LM (aO s2.2) λv46=>some (v46,(s2.1.length:Int))
def cz (p:List<|List Ji) (split:Bool):Option ((LL)×Int):= LM (aJ p) λv1=>bif !v1 then some (([]:LL),(0:Int)) else LM (gz p split) λv3=>LM (dH v3) λv4=>some (v4.1,v4.2)
def iA (p:List<|List Ji):Option (LL):= LM (cz p false) λv1=>some v1.1
def iB (p:List<|List Ji):Option (LL):= LM (cz p true) λv1=>some v1.1
def kD:LS ((List ai)×(List ai)×(List ai)×Int) ((List ai)×(List ai)×(List ai)):=λs5=>bif decide (s5.2.2.2<(3:Int)) then gd (decide<|0<=s5.2.2.2/\s5.2.2.2<3) <|gd (Jg .i64<|s5.2.2.2+(1:Int)) <|some (.inl ((ae.set (⟨s5.1,s5.2.1,s5.2.2.1⟩:ae) s5.2.2.2 ([(⟨(0:Int),false,(⟨(0:Int),(0:Int),(0:Int)⟩:ah)⟩:ai)]:List ai)).x0,(ae.set (⟨s5.1,s5.2.1,s5.2.2.1⟩:ae) s5.2.2.2 ([(⟨(0:Int),false,(⟨(0:Int),(0:Int),(0:Int)⟩:ah)⟩:ai)]:List ai)).x1,(ae.set (⟨s5.1,s5.2.1,s5.2.2.1⟩:ae) s5.2.2.2 ([(⟨(0:Int),false,(⟨(0:Int),(0:Int),(0:Int)⟩:ah)⟩:ai)]:List ai)).x2,(s5.2.2.2+(1:Int)))) else some (.inr (s5.1,s5.2.1,s5.2.2.1))
def iC (p:List<|List Ji):Option ak:= LM (bQ kD ([],[],[],(0:Int))) λs1=>some (⟨(⟨p,(⟨(0:Int),(0:Int),(0:Int)⟩:Z3b),(⟨(⟨(0:Int),(0:Int),(0:Int)⟩:Z3b),(⟨(0:Int),(0:Int),(0:Int)⟩:Z3b),(⟨(0:Int),(0:Int),(0:Int)⟩:Z3b)⟩:Z33),(⟨(0:Int),(0:Int),(0:Int)⟩:Z3b)⟩:Jj),(⟨s1.1,s1.2.1,s1.2.2⟩:ae),(⟨(⟨(0:Int),(0:Int),(0:Int)⟩:ah),(⟨(0:Int),(0:Int),(0:Int)⟩:ah),(⟨(0:Int),(0:Int),(0:Int)⟩:ah)⟩:aa)⟩:ak)
def gL (s:ak) (s7:(LI)×Int):LS ((LI)×Int) (LI):=λs18=>bif decide (s18.2<((ae.get s.lists s7.2).length:Int)) then gd (decide<|0<=s18.2/\s18.2<((ae.get s.lists s7.2).length:Int)) <|LM (bif ((ae.get s.lists s7.2).getD s18.2.toNat default).taken then some (1:Int) else some (0:Int)) λs23=>gd (fo (s18.1.length+([(⟨((ae.get s.lists s7.2).getD s18.2.toNat default).value,((ae.get s.lists s7.2).getD s18.2.toNat default).taken,(⟨(((ae.get s.lists s7.2).getD s18.2.toNat default).view).x0,(((ae.get s.lists s7.2).getD s18.2.toNat default).view).x1,(((ae.get s.lists s7.2).getD s18.2.toNat default).view).x2⟩:ah)⟩:ai).value,s23]:LI).length) 1) <|gd (fo ((s18.1++([(⟨((ae.get s.lists s7.2).getD s18.2.toNat default).value,((ae.get s.lists s7.2).getD s18.2.toNat default).taken,(⟨(((ae.get s.lists s7.2).getD s18.2.toNat default).view).x0,(((ae.get s.lists s7.2).getD s18.2.toNat default).view).x1,(((ae.get s.lists s7.2).getD s18.2.toNat default).view).x2⟩:ah)⟩:ai).value,s23]:LI)).length+([((⟨((ae.get s.lists s7.2).getD s18.2.toNat default).value,((ae.get s.lists s7.2).getD s18.2.toNat default).taken,(⟨(((ae.get s.lists s7.2).getD s18.2.toNat default).view).x0,(((ae.get s.lists s7.2).getD s18.2.toNat default).view).x1,(((ae.get s.lists s7.2).getD s18.2.toNat default).view).x2⟩:ah)⟩:ai).view).x0,((⟨((ae.get s.lists s7.2).getD s18.2.toNat default).value,((ae.get s.lists s7.2).getD s18.2.toNat default).taken,(⟨(((ae.get s.lists s7.2).getD s18.2.toNat default).view).x0,(((ae.get s.lists s7.2).getD s18.2.toNat default).view).x1,(((ae.get s.lists s7.2).getD s18.2.toNat default).view).x2⟩:ah)⟩:ai).view).x1,((⟨((ae.get s.lists s7.2).getD s18.2.toNat default).value,((ae.get s.lists s7.2).getD s18.2.toNat default).taken,(⟨(((ae.get s.lists s7.2).getD s18.2.toNat default).view).x0,(((ae.get s.lists s7.2).getD s18.2.toNat default).view).x1,(((ae.get s.lists s7.2).getD s18.2.toNat default).view).x2⟩:ah)⟩:ai).view).x2]:LI).length) 1) <|gd (Jg .i64<|s18.2+(1:Int)) <|some (.inl (((s18.1++([(⟨((ae.get s.lists s7.2).getD s18.2.toNat default).value,((ae.get s.lists s7.2).getD s18.2.toNat default).taken,(⟨(((ae.get s.lists s7.2).getD s18.2.toNat default).view).x0,(((ae.get s.lists s7.2).getD s18.2.toNat default).view).x1,(((ae.get s.lists s7.2).getD s18.2.toNat default).view).x2⟩:ah)⟩:ai).value,s23]:LI))++([((⟨((ae.get s.lists s7.2).getD s18.2.toNat default).value,((ae.get s.lists s7.2).getD s18.2.toNat default).taken,(⟨(((ae.get s.lists s7.2).getD s18.2.toNat default).view).x0,(((ae.get s.lists s7.2).getD s18.2.toNat default).view).x1,(((ae.get s.lists s7.2).getD s18.2.toNat default).view).x2⟩:ah)⟩:ai).view).x0,((⟨((ae.get s.lists s7.2).getD s18.2.toNat default).value,((ae.get s.lists s7.2).getD s18.2.toNat default).taken,(⟨(((ae.get s.lists s7.2).getD s18.2.toNat default).view).x0,(((ae.get s.lists s7.2).getD s18.2.toNat default).view).x1,(((ae.get s.lists s7.2).getD s18.2.toNat default).view).x2⟩:ah)⟩:ai).view).x1,((⟨((ae.get s.lists s7.2).getD s18.2.toNat default).value,((ae.get s.lists s7.2).getD s18.2.toNat default).taken,(⟨(((ae.get s.lists s7.2).getD s18.2.toNat default).view).x0,(((ae.get s.lists s7.2).getD s18.2.toNat default).view).x1,(((ae.get s.lists s7.2).getD s18.2.toNat default).view).x2⟩:ah)⟩:ai).view).x2]:LI)),(s18.2+(1:Int)))) else some (.inr s18.1)
def ik (s:ak):LS ((LI)×Int) (LI):=λs7=>bif decide (s7.2<(3:Int)) then LM (gd (decide<|0<=s7.2/\s7.2<3) <|gd (Jg .u8 ((ae.get s.lists s7.2).length:Int)) <|gd (fo (s7.1.length+1) 1) <|bQ (gL s s7) ((s7.1++[((ae.get s.lists s7.2).length:Int)]),(0:Int))) λs11=>gd (Jg .i64<|s7.2+(1:Int)) <|some (.inl (s11,(s7.2+(1:Int)))) else some (.inr s7.1)
def gM (s:ak):LS ((LI)×Int) (LI):=λs35=>bif decide (s35.2<(3:Int)) then gd (decide<|0<=s35.2/\s35.2<3) <|gd (fo (s35.1.length+([(⟨(aa.get s.own s35.2).x0,(aa.get s.own s35.2).x1,(aa.get s.own s35.2).x2⟩:ah).x0,(⟨(aa.get s.own s35.2).x0,(aa.get s.own s35.2).x1,(aa.get s.own s35.2).x2⟩:ah).x1,(⟨(aa.get s.own s35.2).x0,(aa.get s.own s35.2).x1,(aa.get s.own s35.2).x2⟩:ah).x2]:LI).length) 1) <|gd (Jg .i64<|s35.2+(1:Int)) <|some (.inl ((s35.1++([(⟨(aa.get s.own s35.2).x0,(aa.get s.own s35.2).x1,(aa.get s.own s35.2).x2⟩:ah).x0,(⟨(aa.get s.own s35.2).x0,(aa.get s.own s35.2).x1,(aa.get s.own s35.2).x2⟩:ah).x1,(⟨(aa.get s.own s35.2).x0,(aa.get s.own s35.2).x1,(aa.get s.own s35.2).x2⟩:ah).x2]:LI)),(s35.2+(1:Int)))) else some (.inr s35.1)
def cm (s:ak):Option ByteArray:= LM (bI s.values) λv1=>gd (decide<|v1.size<=35184372088832) <|LM (bQ (ik s) ((jl v1),(0:Int))) λs3=>LM (bQ (gM s) (s3,(0:Int))) λs31=>some<|strOfNums s31
def cA (s:ak):Option Bool:= LM (bh s.values) λv1=>some v1
def fM (v:Jj) (s7:(LI)×Int):LS ((LI)×Int) (LI):=λs20=>bif decide (s20.2<(3:Int)) then gd (decide<|0<=s20.2/\s20.2<3) <|gd (Jg .i64<|Z3b.get (Z33.get v.reg s7.2) s20.2) <|gd (fo (s20.1.length+1) 8) <|gd (Jg .i64<|s20.2+(1:Int)) <|some (.inl ((s20.1++[(Z3b.get (Z33.get v.reg s7.2) s20.2)]),(s20.2+(1:Int)))) else some (.inr s20.1)
def dw (v:Jj):LS ((LI)×Int) (LI):=λs7=>bif decide (s7.2<(v.p.length:Int)) then LM (gd (decide<|0<=s7.2/\s7.2<3) <|bQ (fM v s7) (s7.1,(0:Int))) λs13=>gd (Jg .i64<|s7.2+(1:Int)) <|some (.inl (s13,(s7.2+(1:Int)))) else some (.inr s7.1)
def db (v:Jj):LS ((LI)×Int) (LI):=λs43=>bif decide (s43.2<(3:Int)) then gd (decide<|0<=s43.2/\s43.2<3) <|gd (Jg .i64<|Z3b.get v.mem s43.2) <|gd (fo (s43.1.length+1) 8) <|gd (Jg .i64<|s43.2+(1:Int)) <|some (.inl ((s43.1++[(Z3b.get v.mem s43.2)]),(s43.2+(1:Int)))) else some (.inr s43.1)
def cO (v:Jj):Option (Jj×(LI)):= LM (bQ (dw v) (([]:LI),(0:Int))) λs1=>LM (bQ (db v) (s1,(0:Int))) λs37=>some ((⟨v.p,(⟨v.pc.x0,v.pc.x1,v.pc.x2⟩:Z3b),(⟨(⟨v.reg.x0.x0,v.reg.x0.x1,v.reg.x0.x2⟩:Z3b),(⟨v.reg.x1.x0,v.reg.x1.x1,v.reg.x1.x2⟩:Z3b),(⟨v.reg.x2.x0,v.reg.x2.x1,v.reg.x2.x2⟩:Z3b)⟩:Z33),(⟨v.mem.x0,v.mem.x1,v.mem.x2⟩:Z3b)⟩:Jj),s37)
def iD (s:ak):LS (Int×Int×Int×Int) (Int×Int×Int):=λs5=>bif decide (s5.2.2.2<(3:Int)) then gd (decide<|0<=s5.2.2.2/\s5.2.2.2<3) <|gd (Jg .i64<|((ae.get s.lists s5.2.2.2).length:Int)-(1:Int)) <|gd (decide<|0<=(((ae.get s.lists s5.2.2.2).length:Int)-(1:Int))/\(((ae.get s.lists s5.2.2.2).length:Int)-(1:Int))<((ae.get s.lists s5.2.2.2).length:Int)) <|gd (Jg .i64<|s5.2.2.2+(1:Int)) <|some (.inl ((Z3b.set (⟨s5.1,s5.2.1,s5.2.2.1⟩:Z3b) s5.2.2.2<|((ae.get s.lists s5.2.2.2).getD (((ae.get s.lists s5.2.2.2).length:Int)-(1:Int)).toNat default).value).x0,(Z3b.set (⟨s5.1,s5.2.1,s5.2.2.1⟩:Z3b) s5.2.2.2<|((ae.get s.lists s5.2.2.2).getD (((ae.get s.lists s5.2.2.2).length:Int)-(1:Int)).toNat default).value).x1,(Z3b.set (⟨s5.1,s5.2.1,s5.2.2.1⟩:Z3b) s5.2.2.2<|((ae.get s.lists s5.2.2.2).getD (((ae.get s.lists s5.2.2.2).length:Int)-(1:Int)).toNat default).value).x2,(s5.2.2.2+(1:Int)))) else some (.inr (s5.1,s5.2.1,s5.2.2.1))
def bG (s:ak):Option (LI):= LM (bQ (iD s) (s.values.mem.x0,s.values.mem.x1,s.values.mem.x2,(0:Int))) λs1=>LM (cO (⟨s.values.p,(⟨s.values.pc.x0,s.values.pc.x1,s.values.pc.x2⟩:Z3b),(⟨(⟨s.values.reg.x0.x0,s.values.reg.x0.x1,s.values.reg.x0.x2⟩:Z3b),(⟨s.values.reg.x1.x0,s.values.reg.x1.x1,s.values.reg.x1.x2⟩:Z3b),(⟨s.values.reg.x2.x0,s.values.reg.x2.x1,s.values.reg.x2.x2⟩:Z3b)⟩:Z33),(⟨s1.1,s1.2.1,s1.2.2⟩:Z3b)⟩:Jj)) λv12=>some v12.2
def eP (s:ak) (t:Int) (v1:Ji×Bool):LS ((LI)×Int) (LI):=λs13=>bif decide (s13.2<=((ae.get s.lists v1.1.Loc).length:Int)) then LM (LM (bif (v1.1.Op==(1:Int)) then some (decide<|s13.2<((ae.get s.lists v1.1.Loc).length:Int)) else bif (v1.1.Op==(5:Int)) then LM (bif decide (s13.2<((ae.get s.lists v1.1.Loc).length:Int)) then gd (decide<|0<=s13.2/\s13.2<((ae.get s.lists v1.1.Loc).length:Int)) <|some (!(((ae.get s.lists v1.1.Loc).getD s13.2.toNat default).taken)) else some false) λs23=>some s23 else LM (bif decide ((ah.get (aa.get s.own t) v1.1.Loc)<s13.2) then gd (Jg .i64<|s13.2-(1:Int)) <|gd (decide<|0<=(s13.2-(1:Int))/\(s13.2-(1:Int))<((ae.get s.lists v1.1.Loc).length:Int)) <|some (!(((ae.get s.lists v1.1.Loc).getD (s13.2-(1:Int)).toNat default).taken)) else some false) λs26=>some s26) λs20=>bif s20 then gd (fo (s13.1.length+1) 8) <|some (s13.1++[s13.2]) else some s13.1) λs19=>gd (Jg .i64<|s13.2+(1:Int)) <|some (.inl (s19,(s13.2+(1:Int)))) else some (.inr s13.1)
def eQ (s:ak) (t:Int):Option (LI):= LM (aZ s.values t) λv1=>bif !v1.2 then some ([]:LI) else bif (v1.1.Op==(4:Int)) then some ([(0:Int)]:LI) else gd (decide<|0<=v1.1.Loc/\v1.1.Loc<3) <|gd (decide<|0<=t/\t<3) <|gd (Jg .i64<|ah.get (aa.get s.own t) v1.1.Loc) <|LM (bQ (eP s t v1) (([]:LI),(ah.get (aa.get s.own t) v1.1.Loc))) λs7=>some s7
def fG (s7:(LI)×Int) (v14:(LI)):LS ((LI)×Int) (LI):=λs20=>bif decide (s20.2<(v14.length:Int)) then gd (decide<|0<=s20.2/\s20.2<(v14.length:Int)) <|gd (Jg .i64<|(3:Int)*(v14.getD s20.2.toNat default)) <|gd (Jg .i64<|((3:Int)*(v14.getD s20.2.toNat default))+s7.2) <|gd (fo (s20.1.length+1) 8) <|gd (Jg .i64<|s20.2+(1:Int)) <|some (.inl ((s20.1++[(((3:Int)*(v14.getD s20.2.toNat default))+s7.2)]),(s20.2+(1:Int)))) else some (.inr s20.1)
def gq (s:ak):LS ((LI)×Int) (LI):=λs7=>bif decide (s7.2<(s.values.p.length:Int)) then LM (LM (eQ s s7.2) λv14=>bQ (fG s7 v14) (s7.1,(0:Int))) λs13=>gd (Jg .i64<|s7.2+(1:Int)) <|some (.inl (s13,(s7.2+(1:Int)))) else some (.inr s7.1)
def bJ (s:ak):Option (LI):= LM (bQ (gq s) (([]:LI),(0:Int))) λs1=>LM (jr s1) λv38=>some v38
def aT (s:List ai):Option (List ai):= nilK (s.isEmpty) (some ([]:List ai)) (gd (fo (([]:List ai).length+s.length) 5) <|some<|([]:List ai)++s)
def jd (o_:ah):LS (Int×Int×Int×Int) (Int×Int×Int):=λs5=>bif decide (s5.2.2.2<(3:Int)) then gd (decide<|0<=s5.2.2.2/\s5.2.2.2<3) <|gd (Jg .i64<|s5.2.2.2+(1:Int)) <|some (.inl ((ah.set (⟨s5.1,s5.2.1,s5.2.2.1⟩:ah) s5.2.2.2<|if (ah.get o_ s5.2.2.2)>(ah.get (⟨s5.1,s5.2.1,s5.2.2.1⟩:ah) s5.2.2.2) then (ah.get o_ s5.2.2.2) else (ah.get (⟨s5.1,s5.2.1,s5.2.2.1⟩:ah) s5.2.2.2)).x0,(ah.set (⟨s5.1,s5.2.1,s5.2.2.1⟩:ah) s5.2.2.2<|if (ah.get o_ s5.2.2.2)>(ah.get (⟨s5.1,s5.2.1,s5.2.2.1⟩:ah) s5.2.2.2) then (ah.get o_ s5.2.2.2) else (ah.get (⟨s5.1,s5.2.1,s5.2.2.1⟩:ah) s5.2.2.2)).x1,(ah.set (⟨s5.1,s5.2.1,s5.2.2.1⟩:ah) s5.2.2.2<|if (ah.get o_ s5.2.2.2)>(ah.get (⟨s5.1,s5.2.1,s5.2.2.1⟩:ah) s5.2.2.2) then (ah.get o_ s5.2.2.2) else (ah.get (⟨s5.1,s5.2.1,s5.2.2.1⟩:ah) s5.2.2.2)).x2,(s5.2.2.2+(1:Int)))) else some (.inr (s5.1,s5.2.1,s5.2.2.1))
def fO (v:ah) (o_:ah):Option ah:= LM (bQ (jd o_) (v.x0,v.x1,v.x2,(0:Int))) λs1=>some (⟨s1.1,s1.2.1,s1.2.2⟩:ah)
def aL (v:ah) (loc:Int) (place:Int):Option ah:= LM (gd (decide<|0<=loc/\loc<3) <|bif decide (place<=(ah.get v loc)) then gd (Jg .u8<|(ah.get v loc)+(1:Int)) <|some ((ah.set v loc<|(ah.get v loc)+(1:Int)).x0,(ah.set v loc<|(ah.get v loc)+(1:Int)).x1,(ah.set v loc<|(ah.get v loc)+(1:Int)).x2) else some (v.x0,v.x1,v.x2)) λs1=>some (⟨s1.1,s1.2.1,s1.2.2⟩:ah)
def fH (move:Int) (v21:Ji×Bool) (s24:Int×Int×Int×Int×Int×Int×Int×Int×Int×Int×Int×Int×Int×Int×Int×Int×Int×Int×(List ai)×(List ai)×(List ai)):LS ((List ai)×Int) (List ai):=λs52=>bif decide (s52.2<(s24.2.2.2.2.2.2.2.2.2.2.2.2.2.2.2.2.2.2.1.length:Int)) then gd (decide<|0<=s52.2/\s52.2<(s52.1.length:Int)) <|LM (aL ((s52.1.getD s52.2.toNat default).view) v21.1.Loc<|move.tdiv (3:Int)) λv59=>gd (Jg .i64<|s52.2+(1:Int)) <|some (.inl ((s52.1.set s52.2.toNat<|{ (s52.1.getD s52.2.toNat default) with view:=v59 }),(s52.2+(1:Int)))) else some (.inr s52.1)
def fI (move:Int) (v21:Ji×Bool) (s24:Int×Int×Int×Int×Int×Int×Int×Int×Int×Int×Int×Int×Int×Int×Int×Int×Int×Int×(List ai)×(List ai)×(List ai)):LS ((List ai)×Int) (List ai):=λs70=>bif decide (s70.2<(s24.2.2.2.2.2.2.2.2.2.2.2.2.2.2.2.2.2.2.2.1.length:Int)) then gd (decide<|0<=s70.2/\s70.2<(s70.1.length:Int)) <|LM (aL ((s70.1.getD s70.2.toNat default).view) v21.1.Loc<|move.tdiv (3:Int)) λv77=>gd (Jg .i64<|s70.2+(1:Int)) <|some (.inl ((s70.1.set s70.2.toNat<|{ (s70.1.getD s70.2.toNat default) with view:=v77 }),(s70.2+(1:Int)))) else some (.inr s70.1)
def fJ (move:Int) (v21:Ji×Bool) (s24:Int×Int×Int×Int×Int×Int×Int×Int×Int×Int×Int×Int×Int×Int×Int×Int×Int×Int×(List ai)×(List ai)×(List ai)):LS ((List ai)×Int) (List ai):=λs88=>bif decide (s88.2<(s24.2.2.2.2.2.2.2.2.2.2.2.2.2.2.2.2.2.2.2.2.length:Int)) then gd (decide<|0<=s88.2/\s88.2<(s88.1.length:Int)) <|LM (aL ((s88.1.getD s88.2.toNat default).view) v21.1.Loc<|move.tdiv (3:Int)) λv95=>gd (Jg .i64<|s88.2+(1:Int)) <|some (.inl ((s88.1.set s88.2.toNat<|{ (s88.1.getD s88.2.toNat default) with view:=v95 }),(s88.2+(1:Int)))) else some (.inr s88.1)
def eT (move:Int) (v21:Ji×Bool) (s24:Int×Int×Int×Int×Int×Int×Int×Int×Int×Int×Int×Int×Int×Int×Int×Int×Int×Int×(List ai)×(List ai)×(List ai)):LS ((List ai)×Int) (List ai):=λlj=>bif decide (lj.2<(s24.2.2.2.2.2.2.2.2.2.2.2.2.2.2.2.2.2.2.1.length:Int)) then gd (decide<|0<=lj.2/\lj.2<(lj.1.length:Int)) <|LM (aL ((lj.1.getD lj.2.toNat default).view) v21.1.Loc<|(move.tdiv (3:Int))+(1:Int)) λv136=>gd (Jg .i64<|lj.2+(1:Int)) <|some (.inl ((lj.1.set lj.2.toNat<|{ (lj.1.getD lj.2.toNat default) with view:=v136 }),(lj.2+(1:Int)))) else some (.inr lj.1)
def eU (move:Int) (v21:Ji×Bool) (s24:Int×Int×Int×Int×Int×Int×Int×Int×Int×Int×Int×Int×Int×Int×Int×Int×Int×Int×(List ai)×(List ai)×(List ai)):LS ((List ai)×Int) (List ai):=λll=>bif decide (ll.2<(s24.2.2.2.2.2.2.2.2.2.2.2.2.2.2.2.2.2.2.2.1.length:Int)) then gd (decide<|0<=ll.2/\ll.2<(ll.1.length:Int)) <|LM (aL ((ll.1.getD ll.2.toNat default).view) v21.1.Loc<|(move.tdiv (3:Int))+(1:Int)) λv154=>gd (Jg .i64<|ll.2+(1:Int)) <|some (.inl ((ll.1.set ll.2.toNat<|{ (ll.1.getD ll.2.toNat default) with view:=v154 }),(ll.2+(1:Int)))) else some (.inr ll.1)
def eX (move:Int) (v21:Ji×Bool) (s24:Int×Int×Int×Int×Int×Int×Int×Int×Int×Int×Int×Int×Int×Int×Int×Int×Int×Int×(List ai)×(List ai)×(List ai)):LS ((List ai)×Int) (List ai):=λlm=>bif decide (lm.2<(s24.2.2.2.2.2.2.2.2.2.2.2.2.2.2.2.2.2.2.2.2.length:Int)) then gd (decide<|0<=lm.2/\lm.2<(lm.1.length:Int)) <|LM (aL ((lm.1.getD lm.2.toNat default).view) v21.1.Loc<|(move.tdiv (3:Int))+(1:Int)) λv172=>gd (Jg .i64<|lm.2+(1:Int)) <|some (.inl ((lm.1.set lm.2.toNat<|{ (lm.1.getD lm.2.toNat default) with view:=v172 }),(lm.2+(1:Int)))) else some (.inr lm.1)
def bK (s:ak) (move:Int):Option ak:= gd (decide<|0<=(0:Int)/\(0:Int)<3) <|LM (aT<|ae.get s.lists (0:Int)) λv2=>gd (Jg .i64<|(0:Int)+(1:Int)) <|gd (decide<|0<=(1:Int)/\(1:Int)<3) <|LM (aT<|ae.get s.lists (1:Int)) λv8=>gd (Jg .i64<|(1:Int)+(1:Int)) <|gd (decide<|0<=(2:Int)/\(2:Int)<3) <|LM (aT<|ae.get s.lists (2:Int)) λv14=>gd (Jg .i64<|(2:Int)+(1:Int)) <|gd (decide<|(3:Int)≠0) <|gd (Jg .i64<|move.tdiv (3:Int)) <|LM (aZ s.values<|move.tmod (3:Int)) λv21=>gd (decide<|0<=(move.tmod (3:Int))/\(move.tmod (3:Int))<3) <|gd (Jg .u8<|(Z3b.get s.values.pc<|move.tmod (3:Int))+(1:Int)) <|LM (LM (cN (⟨v21.1.Op,v21.1.Loc,v21.1.Reg,v21.1.Val⟩:Ji)) λv25=>bif v25 then gd (decide<|0<=v21.1.Loc/\v21.1.Loc<3) <|gd (decide<|0<=(move.tdiv (3:Int))/\(move.tdiv (3:Int))<((ae.get s.lists v21.1.Loc).length:Int)) <|gd (decide<|0<=v21.1.Reg/\v21.1.Reg<3) <|LM (fO (aa.get s.own<|move.tmod (3:Int))<|((ae.get s.lists v21.1.Loc).getD (move.tdiv (3:Int)).toNat default).view) λv30=>some (((Z33.set s.values.reg (move.tmod (3:Int))<|Z3b.set (Z33.get s.values.reg<|move.tmod (3:Int)) v21.1.Reg<|((ae.get s.lists v21.1.Loc).getD (move.tdiv (3:Int)).toNat default).value).x0).x0,((Z33.set s.values.reg (move.tmod (3:Int))<|Z3b.set (Z33.get s.values.reg<|move.tmod (3:Int)) v21.1.Reg<|((ae.get s.lists v21.1.Loc).getD (move.tdiv (3:Int)).toNat default).value).x0).x1,((Z33.set s.values.reg (move.tmod (3:Int))<|Z3b.set (Z33.get s.values.reg<|move.tmod (3:Int)) v21.1.Reg<|((ae.get s.lists v21.1.Loc).getD (move.tdiv (3:Int)).toNat default).value).x0).x2,((Z33.set s.values.reg (move.tmod (3:Int))<|Z3b.set (Z33.get s.values.reg<|move.tmod (3:Int)) v21.1.Reg<|((ae.get s.lists v21.1.Loc).getD (move.tdiv (3:Int)).toNat default).value).x1).x0,((Z33.set s.values.reg (move.tmod (3:Int))<|Z3b.set (Z33.get s.values.reg<|move.tmod (3:Int)) v21.1.Reg<|((ae.get s.lists v21.1.Loc).getD (move.tdiv (3:Int)).toNat default).value).x1).x1,((Z33.set s.values.reg (move.tmod (3:Int))<|Z3b.set (Z33.get s.values.reg<|move.tmod (3:Int)) v21.1.Reg<|((ae.get s.lists v21.1.Loc).getD (move.tdiv (3:Int)).toNat default).value).x1).x2,((Z33.set s.values.reg (move.tmod (3:Int))<|Z3b.set (Z33.get s.values.reg<|move.tmod (3:Int)) v21.1.Reg<|((ae.get s.lists v21.1.Loc).getD (move.tdiv (3:Int)).toNat default).value).x2).x0,((Z33.set s.values.reg (move.tmod (3:Int))<|Z3b.set (Z33.get s.values.reg<|move.tmod (3:Int)) v21.1.Reg<|((ae.get s.lists v21.1.Loc).getD (move.tdiv (3:Int)).toNat default).value).x2).x1,((Z33.set s.values.reg (move.tmod (3:Int))<|Z3b.set (Z33.get s.values.reg<|move.tmod (3:Int)) v21.1.Reg<|((ae.get s.lists v21.1.Loc).getD (move.tdiv (3:Int)).toNat default).value).x2).x2,((aa.set s.own (move.tmod (3:Int)) v30).x0).x0,((aa.set s.own (move.tmod (3:Int)) v30).x0).x1,((aa.set s.own (move.tmod (3:Int)) v30).x0).x2,((aa.set s.own (move.tmod (3:Int)) v30).x1).x0,((aa.set s.own (move.tmod (3:Int)) v30).x1).x1,((aa.set s.own (move.tmod (3:Int)) v30).x1).x2,((aa.set s.own (move.tmod (3:Int)) v30).x2).x0,((aa.set s.own (move.tmod (3:Int)) v30).x2).x1,((aa.set s.own (move.tmod (3:Int)) v30).x2).x2,v2,v8,v14) else some (s.values.reg.x0.x0,s.values.reg.x0.x1,s.values.reg.x0.x2,s.values.reg.x1.x0,s.values.reg.x1.x1,s.values.reg.x1.x2,s.values.reg.x2.x0,s.values.reg.x2.x1,s.values.reg.x2.x2,s.own.x0.x0,s.own.x0.x1,s.own.x0.x2,s.own.x1.x0,s.own.x1.x1,s.own.x1.x2,s.own.x2.x0,s.own.x2.x1,s.own.x2.x2,v2,v8,v14)) λs24=>LM (LM (bif (v21.1.Op==(2:Int)) then some (v21.1.Op==(2:Int)) else some (v21.1.Op==(3:Int))) λs41=>bif s41 then gd (Jg .u8<|move.tdiv (3:Int)) <|LM (bz s.values (move.tmod (3:Int)) (⟨v21.1.Op,v21.1.Loc,v21.1.Reg,v21.1.Val⟩:Ji)) λv45=>LM (bQ (fH move v21 s24) (s24.2.2.2.2.2.2.2.2.2.2.2.2.2.2.2.2.2.2.1,(0:Int))) λs46=>LM (bQ (fI move v21 s24) (s24.2.2.2.2.2.2.2.2.2.2.2.2.2.2.2.2.2.2.2.1,(0:Int))) λs64=>LM (bQ (fJ move v21 s24) (s24.2.2.2.2.2.2.2.2.2.2.2.2.2.2.2.2.2.2.2.2,(0:Int))) λs82=>LM (aL (⟨s24.2.2.2.2.2.2.2.2.2.1,s24.2.2.2.2.2.2.2.2.2.2.1,s24.2.2.2.2.2.2.2.2.2.2.2.1⟩:ah) v21.1.Loc<|move.tdiv (3:Int)) λaD=>LM (aL (⟨s24.2.2.2.2.2.2.2.2.2.2.2.2.1,s24.2.2.2.2.2.2.2.2.2.2.2.2.2.1,s24.2.2.2.2.2.2.2.2.2.2.2.2.2.2.1⟩:ah) v21.1.Loc<|move.tdiv (3:Int)) λaG=>LM (aL (⟨s24.2.2.2.2.2.2.2.2.2.2.2.2.2.2.2.1,s24.2.2.2.2.2.2.2.2.2.2.2.2.2.2.2.2.1,s24.2.2.2.2.2.2.2.2.2.2.2.2.2.2.2.2.2.1⟩:ah) v21.1.Loc<|move.tdiv (3:Int)) λaH=>gd (decide<|0<=v21.1.Loc/\v21.1.Loc<3) <|bif decide (v21.1.Loc=(0:Int)) then LM (cg s46 (move.tdiv (3:Int)) ([(⟨v45,false,(aa.get (⟨((aa.set (⟨aD,aG,aH⟩:aa) (move.tmod (3:Int))<|ah.set (aa.get (⟨aD,aG,aH⟩:aa)<|move.tmod (3:Int)) v21.1.Loc<|move.tdiv (3:Int)).x0),((aa.set (⟨aD,aG,aH⟩:aa) (move.tmod (3:Int))<|ah.set (aa.get (⟨aD,aG,aH⟩:aa)<|move.tmod (3:Int)) v21.1.Loc<|move.tdiv (3:Int)).x1),((aa.set (⟨aD,aG,aH⟩:aa) (move.tmod (3:Int))<|ah.set (aa.get (⟨aD,aG,aH⟩:aa)<|move.tmod (3:Int)) v21.1.Loc<|move.tdiv (3:Int)).x2)⟩:aa)<|move.tmod (3:Int))⟩:ai)]:List ai)) λv105=>some (((aa.set (⟨aD,aG,aH⟩:aa) (move.tmod (3:Int))<|ah.set (aa.get (⟨aD,aG,aH⟩:aa)<|move.tmod (3:Int)) v21.1.Loc<|move.tdiv (3:Int)).x0).x0,((aa.set (⟨aD,aG,aH⟩:aa) (move.tmod (3:Int))<|ah.set (aa.get (⟨aD,aG,aH⟩:aa)<|move.tmod (3:Int)) v21.1.Loc<|move.tdiv (3:Int)).x0).x1,((aa.set (⟨aD,aG,aH⟩:aa) (move.tmod (3:Int))<|ah.set (aa.get (⟨aD,aG,aH⟩:aa)<|move.tmod (3:Int)) v21.1.Loc<|move.tdiv (3:Int)).x0).x2,((aa.set (⟨aD,aG,aH⟩:aa) (move.tmod (3:Int))<|ah.set (aa.get (⟨aD,aG,aH⟩:aa)<|move.tmod (3:Int)) v21.1.Loc<|move.tdiv (3:Int)).x1).x0,((aa.set (⟨aD,aG,aH⟩:aa) (move.tmod (3:Int))<|ah.set (aa.get (⟨aD,aG,aH⟩:aa)<|move.tmod (3:Int)) v21.1.Loc<|move.tdiv (3:Int)).x1).x1,((aa.set (⟨aD,aG,aH⟩:aa) (move.tmod (3:Int))<|ah.set (aa.get (⟨aD,aG,aH⟩:aa)<|move.tmod (3:Int)) v21.1.Loc<|move.tdiv (3:Int)).x1).x2,((aa.set (⟨aD,aG,aH⟩:aa) (move.tmod (3:Int))<|ah.set (aa.get (⟨aD,aG,aH⟩:aa)<|move.tmod (3:Int)) v21.1.Loc<|move.tdiv (3:Int)).x2).x0,((aa.set (⟨aD,aG,aH⟩:aa) (move.tmod (3:Int))<|ah.set (aa.get (⟨aD,aG,aH⟩:aa)<|move.tmod (3:Int)) v21.1.Loc<|move.tdiv (3:Int)).x2).x1,((aa.set (⟨aD,aG,aH⟩:aa) (move.tmod (3:Int))<|ah.set (aa.get (⟨aD,aG,aH⟩:aa)<|move.tmod (3:Int)) v21.1.Loc<|move.tdiv (3:Int)).x2).x2,v105,s64,s82) else bif decide (v21.1.Loc=(1:Int)) then LM (cg s64 (move.tdiv (3:Int)) ([(⟨v45,false,(aa.get (⟨((aa.set (⟨aD,aG,aH⟩:aa) (move.tmod (3:Int))<|ah.set (aa.get (⟨aD,aG,aH⟩:aa)<|move.tmod (3:Int)) v21.1.Loc<|move.tdiv (3:Int)).x0),((aa.set (⟨aD,aG,aH⟩:aa) (move.tmod (3:Int))<|ah.set (aa.get (⟨aD,aG,aH⟩:aa)<|move.tmod (3:Int)) v21.1.Loc<|move.tdiv (3:Int)).x1),((aa.set (⟨aD,aG,aH⟩:aa) (move.tmod (3:Int))<|ah.set (aa.get (⟨aD,aG,aH⟩:aa)<|move.tmod (3:Int)) v21.1.Loc<|move.tdiv (3:Int)).x2)⟩:aa)<|move.tmod (3:Int))⟩:ai)]:List ai)) λv110=>some (((aa.set (⟨aD,aG,aH⟩:aa) (move.tmod (3:Int))<|ah.set (aa.get (⟨aD,aG,aH⟩:aa)<|move.tmod (3:Int)) v21.1.Loc<|move.tdiv (3:Int)).x0).x0,((aa.set (⟨aD,aG,aH⟩:aa) (move.tmod (3:Int))<|ah.set (aa.get (⟨aD,aG,aH⟩:aa)<|move.tmod (3:Int)) v21.1.Loc<|move.tdiv (3:Int)).x0).x1,((aa.set (⟨aD,aG,aH⟩:aa) (move.tmod (3:Int))<|ah.set (aa.get (⟨aD,aG,aH⟩:aa)<|move.tmod (3:Int)) v21.1.Loc<|move.tdiv (3:Int)).x0).x2,((aa.set (⟨aD,aG,aH⟩:aa) (move.tmod (3:Int))<|ah.set (aa.get (⟨aD,aG,aH⟩:aa)<|move.tmod (3:Int)) v21.1.Loc<|move.tdiv (3:Int)).x1).x0,((aa.set (⟨aD,aG,aH⟩:aa) (move.tmod (3:Int))<|ah.set (aa.get (⟨aD,aG,aH⟩:aa)<|move.tmod (3:Int)) v21.1.Loc<|move.tdiv (3:Int)).x1).x1,((aa.set (⟨aD,aG,aH⟩:aa) (move.tmod (3:Int))<|ah.set (aa.get (⟨aD,aG,aH⟩:aa)<|move.tmod (3:Int)) v21.1.Loc<|move.tdiv (3:Int)).x1).x2,((aa.set (⟨aD,aG,aH⟩:aa) (move.tmod (3:Int))<|ah.set (aa.get (⟨aD,aG,aH⟩:aa)<|move.tmod (3:Int)) v21.1.Loc<|move.tdiv (3:Int)).x2).x0,((aa.set (⟨aD,aG,aH⟩:aa) (move.tmod (3:Int))<|ah.set (aa.get (⟨aD,aG,aH⟩:aa)<|move.tmod (3:Int)) v21.1.Loc<|move.tdiv (3:Int)).x2).x1,((aa.set (⟨aD,aG,aH⟩:aa) (move.tmod (3:Int))<|ah.set (aa.get (⟨aD,aG,aH⟩:aa)<|move.tmod (3:Int)) v21.1.Loc<|move.tdiv (3:Int)).x2).x2,s46,v110,s82) else bif decide (v21.1.Loc=(2:Int)) then LM (cg s82 (move.tdiv (3:Int)) ([(⟨v45,false,(aa.get (⟨((aa.set (⟨aD,aG,aH⟩:aa) (move.tmod (3:Int))<|ah.set (aa.get (⟨aD,aG,aH⟩:aa)<|move.tmod (3:Int)) v21.1.Loc<|move.tdiv (3:Int)).x0),((aa.set (⟨aD,aG,aH⟩:aa) (move.tmod (3:Int))<|ah.set (aa.get (⟨aD,aG,aH⟩:aa)<|move.tmod (3:Int)) v21.1.Loc<|move.tdiv (3:Int)).x1),((aa.set (⟨aD,aG,aH⟩:aa) (move.tmod (3:Int))<|ah.set (aa.get (⟨aD,aG,aH⟩:aa)<|move.tmod (3:Int)) v21.1.Loc<|move.tdiv (3:Int)).x2)⟩:aa)<|move.tmod (3:Int))⟩:ai)]:List ai)) λv115=>some (((aa.set (⟨aD,aG,aH⟩:aa) (move.tmod (3:Int))<|ah.set (aa.get (⟨aD,aG,aH⟩:aa)<|move.tmod (3:Int)) v21.1.Loc<|move.tdiv (3:Int)).x0).x0,((aa.set (⟨aD,aG,aH⟩:aa) (move.tmod (3:Int))<|ah.set (aa.get (⟨aD,aG,aH⟩:aa)<|move.tmod (3:Int)) v21.1.Loc<|move.tdiv (3:Int)).x0).x1,((aa.set (⟨aD,aG,aH⟩:aa) (move.tmod (3:Int))<|ah.set (aa.get (⟨aD,aG,aH⟩:aa)<|move.tmod (3:Int)) v21.1.Loc<|move.tdiv (3:Int)).x0).x2,((aa.set (⟨aD,aG,aH⟩:aa) (move.tmod (3:Int))<|ah.set (aa.get (⟨aD,aG,aH⟩:aa)<|move.tmod (3:Int)) v21.1.Loc<|move.tdiv (3:Int)).x1).x0,((aa.set (⟨aD,aG,aH⟩:aa) (move.tmod (3:Int))<|ah.set (aa.get (⟨aD,aG,aH⟩:aa)<|move.tmod (3:Int)) v21.1.Loc<|move.tdiv (3:Int)).x1).x1,((aa.set (⟨aD,aG,aH⟩:aa) (move.tmod (3:Int))<|ah.set (aa.get (⟨aD,aG,aH⟩:aa)<|move.tmod (3:Int)) v21.1.Loc<|move.tdiv (3:Int)).x1).x2,((aa.set (⟨aD,aG,aH⟩:aa) (move.tmod (3:Int))<|ah.set (aa.get (⟨aD,aG,aH⟩:aa)<|move.tmod (3:Int)) v21.1.Loc<|move.tdiv (3:Int)).x2).x0,((aa.set (⟨aD,aG,aH⟩:aa) (move.tmod (3:Int))<|ah.set (aa.get (⟨aD,aG,aH⟩:aa)<|move.tmod (3:Int)) v21.1.Loc<|move.tdiv (3:Int)).x2).x1,((aa.set (⟨aD,aG,aH⟩:aa) (move.tmod (3:Int))<|ah.set (aa.get (⟨aD,aG,aH⟩:aa)<|move.tmod (3:Int)) v21.1.Loc<|move.tdiv (3:Int)).x2).x2,s46,s64,v115) else none else bif (v21.1.Op==(5:Int)) then gd (Jg .i64<|(move.tdiv (3:Int))+(1:Int)) <|gd (Jg .u8<|(move.tdiv (3:Int))+(1:Int)) <|gd (Jg .u8 v21.1.Val) <|LM (bQ (eT move v21 s24) (s24.2.2.2.2.2.2.2.2.2.2.2.2.2.2.2.2.2.2.1,(0:Int))) λkv=>LM (bQ (eU move v21 s24) (s24.2.2.2.2.2.2.2.2.2.2.2.2.2.2.2.2.2.2.2.1,(0:Int))) λlQ=>LM (bQ (eX move v21 s24) (s24.2.2.2.2.2.2.2.2.2.2.2.2.2.2.2.2.2.2.2.2,(0:Int))) λnC=>LM (aL (⟨s24.2.2.2.2.2.2.2.2.2.1,s24.2.2.2.2.2.2.2.2.2.2.1,s24.2.2.2.2.2.2.2.2.2.2.2.1⟩:ah) v21.1.Loc<|(move.tdiv (3:Int))+(1:Int)) λaz=>LM (aL (⟨s24.2.2.2.2.2.2.2.2.2.2.2.2.1,s24.2.2.2.2.2.2.2.2.2.2.2.2.2.1,s24.2.2.2.2.2.2.2.2.2.2.2.2.2.2.1⟩:ah) v21.1.Loc<|(move.tdiv (3:Int))+(1:Int)) λaA=>LM (aL (⟨s24.2.2.2.2.2.2.2.2.2.2.2.2.2.2.2.1,s24.2.2.2.2.2.2.2.2.2.2.2.2.2.2.2.2.1,s24.2.2.2.2.2.2.2.2.2.2.2.2.2.2.2.2.2.1⟩:ah) v21.1.Loc<|(move.tdiv (3:Int))+(1:Int)) λaB=>gd (decide<|0<=v21.1.Loc/\v21.1.Loc<3) <|bif decide (v21.1.Loc=(0:Int)) then LM (cg kv ((move.tdiv (3:Int))+(1:Int)) ([(⟨v21.1.Val,false,(aa.get (⟨((aa.set (⟨az,aA,aB⟩:aa) (move.tmod (3:Int))<|ah.set (aa.get (⟨az,aA,aB⟩:aa)<|move.tmod (3:Int)) v21.1.Loc<|(move.tdiv (3:Int))+(1:Int)).x0),((aa.set (⟨az,aA,aB⟩:aa) (move.tmod (3:Int))<|ah.set (aa.get (⟨az,aA,aB⟩:aa)<|move.tmod (3:Int)) v21.1.Loc<|(move.tdiv (3:Int))+(1:Int)).x1),((aa.set (⟨az,aA,aB⟩:aa) (move.tmod (3:Int))<|ah.set (aa.get (⟨az,aA,aB⟩:aa)<|move.tmod (3:Int)) v21.1.Loc<|(move.tdiv (3:Int))+(1:Int)).x2)⟩:aa)<|move.tmod (3:Int))⟩:ai)]:List ai)) λv182=>gd (decide<|0<=(move.tdiv (3:Int))/\(move.tdiv (3:Int))<(v182.length:Int)) <|some (((aa.set (⟨az,aA,aB⟩:aa) (move.tmod (3:Int))<|ah.set (aa.get (⟨az,aA,aB⟩:aa)<|move.tmod (3:Int)) v21.1.Loc<|(move.tdiv (3:Int))+(1:Int)).x0).x0,((aa.set (⟨az,aA,aB⟩:aa) (move.tmod (3:Int))<|ah.set (aa.get (⟨az,aA,aB⟩:aa)<|move.tmod (3:Int)) v21.1.Loc<|(move.tdiv (3:Int))+(1:Int)).x0).x1,((aa.set (⟨az,aA,aB⟩:aa) (move.tmod (3:Int))<|ah.set (aa.get (⟨az,aA,aB⟩:aa)<|move.tmod (3:Int)) v21.1.Loc<|(move.tdiv (3:Int))+(1:Int)).x0).x2,((aa.set (⟨az,aA,aB⟩:aa) (move.tmod (3:Int))<|ah.set (aa.get (⟨az,aA,aB⟩:aa)<|move.tmod (3:Int)) v21.1.Loc<|(move.tdiv (3:Int))+(1:Int)).x1).x0,((aa.set (⟨az,aA,aB⟩:aa) (move.tmod (3:Int))<|ah.set (aa.get (⟨az,aA,aB⟩:aa)<|move.tmod (3:Int)) v21.1.Loc<|(move.tdiv (3:Int))+(1:Int)).x1).x1,((aa.set (⟨az,aA,aB⟩:aa) (move.tmod (3:Int))<|ah.set (aa.get (⟨az,aA,aB⟩:aa)<|move.tmod (3:Int)) v21.1.Loc<|(move.tdiv (3:Int))+(1:Int)).x1).x2,((aa.set (⟨az,aA,aB⟩:aa) (move.tmod (3:Int))<|ah.set (aa.get (⟨az,aA,aB⟩:aa)<|move.tmod (3:Int)) v21.1.Loc<|(move.tdiv (3:Int))+(1:Int)).x2).x0,((aa.set (⟨az,aA,aB⟩:aa) (move.tmod (3:Int))<|ah.set (aa.get (⟨az,aA,aB⟩:aa)<|move.tmod (3:Int)) v21.1.Loc<|(move.tdiv (3:Int))+(1:Int)).x2).x1,((aa.set (⟨az,aA,aB⟩:aa) (move.tmod (3:Int))<|ah.set (aa.get (⟨az,aA,aB⟩:aa)<|move.tmod (3:Int)) v21.1.Loc<|(move.tdiv (3:Int))+(1:Int)).x2).x2,(v182.set ((move.tdiv (3:Int)).toNat)<|{ (v182.getD ((move.tdiv (3:Int)).toNat) default) with taken:=true }),lQ,nC) else bif decide (v21.1.Loc=(1:Int)) then LM (cg lQ ((move.tdiv (3:Int))+(1:Int)) ([(⟨v21.1.Val,false,(aa.get (⟨((aa.set (⟨az,aA,aB⟩:aa) (move.tmod (3:Int))<|ah.set (aa.get (⟨az,aA,aB⟩:aa)<|move.tmod (3:Int)) v21.1.Loc<|(move.tdiv (3:Int))+(1:Int)).x0),((aa.set (⟨az,aA,aB⟩:aa) (move.tmod (3:Int))<|ah.set (aa.get (⟨az,aA,aB⟩:aa)<|move.tmod (3:Int)) v21.1.Loc<|(move.tdiv (3:Int))+(1:Int)).x1),((aa.set (⟨az,aA,aB⟩:aa) (move.tmod (3:Int))<|ah.set (aa.get (⟨az,aA,aB⟩:aa)<|move.tmod (3:Int)) v21.1.Loc<|(move.tdiv (3:Int))+(1:Int)).x2)⟩:aa)<|move.tmod (3:Int))⟩:ai)]:List ai)) λv188=>gd (decide<|0<=(move.tdiv (3:Int))/\(move.tdiv (3:Int))<(v188.length:Int)) <|some (((aa.set (⟨az,aA,aB⟩:aa) (move.tmod (3:Int))<|ah.set (aa.get (⟨az,aA,aB⟩:aa)<|move.tmod (3:Int)) v21.1.Loc<|(move.tdiv (3:Int))+(1:Int)).x0).x0,((aa.set (⟨az,aA,aB⟩:aa) (move.tmod (3:Int))<|ah.set (aa.get (⟨az,aA,aB⟩:aa)<|move.tmod (3:Int)) v21.1.Loc<|(move.tdiv (3:Int))+(1:Int)).x0).x1,((aa.set (⟨az,aA,aB⟩:aa) (move.tmod (3:Int))<|ah.set (aa.get (⟨az,aA,aB⟩:aa)<|move.tmod (3:Int)) v21.1.Loc<|(move.tdiv (3:Int))+(1:Int)).x0).x2,((aa.set (⟨az,aA,aB⟩:aa) (move.tmod (3:Int))<|ah.set (aa.get (⟨az,aA,aB⟩:aa)<|move.tmod (3:Int)) v21.1.Loc<|(move.tdiv (3:Int))+(1:Int)).x1).x0,((aa.set (⟨az,aA,aB⟩:aa) (move.tmod (3:Int))<|ah.set (aa.get (⟨az,aA,aB⟩:aa)<|move.tmod (3:Int)) v21.1.Loc<|(move.tdiv (3:Int))+(1:Int)).x1).x1,((aa.set (⟨az,aA,aB⟩:aa) (move.tmod (3:Int))<|ah.set (aa.get (⟨az,aA,aB⟩:aa)<|move.tmod (3:Int)) v21.1.Loc<|(move.tdiv (3:Int))+(1:Int)).x1).x2,((aa.set (⟨az,aA,aB⟩:aa) (move.tmod (3:Int))<|ah.set (aa.get (⟨az,aA,aB⟩:aa)<|move.tmod (3:Int)) v21.1.Loc<|(move.tdiv (3:Int))+(1:Int)).x2).x0,((aa.set (⟨az,aA,aB⟩:aa) (move.tmod (3:Int))<|ah.set (aa.get (⟨az,aA,aB⟩:aa)<|move.tmod (3:Int)) v21.1.Loc<|(move.tdiv (3:Int))+(1:Int)).x2).x1,((aa.set (⟨az,aA,aB⟩:aa) (move.tmod (3:Int))<|ah.set (aa.get (⟨az,aA,aB⟩:aa)<|move.tmod (3:Int)) v21.1.Loc<|(move.tdiv (3:Int))+(1:Int)).x2).x2,kv,(v188.set ((move.tdiv (3:Int)).toNat)<|{ (v188.getD ((move.tdiv (3:Int)).toNat) default) with taken:=true }),nC) else bif decide (v21.1.Loc=(2:Int)) then LM (cg nC ((move.tdiv (3:Int))+(1:Int)) ([(⟨v21.1.Val,false,(aa.get (⟨((aa.set (⟨az,aA,aB⟩:aa) (move.tmod (3:Int))<|ah.set (aa.get (⟨az,aA,aB⟩:aa)<|move.tmod (3:Int)) v21.1.Loc<|(move.tdiv (3:Int))+(1:Int)).x0),((aa.set (⟨az,aA,aB⟩:aa) (move.tmod (3:Int))<|ah.set (aa.get (⟨az,aA,aB⟩:aa)<|move.tmod (3:Int)) v21.1.Loc<|(move.tdiv (3:Int))+(1:Int)).x1),((aa.set (⟨az,aA,aB⟩:aa) (move.tmod (3:Int))<|ah.set (aa.get (⟨az,aA,aB⟩:aa)<|move.tmod (3:Int)) v21.1.Loc<|(move.tdiv (3:Int))+(1:Int)).x2)⟩:aa)<|move.tmod (3:Int))⟩:ai)]:List ai)) λv194=>gd (decide<|0<=(move.tdiv (3:Int))/\(move.tdiv (3:Int))<(v194.length:Int)) <|some (((aa.set (⟨az,aA,aB⟩:aa) (move.tmod (3:Int))<|ah.set (aa.get (⟨az,aA,aB⟩:aa)<|move.tmod (3:Int)) v21.1.Loc<|(move.tdiv (3:Int))+(1:Int)).x0).x0,((aa.set (⟨az,aA,aB⟩:aa) (move.tmod (3:Int))<|ah.set (aa.get (⟨az,aA,aB⟩:aa)<|move.tmod (3:Int)) v21.1.Loc<|(move.tdiv (3:Int))+(1:Int)).x0).x1,((aa.set (⟨az,aA,aB⟩:aa) (move.tmod (3:Int))<|ah.set (aa.get (⟨az,aA,aB⟩:aa)<|move.tmod (3:Int)) v21.1.Loc<|(move.tdiv (3:Int))+(1:Int)).x0).x2,((aa.set (⟨az,aA,aB⟩:aa) (move.tmod (3:Int))<|ah.set (aa.get (⟨az,aA,aB⟩:aa)<|move.tmod (3:Int)) v21.1.Loc<|(move.tdiv (3:Int))+(1:Int)).x1).x0,((aa.set (⟨az,aA,aB⟩:aa) (move.tmod (3:Int))<|ah.set (aa.get (⟨az,aA,aB⟩:aa)<|move.tmod (3:Int)) v21.1.Loc<|(move.tdiv (3:Int))+(1:Int)).x1).x1,((aa.set (⟨az,aA,aB⟩:aa) (move.tmod (3:Int))<|ah.set (aa.get (⟨az,aA,aB⟩:aa)<|move.tmod (3:Int)) v21.1.Loc<|(move.tdiv (3:Int))+(1:Int)).x1).x2,((aa.set (⟨az,aA,aB⟩:aa) (move.tmod (3:Int))<|ah.set (aa.get (⟨az,aA,aB⟩:aa)<|move.tmod (3:Int)) v21.1.Loc<|(move.tdiv (3:Int))+(1:Int)).x2).x0,((aa.set (⟨az,aA,aB⟩:aa) (move.tmod (3:Int))<|ah.set (aa.get (⟨az,aA,aB⟩:aa)<|move.tmod (3:Int)) v21.1.Loc<|(move.tdiv (3:Int))+(1:Int)).x2).x1,((aa.set (⟨az,aA,aB⟩:aa) (move.tmod (3:Int))<|ah.set (aa.get (⟨az,aA,aB⟩:aa)<|move.tmod (3:Int)) v21.1.Loc<|(move.tdiv (3:Int))+(1:Int)).x2).x2,kv,lQ,(v194.set ((move.tdiv (3:Int)).toNat)<|{ (v194.getD ((move.tdiv (3:Int)).toNat) default) with taken:=true })) else none else some (s24.2.2.2.2.2.2.2.2.2.1,s24.2.2.2.2.2.2.2.2.2.2.1,s24.2.2.2.2.2.2.2.2.2.2.2.1,s24.2.2.2.2.2.2.2.2.2.2.2.2.1,s24.2.2.2.2.2.2.2.2.2.2.2.2.2.1,s24.2.2.2.2.2.2.2.2.2.2.2.2.2.2.1,s24.2.2.2.2.2.2.2.2.2.2.2.2.2.2.2.1,s24.2.2.2.2.2.2.2.2.2.2.2.2.2.2.2.2.1,s24.2.2.2.2.2.2.2.2.2.2.2.2.2.2.2.2.2.1,s24.2.2.2.2.2.2.2.2.2.2.2.2.2.2.2.2.2.2.1,s24.2.2.2.2.2.2.2.2.2.2.2.2.2.2.2.2.2.2.2.1,s24.2.2.2.2.2.2.2.2.2.2.2.2.2.2.2.2.2.2.2.2)) λs40=>some (⟨(⟨s.values.p,(⟨(Z3b.set s.values.pc (move.tmod (3:Int))<|(Z3b.get s.values.pc<|move.tmod (3:Int))+(1:Int)).x0,(Z3b.set s.values.pc (move.tmod (3:Int))<|(Z3b.get s.values.pc<|move.tmod (3:Int))+(1:Int)).x1,(Z3b.set s.values.pc (move.tmod (3:Int))<|(Z3b.get s.values.pc<|move.tmod (3:Int))+(1:Int)).x2⟩:Z3b),(⟨(⟨s24.1,s24.2.1,s24.2.2.1⟩:Z3b),(⟨s24.2.2.2.1,s24.2.2.2.2.1,s24.2.2.2.2.2.1⟩:Z3b),(⟨s24.2.2.2.2.2.2.1,s24.2.2.2.2.2.2.2.1,s24.2.2.2.2.2.2.2.2.1⟩:Z3b)⟩:Z33),(⟨s.values.mem.x0,s.values.mem.x1,s.values.mem.x2⟩:Z3b)⟩:Jj),(⟨s40.2.2.2.2.2.2.2.2.2.1,s40.2.2.2.2.2.2.2.2.2.2.1,s40.2.2.2.2.2.2.2.2.2.2.2⟩:ae),(⟨(⟨s40.1,s40.2.1,s40.2.2.1⟩:ah),(⟨s40.2.2.2.1,s40.2.2.2.2.1,s40.2.2.2.2.2.1⟩:ah),(⟨s40.2.2.2.2.2.2.1,s40.2.2.2.2.2.2.2.1,s40.2.2.2.2.2.2.2.2.1⟩:ah)⟩:aa)⟩:ak)
def fP (s9:(List<|ByteArray×Bool)×(LL)×(List ak)) (s19:(LL)) (v27:(LI)):LS ((List<|ByteArray×Bool)×(List ak)×Int) (((List<|ByteArray×Bool)×(LL)×(List ak)) ⊕ ((List<|ByteArray×Bool)×(LL))):=λs31=>bif decide (s31.2.2<(v27.length:Int)) then LM (gd (decide<|0<=s31.2.2/\s31.2.2<(v27.length:Int)) <|LM (bK (s9.2.2.getD (((s9.2.2.length:Int)-(1:Int)).toNat) default)<|v27.getD s31.2.2.toNat default) λv37=>LM (cm v37) λv38=>bif !((vZ s31.1 v38).getD false) then gd (fo (s31.2.1.length+1) 16) <|some ((qL s31.1 v38 true),(s31.2.1++[v37])) else some (s31.1,s31.2.1)) λs35=>gd (Jg .i64<|s31.2.2+(1:Int)) <|some (.inl (s35.1,s35.2,(s31.2.2+(1:Int)))) else some (.inr<|.inl (s31.1,s19,s31.2.1))
def fQ:LS ((List<|ByteArray×Bool)×(LL)×(List ak)) ((List<|ByteArray×Bool)×(LL)):=λs9=>bif decide ((0:Int)<(s9.2.2.length:Int)) then gd (Jg .i64<|(s9.2.2.length:Int)-(1:Int)) <|gd (decide<|0<=((s9.2.2.length:Int)-(1:Int))/\((s9.2.2.length:Int)-(1:Int))<(s9.2.2.length:Int)) <|gd (decide<|0<=(0:Int)/\(0:Int)<=((s9.2.2.length:Int)-(1:Int))/\((s9.2.2.length:Int)-(1:Int))<=(s9.2.2.length:Int)) <|LM (LM (cA<|s9.2.2.getD (((s9.2.2.length:Int)-(1:Int)).toNat) default) λv20=>bif v20 then LM (bG<|s9.2.2.getD (((s9.2.2.length:Int)-(1:Int)).toNat) default) λv22=>gd (fo (s9.2.1.length+1) 24) <|some (s9.2.1++[v22]) else some s9.2.1) λs19=>LM (bJ<|s9.2.2.getD (((s9.2.2.length:Int)-(1:Int)).toNat) default) λv27=>bQ (fP s9 s19 v27) (s9.1,((s9.2.2.drop (0:Int).toNat).take<|((s9.2.2.length:Int)-(1:Int)).toNat-(0:Int).toNat),(0:Int)) else some (.inr (s9.1,s9.2.1))
def ek (start:ak):Option ((LL)×Int):= LM (cm start) λv1=>LM (bQ fQ ((qL ([]:List<|ByteArray×Bool) v1 true),([]:LL),([start]:List ak))) λs2=>LM (aO s2.2) λv46=>some (v46,(s2.1.length:Int))
def iq (p:List<|List Ji):Option (LL):= LM (aJ p) λv1=>bif !v1 then some ([]:LL) else LM (iC p) λv3=>LM (ek v3) λv4=>some v4.1
def aV (p:List<|List Ji) (name:ByteArray):Option (LL):= bif decide (name=(⟨#[115,101,113]⟩:ByteArray)) then LM (eM p) λv2=>some v2 else bif decide (name=(⟨#[116,115,111]⟩:ByteArray)) then LM (iA p) λv4=>some v4 else bif decide (name=(⟨#[112,115,111]⟩:ByteArray)) then LM (iB p) λv6=>some v6 else bif decide (name=(⟨#[114,97]⟩:ByteArray)) then LM (iq p) λv8=>some v8 else some ([]:LL)
def Jl {α:Type} (x:Option α) (P:α->Prop):Prop:=∃ v,x=some v/\P v
section
variable {α β S E:Type} {P:α->Prop} {Q:β->Prop} {x y:Option α}
theorem Jl.pure {v:α} (h:P v):Jl (some v) P:=⟨v,rfl,h⟩
theorem Jl.mono {P':α->Prop} (h:Jl x P) (k:∀ v,P v->P' v):Jl x P':=by
 obtain ⟨v,e,p⟩:=h;exact ⟨v,e,k v p⟩
theorem Jl.bind {o:Option α} {f:α->Option β} (h:Jl o P) (k:∀ v,P v->Jl (f v) Q):Jl (o.bind f) Q:=by
 obtain ⟨v,rfl,p⟩:=h;exact k v p
theorem Jl.gd {b:Bool} (hb:b=true) (h:Jl x P):Jl (gd b x) P:=by rw [mo hb];exact h
theorem Jl.gdD {A:Prop} [Decidable A] (hb:A) (h:Jl x P):Jl (Go.Proofs.YtjcmfddobaplbaaGreat.gd (decide A) x) P:=Jl.gd (decide_eq_true hb) h
theorem Jl.gdI {n:Int} (hb : -9223372036854775808<=n/\n<=9223372036854775807) (h:Jl x P):Jl (Go.Proofs.YtjcmfddobaplbaaGreat.gd (Jg .i64 n) x) P:=Jl.gd (Ee hb) h
theorem Jl.gdY {n:Int} (hb:0<=n/\n<=255) (h:Jl x P):Jl (Go.Proofs.YtjcmfddobaplbaaGreat.gd (Jg .u8 n) x) P:=Jl.gd (Gp hb) h
theorem Jl.bif {b:Bool} (h1:b=true->Jl x P) (h2:b=false->Jl y P):Jl (bif b then x else y) P:=by
 cases b with
 | true=>exact h1 rfl
 | false=>exact h2 rfl
theorem Jl.bifD {A:Prop} [Decidable A] (h1:A->Jl x P) (h2 : ¬ A->Jl y P):Jl (_root_.cond (decide A) x y) P:=
 Jl.bif (λh=>h1<|of_decide_eq_true h) (λh=>h2<|of_decide_eq_false h)
theorem Jl.sum {W:Type} {PS:S->Prop} {PW:W->Prop} {a:Option (S ⊕ W)} {f:S->Option W} (h:Jl a λz=>match z with
  | .inl s=>PS s
  | .inr w=>PW w) (k:∀ s,PS s->Jl (f s) PW):Jl (sumK a f) PW:=by
 obtain ⟨v,rfl,p⟩:=h
 match v,p with
 | .inl s,p=>exact k s p
 | .inr w,p=>exact ⟨w,rfl,p⟩
theorem Jl.loop {step:S->Option (S ⊕ E)} {R:E->Prop} (J:S->Prop) (mu:S->Nat) {s0:S} (h0:J s0) (h:∀ s,J s->Jl (step s) λz=>match z with
  | .inl s'=>J s'/\mu s'<mu s
  | .inr x=>R x):Jl (bQ step s0) R:=by
 have key:∀ (n:Nat) (s:S),mu s=n->J s->Jl (bQ step s) R:=by
  intro n
  induction n using Nat.strongRecOn with
  | _ n ih=>
   intro s hs hj;obtain ⟨z,e,hz⟩:=h s hj;rw [qZ,e]
   match z,hz with
   | .inl s',hz=>exact ih (mu s') (by omega) s' rfl hz.1
   | .inr x,hz=>exact ⟨x,rfl,hz⟩
 exact key _ s0 rfl h0
theorem Jl.eq {v:α} (h:Jl x (· = v)):x=some v:=by
 obtain ⟨u,e,rfl⟩:=h;exact e
theorem Jl.of {v:α} (h:x=some v) (p:P v):Jl x P:=⟨v,h,p⟩
end
section
variable {α β:Type} {x x' y y':Option α}
end
def rdX (x:Ji):Bool:=x.Op==1||x.Op==5
def wrX (x:Ji):Bool:=x.Op==2||x.Op==3||x.Op==5
theorem Bx (x:Ji):Jl (cN x) (· = rdX x):=by
 unfold cN rdX;exact Jl.bind (P:=(· = (x.Op==1||x.Op==5))) (.bif (λh => .pure<|by rw [h];rfl) λh => .pure<|by rw [h];rfl) λv hv => .pure hv
theorem EW (x:Ji):Jl (eH x) (· = wrX x):=by
 unfold eH wrX;exact Jl.bind (P:=(· = (x.Op==2||x.Op==3))) (.bif (λh => .pure<|by rw [h];rfl) λh => .pure<|by rw [h];rfl) λv hv=>Jl.bind (P:=(· = (x.Op==2||x.Op==3||x.Op==5))) (.bif (λh => .pure<|by rw [<- hv,h];rfl) λh => .pure<|by rw [<- hv,h];rfl) λv hv => .pure hv
def Vs (p:List<|List Ji):Prop:=p.length<=3/\∀ n,(p.getD n default).length<=7
theorem Vs.of {p:List (List Ji)} (h:gb (p.map λr=>r.map iN)=true):Vs p/\∀ t k:Nat,t<p.length->k<(p.getD t default).length->lH (iN<|(p.getD t default).getD k default)=true:=by
 simp only [gb,qA,bae,dte,List.all_eq_true,rowOk] at h;have hl:p.length<=3:=by simpa using h.1.1.1.1
 have hr:=h.1.1.1.2;refine ⟨⟨hl,λn=>?_⟩,λt k ht hk=>?_⟩
 ·by_cases hn:n<p.length
  ·have e:p.getD n default=p[n]:=by simp [hn]
   rw [e];have := (hr (p[n].map iN)<|LX.2 ⟨p[n],L8 hn,rfl⟩).1;simpa using this
  rw [gdq,gen (by omega)];exact Nat.zero_le _
 have e:p.getD t default=p[t]:=by simp [ht]
 rw [e] at hk ⊢;have h1:=(hr (p[t].map iN)<|LX.2 ⟨p[t],L8 ht,rfl⟩).2;have e2:p[t].getD k default=p[t][k]:=by simp [hk]
 rw [e2];exact h1 _<|LX.2 ⟨_,L8 hk,rfl⟩
def InR (x:Ji):Prop:=0<=x.Loc/\x.Loc<=2/\0<=x.Reg/\x.Reg<=2/\0<=x.Val/\x.Val<=3
theorem Bz {x:Ji} (h:lH (iN x)=true):InR x:=by
 obtain ⟨o,l,r,v⟩:=x;unfold InR;simp only;unfold lH iN at h;simp only [inB] at h
 split at h
 ·simp only [bae,dte,beq_iff_eq] at h;omega
 split at h
 ·simp only [bae,dte,beq_iff_eq] at h;omega
 split at h
 ·simp only [bae,dte,beq_iff_eq] at h;omega
 split at h
 ·simp only [bae,dte] at h;omega
 cases h
structure PV (p:List (List Ji)):Prop where
 vs:Vs p
 pos:0<p.length
 ins:∀ t k:Nat,t<p.length->k<(p.getD t default).length->InR ((p.getD t default).getD k default)
theorem PV.of {p:List (List Ji)} (h:gb (p.map λr=>r.map iN)=true):PV p:=by
 have h1:=Vs.of h;refine ⟨h1.1,?_,λt k ht hk=>Bz<|h1.2 t k ht hk⟩;simp only [gb,bae,dte,llm] at h;exact h.1.2
theorem dM {n m:Nat} (hn:n<=4000000) (hm:Nat.ble m 1000=true):fo n m=true:=by
 have h1:=nlb hm;have h2:n*m<=4000000*1000:=Nat.mul_le_mul hn h1;exact decide_eq_true ⟨by omega,by omega⟩
theorem ju (a:Z3b) (q i v:Int) (hq:0<=q/\q<=2) (hi:0<=i/\i<=2):Z3b.get (Z3b.set a q v) i=if i=q then v else Z3b.get a i:=by
 obtain ⟨x,y,z⟩:=a;have h1:q=0\/q=1\/q=2:=by omega
 have h2:i=0\/i=1\/i=2:=by omega
 rcases h1 with rfl | rfl | rfl <;> rcases h2 with rfl | rfl | rfl <;> rfl
theorem oO (a:Z33) (q i:Int) (v:Z3b) (hq:0<=q/\q<=2) (hi:0<=i/\i<=2):Z33.get (Z33.set a q v) i=if i=q then v else Z33.get a i:=by
 obtain ⟨x,y,z⟩:=a;have h1:q=0\/q=1\/q=2:=by omega
 have h2:i=0\/i=1\/i=2:=by omega
 rcases h1 with rfl | rfl | rfl <;> rcases h2 with rfl | rfl | rfl <;> rfl
def pK (u:Jj) (t:Int) (x:Ji):Int:=if x.Op=3 then Z3b.get (Z33.get u.reg t) x.Reg else x.Val
def BA (u:Jj) (t:Int) (x:Ji):Jj:=
 ⟨u.p,Z3b.set u.pc t<|Z3b.get u.pc t+1,if rdX x=true then Z33.set u.reg t (Z3b.set (Z33.get u.reg t) x.Reg<|Z3b.get u.mem x.Loc) else u.reg,if wrX x=true then Z3b.set u.mem x.Loc (pK u t x) else u.mem⟩
structure Mac (σ:Type) where
 mv:σ->LI
 af:σ->Int->σ
 ky:σ->ByteArray
 dn:σ->Bool
 oc:σ->LI
section
variable {σ:Type} (M:Mac σ)
inductive Rea (s0:σ):σ->Prop
 | base:Rea s0 s0
 | step {s:σ} {m:Int} (h:Rea s0 s) (hm:m∈M.mv s):Rea s0 (M.af s m)
def EY (s0:σ) (o:LI):Prop:=∃ s,Rea M s0 s/\M.dn s=true/\M.oc s=o
structure Mok (s0:σ) (N:Nat):Prop where
 key:∀ s t,Rea M s0 s->Rea M s0 t->M.ky s=M.ky t->s=t
 cnt:∀ V:List σ,V.Nodup->(∀ v∈V,Rea M s0 v)->V.length<=N
variable {M} {s0:σ} {N:Nat}
def kys (M:Mac σ) (V:List σ):List (ByteArray×Bool):=V.map λv=>(M.ky v,true)
theorem yH (V:List σ) (k:ByteArray):(∃ j,pV (kys M V) k=some j)↔∃ v∈V,M.ky v=k:=by
 unfold pV kys;rw [List.map_map]
 cases h:List.findIdx? (λx=>decide<|x=k) (V.map<|(λx:ByteArray×Bool=>x.1) ∘ λv=>(M.ky v,true)) with
 | none=>
  rw [List.findIdx?_eq_none_iff] at h;refine ⟨λ⟨j,hj⟩=>(by cases hj),λ⟨v,hv,e⟩ => ?_⟩;have := h (M.ky v)<|LX.2 ⟨v,hv,rfl⟩;rw [e] at this;simp at this
 | some j=>
  refine ⟨λ_=>?_,λ_=>⟨j,rfl⟩⟩;obtain ⟨h1,h2,_⟩:=List.findIdx?_eq_some_iff_getElem.1 h;have hj:j<V.length:=by simpa using h1
  refine ⟨V[j],L8 hj,?_⟩;simpa using h2
theorem yI (V:List σ) (k:ByteArray):((vZ (kys M V) k).getD false)=true↔∃ v∈V,M.ky v=k:=by
 rw [<- yH];unfold vZ
 cases h:pV (kys M V) k with
 | none=>simp
 | some j=>
  obtain ⟨hj,v,hv⟩:=rX h;rw [Option.bind_some,hv];have : (k,v)∈kys M V:=LY hv;unfold kys at this;obtain ⟨u,_,e⟩:=LX.1 this;injection e with _ e;subst e;simp
theorem EZ {V:List σ} {s:σ} (h : ¬ ∃ v∈V,M.ky v=M.ky s):qL (kys M V) (M.ky s) true=kys M (V++[s]):=by
 unfold qL
 cases hm:pV (kys M V) (M.ky s) with
 | some j=>exact absurd ((yH V _).1 ⟨j,hm⟩) h
 | none=>simp [kys]
def Done (M:Mac σ) (V:List σ) (outs:LL) (v:σ):Prop:=(∀ m∈M.mv v,M.af v m∈V)/\(M.dn v=true->M.oc v∈outs)
structure Srch (M:Mac σ) (s0:σ) (V stack:List σ) (outs:List (List Int)) (cur:Option (σ×Nat)):Prop where
 rea:∀ v∈V,Rea M s0 v
 base:s0∈V
 nd:V.Nodup
 sub:∀ v∈stack,v∈V
 all:∀ v∈V,v∈stack\/(∃ n,cur=some (v,n))\/Done M V outs v
 out:∀ o∈outs,∃ v∈V,M.dn v=true/\M.oc v=o
 len:outs.length+stack.length<=V.length
 cur_:∀ s n,cur=some (s,n)->s∈V/\(M.dn s=true->M.oc s∈outs)/\∀ j,j<n->∀ m,(M.mv s)[j]? = some m->M.af s m∈V
theorem Srch.start:Srch M s0 [s0] [s0] [] none where
 rea:=λv hv=>by rw [LN.1 hv];exact .base
 base:=LN.2 rfl
 nd:=by simp
 sub:=λv hv=>hv
 all:=λv hv => .inl hv
 out:=nofun
 len:=by simp
 cur_:=nofun
theorem Srch.pop {V stack:List σ} {s:σ} {outs:LL} (h:Srch M s0 V (stack++[s]) outs none) {outs':LL} (ho:outs'=if M.dn s then outs++[M.oc s] else outs):Srch M s0 V stack outs' (some (s,0)) where
 rea:=h.rea
 base:=h.base
 nd:=h.nd
 sub:=λv hv=>h.sub v<|LP _ hv
 all:=λv hv=>by
  rcases h.all v hv with h1 | ⟨n,h1⟩ | ⟨h1,h2⟩
  ·rcases LU.1 h1 with h1 | h1
   ·exact .inl h1
   rw [LN.1 h1];exact .inr<|.inl ⟨0,rfl⟩
  ·cases h1
  refine .inr<|.inr ⟨h1,λhd=>?_⟩;rw [ho]
  split
  ·exact LP _<|h2 hd
  exact h2 hd
 out:=λo hm=>by
  rw [ho] at hm
  split at hm
  ·rename_i hd;rcases LU.1 hm with hm | hm
   ·exact h.out o hm
   rw [LN.1 hm];exact ⟨s,h.sub s<|LW _<|LN.2 rfl,hd,rfl⟩
  exact h.out o hm
 len:=by
  have := h.len;rw [lla,LO] at this;rw [ho]
  split
  ·rw [lla,LO];omega
  omega
 cur_:=λt n e=>by
  injection e with e;injection e with e1 e2;subst e1 e2;refine ⟨h.sub s<|LW _<|LN.2 rfl,λhd=>?_,λj hj=>absurd hj<|by omega⟩;rw [ho,if_pos hd];exact LW _<|LN.2 rfl
theorem Srch.old {V stack:List σ} {s:σ} {outs:LL} {n:Nat} {m:Int} (h:Srch M s0 V stack outs<|some (s,n)) (hm:(M.mv s)[n]? = some m) (hv:M.af s m∈V):Srch M s0 V stack outs (some (s,n+1)) where
 rea:=h.rea
 base:=h.base
 nd:=h.nd
 sub:=h.sub
 all:=λv hv=>by
  rcases h.all v hv with h1 | ⟨k,h1⟩ | h1
  ·exact .inl h1
  ·injection h1 with h1;injection h1 with h1 _;subst h1;exact .inr<|.inl ⟨n+1,rfl⟩
  exact .inr<|.inr h1
 out:=h.out
 len:=h.len
 cur_:=λt k e=>by
  injection e with e;injection e with e1 e2;subst e1 e2;obtain ⟨g1,g2,g3⟩:=h.cur_ s n rfl;refine ⟨g1,g2,λj hj m' hm' => ?_⟩;rcases Mk j n with h' | h'
  ·exact g3 j h' m' hm'
  obtain rfl:j=n:=by omega
  rw [hm] at hm';obtain rfl:=osl hm';exact hv
theorem Srch.new {V stack:List σ} {s:σ} {outs:LL} {n:Nat} {m:Int} (h:Srch M s0 V stack outs<|some (s,n)) (hm:(M.mv s)[n]? = some m) (hv:M.af s m∉V):Srch M s0 (V++[M.af s m]) (stack++[M.af s m]) outs (some (s,n+1)) where
 rea:=λv hv=>by
  rcases LU.1 hv with hv | hv
  ·exact h.rea v hv
  rw [LN.1 hv];exact .step (h.rea s (h.cur_ s n rfl).1)<|LY hm
 base:=LP _ h.base
 nd:=by
  rw [List.nodup_append];exact ⟨h.nd,by simp,λa ha b hb e=>hv<|by rw [<- LN.1 hb,<- e];exact ha⟩
 sub:=λv hv=>by
  rcases LU.1 hv with hv | hv
  ·exact LP _<|h.sub v hv
  exact LW _ hv
 all:=λv hv=>by
  rcases LU.1 hv with hv | hv
  ·rcases h.all v hv with h1 | ⟨k,h1⟩ | ⟨h1,h2⟩
   ·exact .inl<|LP _ h1
   ·injection h1 with h1;injection h1 with h1 _;subst h1;exact .inr<|.inl ⟨n+1,rfl⟩
   exact .inr<|.inr ⟨λm hm=>LP _<|h1 m hm,h2⟩
  exact .inl<|LW _ hv
 out:=λo ho=>by
  obtain ⟨v,g1,g2⟩:=h.out o ho;exact ⟨v,LP _ g1,g2⟩
 len:=by
  have := h.len;simp only [lla,LO];omega
 cur_:=λt k e=>by
  injection e with e;injection e with e1 e2;subst e1 e2;obtain ⟨g1,g2,g3⟩:=h.cur_ s n rfl;refine ⟨LP _ g1,g2,λj hj m' hm' => ?_⟩;rcases Mk j n with h' | h'
  ·exact LP _<|g3 j h' m' hm'
  obtain rfl:j=n:=by omega
  rw [hm] at hm';obtain rfl:=osl hm';exact LW _<|LN.2 rfl
theorem Srch.fin {V stack:List σ} {s:σ} {outs:LL} {n:Nat} (h:Srch M s0 V stack outs<|some (s,n)) (hn:(M.mv s).length<=n):Srch M s0 V stack outs none where
 rea:=h.rea
 base:=h.base
 nd:=h.nd
 sub:=h.sub
 all:=λv hv=>by
  rcases h.all v hv with h1 | ⟨k,h1⟩ | h1
  ·exact .inl h1
  ·injection h1 with h1;injection h1 with h1 _;subst h1;obtain ⟨_,g2,g3⟩:=h.cur_ s n rfl;refine .inr<|.inr ⟨λm hm=>?_,g2⟩;obtain ⟨j,hj⟩:=Mq hm;exact g3 j (by have := (ges hj).1;omega) m hj
  exact .inr<|.inr h1
 out:=h.out
 len:=h.len
 cur_:=nofun
theorem Srch.ends {V:List σ} {outs:LL} (h:Srch M s0 V [] outs none):(∀ o,o∈outs↔EY M s0 o)/\∀ v,v∈V↔Rea M s0 v:=by
 have all:∀ v,Rea M s0 v->v∈V:=λv hv=>by
  induction hv with
  | base=>exact h.base
  | step _ hm ih=>
   rcases h.all _ ih with h1 | ⟨_,h1⟩ | h1
   ·cases h1
   ·cases h1
   exact h1.1 _ hm
 refine ⟨λo=>⟨λho=>?_,λ⟨s,h1,h2,h3⟩ => ?_⟩,λv=>⟨h.rea v,all v⟩⟩
 ·obtain ⟨v,g1,g2,g3⟩:=h.out o ho;exact ⟨v,h.rea v g1,g2,g3⟩
 rcases h.all s (all s h1) with h4 | ⟨_,h4⟩ | h4
 ·cases h4
 ·cases h4
 rw [<- h3];exact h4.2 h2
end
section
variable {σ:Type} [Inhabited σ] (mv:σ->Option (LI)) (af:σ->Int->Option σ) (ky:σ->Option ByteArray) (dn:σ->Option Bool) (oc:σ->Option (LI)) (srt:LL->Option (LL))
def Ii (s9:(List<|ByteArray×Bool)×(LL)×(List σ)) (s19:(LL)) (v27:(LI)):((List<|ByteArray×Bool)×(List σ)×Int)->Option (((List<|ByteArray×Bool)×(List σ)×Int) ⊕ (((List<|ByteArray×Bool)×(LL)×(List σ)) ⊕ ((List<|ByteArray×Bool)×(LL)))):=λs31=>
 bif decide (s31.2.2<(v27.length:Int)) then
  LM (
   gd (decide<|0<=s31.2.2/\s31.2.2<(v27.length:Int)) <|
   LM (af (s9.2.2.getD (((s9.2.2.length:Int)-(1:Int)).toNat) default)<|v27.getD s31.2.2.toNat default) λv37=>
   LM (ky v37) λv38=>
   bif !((vZ s31.1 v38).getD false) then
    gd (fo (s31.2.1.length+1) 16) <|
    some ((qL s31.1 v38 true),(s31.2.1++[v37]))
   else
    some (s31.1,s31.2.1)
  ) λs35=>
  gd (Jg .i64<|s31.2.2+(1:Int)) <|
  some (.inl (s35.1,s35.2,(s31.2.2+(1:Int))))
 else
  some (.inr<|.inl (s31.1,s19,s31.2.1))
def IJ:((List<|ByteArray×Bool)×(LL)×(List σ))->Option (((List<|ByteArray×Bool)×(LL)×(List σ)) ⊕ ((List<|ByteArray×Bool)×(LL))):=λs9=>
 bif decide ((0:Int)<(s9.2.2.length:Int)) then
  gd (Jg .i64<|(s9.2.2.length:Int)-(1:Int)) <|
  gd (decide<|0<=((s9.2.2.length:Int)-(1:Int))/\((s9.2.2.length:Int)-(1:Int))<(s9.2.2.length:Int)) <|
  gd (decide<|0<=(0:Int)/\(0:Int)<=((s9.2.2.length:Int)-(1:Int))/\((s9.2.2.length:Int)-(1:Int))<=(s9.2.2.length:Int)) <|
  LM (
   LM (dn<|s9.2.2.getD (((s9.2.2.length:Int)-(1:Int)).toNat) default) λv20=>
   bif v20 then
    LM (oc<|s9.2.2.getD (((s9.2.2.length:Int)-(1:Int)).toNat) default) λv22=>
    gd (fo (s9.2.1.length+1) 24) <|
    some (s9.2.1++[v22])
   else
    some s9.2.1
  ) λs19=>
  LM (mv<|s9.2.2.getD (((s9.2.2.length:Int)-(1:Int)).toNat) default) λv27=>
  bQ (Ii af ky s9 s19 v27) (s9.1,((s9.2.2.drop (0:Int).toNat).take<|((s9.2.2.length:Int)-(1:Int)).toNat-(0:Int).toNat),(0:Int))
 else
  some (.inr (s9.1,s9.2.1))
def Gx (start:σ):Option ((LL)×Int):=
 LM (ky start) λv1=>
 LM (
  bQ (IJ mv af ky dn oc) ((qL ([]:List<|ByteArray×Bool) v1 true),([]:LL),([start]:List σ))
 ) λs2=>
 LM (srt s2.2) λv46=>
 some (v46,(s2.1.length:Int))
variable {mv af ky dn oc srt} {M:Mac σ} {s0:σ} {N:Nat}
structure Mrt (mv:σ->Option (List Int)) (af:σ->Int->Option σ) (ky:σ->Option ByteArray) (dn:σ->Option Bool) (oc:σ->Option (List Int)) (M:Mac σ) (s0:σ):Prop where
 mv:∀ s,Rea M s0 s->Jl (mv s) (· = M.mv s)
 af:∀ s m,Rea M s0 s->m∈M.mv s->Jl (af s m) (· = M.af s m)
 ky:∀ s,Rea M s0 s->Jl (ky s) (· = M.ky s)
 dn:∀ s,Rea M s0 s->Jl (dn s) (· = M.dn s)
 oc:∀ s,Rea M s0 s->M.dn s=true->Jl (oc s) (· = M.oc s)
 len:∀ s,Rea M s0 s->(M.mv s).length<=1048576
theorem IK {n m:Nat} (hn:n<=1099511627776) (hm:Nat.ble m 32=true):fo n m=true:=by
 have h1:=nlb hm;have h2:n*m<=1099511627776*32:=Nat.mul_le_mul hn h1;exact decide_eq_true ⟨by omega,by omega⟩
theorem CZ (K:Mok M s0 N) (R:Mrt mv af ky dn oc M s0) (hN:N<1099511627776) {V stk:List σ} {s:σ} {outs outs':LL} (h:Srch M s0 V stk outs'<|some (s,0)) :
  Jl (bQ (Ii af ky (kys M V,outs,stk++[s]) outs'<|M.mv s) (kys M V,stk,(0:Int))) λz=>∃ V' stk',z = .inl (kys M V',outs',stk')/\Srch M s0 V' stk' outs' none/\V.length<=V'.length/\2*V.length+stk'.length<=2*V'.length+stk.length:=by
 have hsV:=(h.cur_ s 0 rfl).1;have hs:=h.rea s hsV;have hcur:(stk++[s]).getD ((((stk++[s]).length:Int)-1).toNat) default=s:=by
  rw [lla,LO,show (((stk.length+1:Nat):Int)-1).toNat=stk.length by omega,gdq,gar (LR _)];simp
 have hlen:=R.len s hs;refine Jl.loop (λz=>∃ V',z.1=kys M V'/\(0<=z.2.2/\z.2.2<=((M.mv s).length:Int))/\Srch M s0 V' z.2.1 outs' (some (s,z.2.2.toNat))/\V.length<=V'.length/\2*V.length+z.2.1.length<=2*V'.length+stk.length) (λz=>(((M.mv s).length:Int)-z.2.2).toNat) ⟨V,rfl,⟨LQ _,by simp⟩,h,LR _,LR _⟩ λz ⟨V',h1,h2,h3,h4,h5⟩ => ?_;unfold Ii;simp only [hcur];refine .bifD (λhlt=>?_) λhge => .pure ⟨V',z.2.1,by rw [h1],h3.fin (by omega),h4,h5⟩;have hj:z.2.2.toNat<(M.mv s).length:=by omega
 have hm:(M.mv s)[z.2.2.toNat]? = some ((M.mv s).getD z.2.2.toNat default):=by simp [geq hj]
 have hmm:=LY hm;have hi1:(z.2.2+1).toNat=z.2.2.toNat+1:=by omega
 have hV':=K.cnt V' h3.nd h3.rea;have hl:=h3.len;refine Jl.bind (P:=λw=>∃ V2,w.1=kys M V2/\Srch M s0 V2 w.2 outs' (some (s,z.2.2.toNat+1))/\V.length<=V2.length/\2*V.length+w.2.length<=2*V2.length+stk.length) ?_ λw ⟨V2,w1,w2,w3,w4⟩ => .gdI (by omega)<|.pure ⟨⟨V2,w1,⟨by simp only [];omega,by simp only [];omega⟩,by simp only [hi1];exact w2,w3,w4⟩,by simp only [];omega⟩;refine .gdD ⟨h2.1,hlt⟩<|(R.af s _ hs hmm).bind λv37 e37=>?_;subst e37;refine (R.ky _<|.step hs hmm).bind λv38 e38=>?_;subst e38;refine .bif (λhb => .gd (IK (by omega) rfl)<|.pure ?_) λhb => .pure ?_
 ·have hn : ¬ ∃ v∈V',M.ky v=M.ky (M.af s<|(M.mv s).getD z.2.2.toNat default):=λhh=>by
   rw [h1,(yI V' _).2 hh] at hb
   cases hb
  refine ⟨V'++[M.af s ((M.mv s).getD z.2.2.toNat default)],?_,h3.new hm λhv=>hn ⟨_,hv,rfl⟩,?_,?_⟩
  ·simp only [h1];exact EZ hn
  ·simp;omega
  simp;omega
 have hy:∃ v∈V',M.ky v=M.ky (M.af s<|(M.mv s).getD z.2.2.toNat default):=by
  rw [<- yI,<- h1];simpa using hb
 obtain ⟨v,hv,e⟩:=hy;have := K.key v _ (h3.rea v hv) (.step hs hmm) e;refine ⟨V',h1,h3.old hm<|this ▸ hv,h4,h5⟩
theorem xB (K:Mok M s0 N) (R:Mrt mv af ky dn oc M s0) (hN:N<1099511627776) {Q:LL->LL->Prop} (hs:∀ l:LL,l.length<=N->(∀ o∈l,EY M s0 o)->Jl (srt l) (Q l)) :
  Jl (Gx mv af ky dn oc srt s0) λq=>∃ l,Q l q.1/\(∀ o,o∈l↔EY M s0 o)/\∃ V:List σ,V.Nodup/\(∀ v,v∈V↔Rea M s0 v)/\q.2=(V.length:Int):=by
 unfold Gx;refine (R.ky s0 .base).bind λv1 e1=>?_;subst e1;refine Jl.bind (P:=λw=>∃ V,w.1=kys M V/\Srch M s0 V [] w.2 none) ?_ λw ⟨V,w1,w2⟩ => ?_
 ·refine Jl.loop (λz=>∃ V,z.1=kys M V/\Srch M s0 V z.2.2 z.2.1 none) (λz=>2*(N-z.1.length)+z.2.2.length) ⟨[s0],rfl,.start⟩ λz ⟨V,h1,h2⟩ => ?_;have hV:=K.cnt V h2.nd h2.rea;have hl:=h2.len;obtain ⟨kk,outs,stk⟩:=z;simp only at h1 h2 hl;subst h1;unfold IJ;simp only [];refine .bifD (λhlt=>?_) λhge=>?_
  ·obtain ⟨stk',s,rfl⟩:∃ stk' s,stk=stk'++[s]:=⟨_,_,(List.dropLast_concat_getLast<|by rintro rfl;simp at hlt).symm⟩;have hcur:(stk'++[s]).getD ((((stk'++[s]).length:Int)-1).toNat) default=s:=by
    rw [lla,LO,show (((stk'.length+1:Nat):Int)-1).toNat=stk'.length by omega,gdq,gar (LR _)];simp
   have hcut:((stk'++[s]).drop (0:Int).toNat).take ((((stk'++[s]).length:Int)-1).toNat-(0:Int).toNat)=stk':=by
    rw [lla,LO,show (((stk'.length+1:Nat):Int)-1).toNat-(0:Int).toNat=stk'.length by omega];simp
   have hre:=h2.rea s<|h2.sub s<|LW _<|LN.2 rfl;rw [lla,LO] at hl;refine .gdI (by simp;omega) (.gdD ⟨by simp,by omega⟩<|.gdD ⟨LQ _,by simp,by omega⟩ ?_);rw [hcur,hcut];refine Jl.bind (P:=λo=>o=if M.dn s then outs++[M.oc s] else outs) ?_ λo ho=>?_
   ·refine (R.dn s hre).bind λb hb=>?_;subst hb;refine .bif (λhb=>(R.oc s hre hb).bind λo ho => .gd (IK (by omega) rfl)<|.pure ?_) λhb => .pure ?_
    ·rw [if_pos hb,ho]
    rw [if_neg (by rw [hb];decide)]
   have h3:=h2.pop ho;refine (R.mv s hre).bind λv27 e27=>?_;subst e27;refine (CZ K R hN (outs:=outs) h3).mono λz ⟨V',stk2,e,g1,g2,g3⟩ => ?_;subst e;have hV2:=K.cnt V' g1.nd g1.rea;refine ⟨⟨V',rfl,g1⟩,?_⟩;simp only [kys,llm,lla,LO];omega
  refine .pure ⟨V,rfl,?_⟩;have : stk=[]:=Mt (by omega);subst this;exact h2
 have hV:=K.cnt V w2.nd w2.rea;have hl:=w2.len;refine (hs w.2 (by omega) λo ho=>(w2.ends.1 o).1 ho).bind λq hq => .pure ⟨w.2,hq,w2.ends.1,V,w2.nd,w2.ends.2,?_⟩;rw [w1];simp [kys]
end
theorem C0 {σ:Type} (f:σ->Nat) (m:Nat):∀ (V:List σ),V.Nodup->(∀ v∈V,f v<m)->(∀ u∈V,∀ v∈V,f u=f v->u=v)->V.length<=m:=λV hn hl hi=>by
 have h1:(V.map f).Nodup:=by
  rw [List.nodup_iff_pairwise_ne] at hn ⊢;rw [List.pairwise_map];exact hn.imp_of_mem λ{a b} ha hb hne e=>hne<|hi a ha b hb e
 have := List.Nodup.length_le_of_subset h1 (l₂:=List.range m) λx hx=>by
  obtain ⟨v,hv,rfl⟩:=LX.1 hx;exact List.mem_range.2<|hl v hv
 simpa using this
def nO:List (Nat×Nat)->Nat
 | []=>0
 | (d,b)::l=>d+b*nO l
def zP:List (Nat×Nat)->Nat
 | []=>1
 | (_,b)::l=>b*zP l
theorem yJ:∀ (l:List<|Nat×Nat),(∀ x∈l,x.1<x.2)->nO l<zP l
 | [],_=>Nat.one_pos
 | (d,b)::l,h=>by
  have h1:d<b:=h _ L6;have h2:=yJ l λx hx=>h x<|Ml _ hx;show d+b*nO l<b*zP l;have h3:b*(nO l+1)<=b*zP l:=Nat.mul_le_mul_left _ h2;rw [Nat.mul_add,Nat.mul_one] at h3;omega
theorem wE:∀ (l k:List<|Nat×Nat),l.map (·.2)=k.map (·.2)->(∀ x∈l,x.1<x.2)->(∀ x∈k,x.1<x.2)->nO l=nO k->l=k
 | [],[],_,_,_,_=>rfl
 | [],_::_,h,_,_,_=>by cases h
 | _::_,[],h,_,_,_=>by cases h
 | (d,b)::l,(d',b')::k,h,hl,hk,e=>by
  injection h with hb ht;simp only at hb;subst hb;have h1:d<b:=hl _ L6;have h2:d'<b:=hk _ L6;have e:d+b*nO l=d'+b*nO k:=e;have hd:d=d':=by
   have := congrArg (· % b) e;simp only [Nat.add_mul_mod_self_left,Mf h1,Mf h2] at this;exact this
  subst hd;have hc:nO l=nO k:=Nat.eq_of_mul_eq_mul_left (by omega) (by omega:b*nO l=b*nO k);rw [wE l k ht (λx hx=>hl x<|Ml _ hx) (λx hx=>hk x<|Ml _ hx) hc]
def ltL (x y:LI):Prop:=cmpL x y<0
theorem xC {x y:LI}:leL x y=true↔ltL x y\/x=y:=by
 unfold leL ltL;rw [dte];rcases mW x y with h | h | h
 ·exact ⟨λ_ => .inl h,λ_=>by have := mU x y;omega⟩
 ·exact ⟨λ_ => .inr h,λ_=>by rw [h,kR];decide⟩
 refine ⟨λg=>absurd h g,λg=>?_⟩;rcases g with g | g
 ·have := mU x y;omega
 rw [g,kR] at h;exact absurd h (by decide)
theorem Ei {x y:LI} (h:ltL x y):x≠y:=by
 rintro rfl;unfold ltL at h;rw [kR] at h;exact absurd h (by decide)
structure Sor (l q:List (List Int)):Prop where
 lt:q.Pairwise ltL
 mem:∀ o,o∈q↔o∈l
 len:q.length<=l.length
theorem yK {l c:LL} {n:Nat} (hs:l.Pairwise λx y=>leL x y=true) (h:c.Pairwise ltL) (hm:∀ o,o∈c↔o∈l.take n) (h0:0<n) (hn:n<l.length) (hne:l.getD n default≠l.getD (n-1) default) :
  (c++[l.getD n default]).Pairwise ltL/\∀ o,o∈c++[l.getD n default]↔o∈l.take (n+1):=by
 have e1:l.getD n default=l[n]:=by simp [hn]
 have e2:l.getD (n-1) default=l[n-1]:=by simp [List.getD,show n-1<l.length by omega]
 rw [e1] at hne ⊢;rw [e2] at hne;have hp:=List.pairwise_iff_getElem.1 hs;refine ⟨List.pairwise_append.2 ⟨h,by simp,λy hy x hx=>?_⟩,λo=>?_⟩
 ·rw [LN.1 hx];obtain ⟨j,hj,rfl⟩:=List.getElem_of_mem<|(hm y).1 hy;have hjn:j<n:=Nat.lt_of_lt_of_le (show j<min n l.length by simpa using hj)<|Nat.min_le_left _ _;rw [List.getElem_take];rcases xC.1 (hp j n (by omega) hn hjn) with g | g
  ·exact g
  exfalso;apply hne
  by_cases hj1:j=n-1
  ·subst hj1;exact g.symm
  exact yG _ _ (g ▸ hp j (n-1) (by omega) (by omega) (by omega))<|hp (n-1) n (by omega) hn (by omega)
 rw [LU,hm,Md,LU,geq hn];simp
theorem yL {l:LL} {n:Nat} (h0:0<n) (hn:n<l.length) (he:l.getD n default=l.getD (n-1) default) (o:LI):o∈l.take (n+1)↔o∈l.take n:=by
 have e1:l.getD n default=l[n]:=by simp [hn]
 have e2:l.getD (n-1) default=l[n-1]:=by simp [List.getD,show n-1<l.length by omega]
 rw [e1,e2] at he;rw [Md,LU,geq hn];refine ⟨λh=>h.elim id λh=>?_,.inl⟩;have : o=l[n-1]:=by simpa [he] using h
 rw [this];exact List.mem_iff_getElem.2 ⟨n-1,by simp;omega,by simp⟩
theorem wF (a b:LI) (ha:a.length<=1048576):Jl (cn a b) (· = decide (a=b)):=by
 unfold cn;refine .bif (λh => .pure ?_) λh=>?_
 ·have h:a.length≠b.length:=by
   intro e;rw [e] at h;simp at h
  rw [decide_eq_false (λe=>h<|by rw [e])]
 have h:a.length=b.length:=by
  have : (a.length:Int)=(b.length:Int):=by simpa using h
  omega
 refine Jl.sum (PS:=λ_=>a=b) (PW:=λv=>v=decide (a=b)) ?_ λ_ he => .pure (by rw [decide_eq_true he]);refine Jl.loop (λi=>0<=i/\i<=(a.length:Int)/\∀ j:Nat,(j:Int)<i->a[j]? = b[j]?) (λi=>((a.length:Int)-i).toNat) ⟨LQ _,by omega,λj hj=>absurd hj<|by omega⟩ λi ⟨h1,h2,h3⟩ => ?_;unfold gW;refine .bifD (λhlt => .gdD ⟨h1,hlt⟩<|.gdD ⟨h1,by omega⟩ ?_) λhge => .pure ?_
 ·have hi:i.toNat<a.length:=by omega
  have hib:i.toNat<b.length:=by omega
  have ea:a.getD i.toNat default=a[i.toNat]:=by simp [hi]
  have eb:b.getD i.toNat default=b[i.toNat]:=by simp [hib]
  rw [ea,eb];refine .bif (λhb => .pure ?_) λhb => .gdI (by omega)<|.pure ⟨⟨by omega,by omega,λj hj=>?_⟩,by omega⟩
  ·simp only [bne_iff_ne] at hb;have : a≠b:=λe=>hb (by simp [e]);simp only [];rw [decide_eq_false this]
  by_cases ej:j=i.toNat
  ·subst ej;rw [geq hi,geq hib];have : a[i.toNat]=b[i.toNat]:=by simpa using hb
   rw [this]
  exact h3 j (by omega)
 simp only [];apply List.ext_getElem?;intro j;rcases Mk j a.length with g | g
 ·exact h3 j (by omega)
 rw [gen g,gen (by omega)]
theorem BB (a b:LI) (ha:a.length<=1048576):Jl (bW a b) (· = decide (a=b)):=by
 unfold bW;exact (wF a b ha).bind λv hv => .pure hv
theorem xD {l:LL} (hs:l.Pairwise λx y=>leL x y=true) (hl:l.length<=1099511627776) (hr:∀ r∈l,r.length<=1048576):Jl (aK l) (Sor l):=by
 have hrD:∀ n,(l.getD n default).length<=1048576:=λn=>by
  by_cases hn:n<l.length
  ·have : l.getD n default=l[n]:=by simp [hn]
   rw [this];exact hr _<|L8 hn
  rw [gdq,gen (by omega)];exact Nat.zero_le _
 unfold aK;refine .bifD (λh => .pure ⟨?_,λ_=>Iff.rfl,LR _⟩) λh=>?_
 ·match l,h with
  | [],_=>exact .nil
  | [x],_=>simp
  | _::_::_,h=>simp at h;omega
 have h2:2<=l.length:=by omega
 refine Jl.sum (PS:=λq=>Sor l q) (PW:=λq=>Sor l q) ?_ λq hq => .pure hq;refine Jl.loop (λs=>s.1=l/\1<=s.2/\s.2<=(l.length:Int)/\(l.take s.2.toNat).Pairwise ltL) (λs=>((l.length:Int)-s.2).toNat) ⟨rfl,LQ _,by simp only [];omega,?_⟩ λs ⟨e,h1,h3,h4⟩ => ?_
 ·match l,h2 with
  | x::_,_=>simp
 obtain ⟨c,k⟩:=s;simp only at e h1 h3 h4;subst e;unfold aS;simp only [];refine .bifD (λhlt=>?_) λhge => .pure ?_
 rotate_left
 ·have : k.toNat=c.length:=by omega
  rw [this,List.take_length] at h4;exact ⟨h4,λ_=>Iff.rfl,LR _⟩
 have hk1:(k-1).toNat=k.toNat-1:=by omega
 refine Jl.sum (PS:=λ_=>c.getD k.toNat default≠c.getD (k.toNat-1) default) ?_ λ_ hne => .gdI (by omega)<|.pure ⟨⟨rfl,by simp only [];omega,by simp only [];omega,?_⟩,by simp only [];omega⟩
 rotate_left
 ·have := (yK hs h4 (λ_=>Iff.rfl) (by omega) (by omega) hne).1;simp only [];rw [show (k+1).toNat=k.toNat+1 by omega,Md,geq (by omega)];rw [show c.getD k.toNat default=c[k.toNat]'(by omega) by simp [show k.toNat<c.length by omega]] at this;simpa using this
 refine .gdD ⟨by omega,hlt⟩<|.gdI (by omega)<|.gdD ⟨by omega,by omega⟩<|(BB _ _<|hrD _).bind λv hv=>?_;subst hv;rw [hk1];refine .bifD (λhe=>?_) λhne => .pure hne;refine .gdD ⟨by omega,by omega,LQ _⟩ ?_;refine Jl.bind (P:=λz=>(k<=z.2/\z.2<=(c.length:Int))/\z.1.length=c.length/\(z.1.take z.2.toNat).Pairwise ltL/\∀ o,o∈z.1.take z.2.toNat↔o∈c) ?_ λz ⟨⟨z1,z2⟩,z3,z4,z5⟩ => .gdD ⟨by omega,by omega,LQ _⟩<|.gdD ⟨LQ _,by omega,by omega⟩<|.pure ?_
 rotate_left
 ·have e1:(((cpy z.1 (0+z.2.toNat) (LV ((z.1.length:Int).toNat-z.2.toNat) (default:LI))<|(z.1.length:Int).toNat-z.2.toNat).drop (0:Int).toNat).take<|z.2.toNat-(0:Int).toNat)=z.1.take z.2.toNat:=by
   simp only [cpy,Nat.zero_add,show (0:Int).toNat=0 from rfl,List.drop_zero,Nat.sub_zero];rw [if_pos (by omega),List.append_assoc,List.take_append_of_le_length (by rw [Mg];omega),List.take_take,Nat.min_self]
  simp only [];rw [e1];exact ⟨z4,z5,by simp;omega⟩
 refine Jl.loop (λs=>(1<=s.2.1/\k+s.2.1<=(c.length:Int))/\(k<=s.2.2/\s.2.2<=k+s.2.1-1)/\s.1.length=c.length/\(∀ j:Nat,k+s.2.1-1<=(j:Int)->s.1[j]? = c[j]?)/\(s.1.take s.2.2.toNat).Pairwise ltL/\∀ o,o∈s.1.take s.2.2.toNat↔o∈c.take (k+s.2.1).toNat) (λs=>((c.length:Int)-k-s.2.1).toNat) ⟨⟨LQ _,by simp only [];omega⟩,⟨LQ _,by simp only [];omega⟩,rfl,λ_ _=>rfl,h4,λo=>?_⟩ λs ⟨⟨a1,a2⟩,⟨a3,a4⟩,a5,a6,a7,a8⟩ => ?_
 ·simp only [];rw [show (k+1).toNat=k.toNat+1 by omega];exact (yL (by omega) (by omega) he o).symm
 obtain ⟨d,k2,kk⟩:=s;simp only at a1 a2 a3 a4 a5 a6 a7 a8;unfold aQ;simp only [];have hz:((((c.length:Int).toNat-k.toNat:Nat)):Int)=(c.length:Int)-k:=by omega
 rw [hz];refine .bifD (λhlt2=>?_) λhge => .pure ⟨⟨a3,by simp only [];omega⟩,a5,a7,λo=>?_⟩
 rotate_left
 ·rw [a8,show (k+k2).toNat=c.length by omega,List.take_length]
 have g1:d.getD (0+k.toNat+k2.toNat) default=c.getD (k+k2).toNat default:=by
  rw [gdq,gdq,a6 _ (by omega),show 0+k.toNat+k2.toNat=(k+k2).toNat by omega]
 have g2:d.getD (0+k.toNat+(k2-1).toNat) default=c.getD ((k+k2).toNat-1) default:=by
  rw [gdq,gdq,a6 _ (by omega),show 0+k.toNat+(k2-1).toNat=(k+k2).toNat-1 by omega]
 have hn1:(k+(k2+1)).toNat=(k+k2).toNat+1:=by omega
 refine Jl.bind (P:=λz=>(k<=z.2/\z.2<=k+k2)/\z.1.length=c.length/\(∀ j:Nat,k+k2<=(j:Int)->z.1[j]? = c[j]?)/\(z.1.take z.2.toNat).Pairwise ltL/\∀ o,o∈z.1.take z.2.toNat↔o∈c.take ((k+k2).toNat+1)) ?_ λz ⟨⟨z1,z2⟩,z3,z4,z5,z6⟩ => .gdI (by omega)<|.pure ⟨⟨⟨by simp only [];omega,by simp only [];omega⟩,⟨z1,by simp only [];omega⟩,z3,λj hj=>z4 j (by simp only [] at hj;omega),z5,by simp only [hn1];exact z6⟩,by simp only [];omega⟩;refine .gdD ⟨⟨by omega,by omega⟩,by omega⟩<|.gdI (by omega)<|.gdD ⟨⟨by omega,by omega⟩,by omega⟩ ?_;rw [g1,g2];refine (BB _ _<|hrD _).bind λv hv=>?_;subst hv;rw [<- decide_not];refine .bifD (λhne=>?_) λhe2 => .pure ⟨⟨a3,by simp only [];omega⟩,a5,λj hj=>a6 j (by omega),a7,λo=>?_⟩
 ·have hkl:kk.toNat<d.length:=by omega
  refine .gdD ⟨by omega,by omega⟩<|.gdI (by omega)<|.pure ⟨⟨by simp only [];omega,by simp only [];omega⟩,by simp [a5],λj hj=>?_,?_⟩
  ·simp only [];rw [Mi (by omega)];exact a6 j (by omega)
  have e:(d.set kk.toNat<|c.getD (k+k2).toNat default).take (kk+1).toNat=d.take kk.toNat++[c.getD (k+k2).toNat default]:=by
   rw [show (kk+1).toNat=kk.toNat+1 by omega,Md,LZ hkl,List.take_set_of_le (LR _)]
   rfl
  simp only [];rw [e];exact yK hs a7 a8 (by omega) (by omega) hne
 simp only [];rw [a8];exact (yL (by omega) (by omega) (Decidable.not_not.1 he2) o).symm
theorem qa {l:LL} (hl:l.length<=1099511627776) (hr:∀ r∈l,r.length<=1048576):Jl (aO l) (Sor l):=by
 unfold aO;refine Jl.bind (P:=(· = wD l)) ?_ λv hv=>?_
 ·unfold dY;exact .gdD (by omega)<|.pure rfl
 subst hv;have hp:=jZ l;refine (xD (sF l) (by rw [hp.length_eq];exact hl) λr h=>hr r<|hp.mem_iff.1 h).bind λv ⟨v1,v2,v3⟩ => .pure ⟨v1,λo=>(v2 o).trans hp.mem_iff,by rw [<- hp.length_eq];exact v3⟩
end
end Go.Proofs.YtjcmfddobaplbaaGreat
