/-
 Slices of the call's own that a callee writes; clear. Plain theorems over any program. No conditions.
-/
import Derived.Test.YtlgfihlflchhgaaGH
namespace Go.Proofs.Ytlgfihlflchhgaa
open Go.RowKit
set_option maxRecDepth 100000
section
variable {P:Program} {H:AH} {s:Nat} {o:Oper} {ρ:Operand->AV}
theorem run_zeroV {e:TypeId} {i:TypeInfo} {z:Value} (w:World) (hi:P.info? e=some i) (hz:i.zero=some z):(zeroValue e).run P w = .ok z w:=by simp [zeroValue,typeInfo,hi,hz]
theorem opS_clear {cl:Call} {x:Operand} {t e:TypeId} {b ver off len:Nat} {k:ABlk} {z:Value} {zr:List AV} (ho:o.op = .call cl) (h1:cl.callee = .builtin .clear) (h2:cl.args.toList=[x]) (h3:cl.argTypes.toList=[t])
  (ht:P.underlying t=some (.slice e)) (hz:(P.info? e).bind (·.zero)=some z) (hz1:allOne z.cells=true) (hzs:z.cells.size=s) (hzr:zr.length=s) (hzc:∀ (c:Cx) (j:Nat) (a:AV),zr[j]? = some a->∃ u,z.cells[j]? = some u/\c.rel a u)
  (hx:ρ x = .hs b ver s off len) (hb:H[b]? = some (some k)) (hv:k.ver=ver) (hs:k.s=s) (hoff:off+len<=k.rows.length) :
  OpS P o ρ H .top (H.set b (some { k with rows:=k.rows.take off++(List.replicate len zr).take len++k.rows.drop (off+len) })):=by
 intro c a K Q hH hr hxs hK
 obtain ⟨callee,args,ts⟩:=cl
 simp only at h1 h2 h3
 obtain rfl:args = #[x]:=by cases args;simp_all
 obtain rfl:ts = #[t]:=by cases ts;simp_all
 subst h1
 have hx1:=hx ▸ hxs x (by rw [ho];simp [Op.operands,Call.operands])
 generalize hn:len=n at hK ⊢
 generalize hnews:List.replicate n zr=news at hK ⊢
 have hrl:∀ (i:Nat) (row:List AV),news[i]? = some row->row.length=s:=fun i row h=>by
  rw [<- hnews] at h
  have := List.mem_of_getElem? h
  rw [List.mem_replicate] at this
  rw [this.2,hzr]
 have hnl0:news.length=n:=by rw [<- hnews,List.length_replicate]
 have hone:∀ v∈z.cells,v.oneCell'=true:=by
  rw [allOne_eq,Array.all_eq_true_iff_forall_mem] at hz1
  exact hz1
 generalize hvs:(Builtin.zeroCells z.cells n).toList=vs
 have hvl:vs.length=n*s:=by rw [<- hvs,Array.length_toList,size_zeroCells',hzs]
 have hvget:∀ i j,i<n->j<s->vs[i*s+j]? = z.cells[j]? := fun i j hi hj=>by
  have hfit:i*s+j<n*s:=by
   have : (i+1)*s<=n*s:=Nat.mul_le_mul_right _ (by omega)
   rw [Nat.add_mul] at this
   omega
  rw [<- hvs,Array.getElem?_toList]
  unfold Builtin.zeroCells
  rw [hzs]
  have := zero_get z.cells (n*s) (i*s+j) hfit (by omega)
  rw [hzs] at this
  rw [this,Nat.mul_comm i s,Nat.mul_add_mod,Nat.mod_eq_of_lt hj]
 have hv1:∀ v∈vs,v.oneCell'=true:=fun v hm=>by
  obtain ⟨q,hq⟩:=List.getElem?_of_mem hm
  have hq':=(List.getElem?_eq_some_iff.1 hq).1
  rw [hvl] at hq'
  have hs0:0<s:=Nat.pos_of_ne_zero fun h=>by rw [h,Nat.mul_zero] at hq';omega
  have e1:q=q / s*s+q % s:=by rw [Nat.mul_comm];exact (Nat.div_add_mod q s).symm
  rw [e1,hvget (q / s) (q % s) (Nat.div_lt_of_lt_mul (by rw [Nat.mul_comm];exact hq')) (Nat.mod_lt _ hs0)] at hq
  exact hone v (Array.mem_of_getElem? hq)
 have hvr:∀ (i:Nat) (row:List AV) (j:Nat) (a:AV),(news.take n)[i]? = some row->row[j]? = some a->∃ u,vs[i*s+j]? = some u/\u.oneCell'=true/\c.rel a u:=fun i row j a hi hj=>by
  have hin:i<n:=by
   have := (List.getElem?_eq_some_iff.1 hi).1
   rw [List.length_take] at this
   omega
  rw [List.getElem?_take,if_pos hin,<- hnews] at hi
  have := List.mem_of_getElem? hi
  rw [List.mem_replicate] at this
  rw [this.2] at hj
  have hjs:j<s:=by rw [<- hzr];exact (List.getElem?_eq_some_iff.1 hj).1
  obtain ⟨u,g1,g2⟩:=hzc c j a hj
  exact ⟨u,by rw [hvget i j hin hjs];exact g1,hone u (Array.mem_of_getElem? g1),g2⟩
 have hl:c.live b k:=by unfold Cx.live;rw [hH];exact hb
 generalize hux:a.eval x=ux at hx1
 cases hx1 with
 | fr h=>cases h
 | @hs _ _ _ _ _ cap A hbn hcl hcm h0 hh=>
  obtain ⟨cur,fr,hB⟩:=hr.blk b k hl
  obtain ⟨fr,rfl,hat,hd⟩:=hB.cells hl (fun x hx=>(hh x (hv ▸ hx)).1.trans hs.symm)
  rw [hv] at hd
  obtain ⟨_,_,hA,hcf⟩:=hh _ hd
  simp only at hA hcf
  have hexec:∀ w',(n=0/\w'=c.w)\/(∃ ad,A=some ad/\0<n/\(storeCells ad vs).run P c.w = .ok () w')->(execOp a.eval o).run P c.w = .ok (.value (.tuple #[])) w':=fun w' hw=>by
   have e1:(Builtin.clear_ #[t] o.type #[.slice A len cap]).run P c.w = .ok (.tuple #[]) w':=by
    obtain ⟨inf,h5,h6⟩:=Option.bind_eq_some_iff.1 hz
    rcases hw with ⟨h0',rfl⟩ | ⟨ad,rfl,hp,hst⟩
    ·rw [hn,h0']
     cases A <;> simp [Builtin.clear_,Sem.run_bind,run_underlying' ht]
    ·obtain ⟨q,rfl⟩:∃ q,n=q+1:=⟨n-1,by omega⟩
     rw [hn]
     simp [Builtin.clear_,Sem.run_bind,run_underlying' ht,run_zeroV c.w h5 h6,hvs,hst]
   simp [execOp,ho,resolve,invoke,builtin,hux,e1]
  unfold Oper.wp
  rcases Nat.eq_zero_or_pos n with h00 | hpos
  ·-- nothing is copied
   have hv0:vs=[]:=List.eq_nil_of_length_eq_zero (by rw [hvl,h00,Nat.zero_mul])
   have hk0:({ k with rows:=k.rows.take off++news.take n++k.rows.drop (off+n) }:ABlk)=k:=by
    rw [h00]
    simp
   rw [hexec c.w (.inl ⟨h00,rfl⟩)]
   refine hK _ c ?_ hr (Ext.refl c) .top
   rw [hk0,set_same H b _ hb,hH]
  ·have h0':0<cap:=by omega
   obtain rfl:=hA h0'
   have hfit:=hB.fits
   have hsp:=hB.pos
   have hle:(c.φ b).2+off*s+vs.length<=cur.toList.length:=by
    have h5:(off+len)*s<=k.rows.length*s:=Nat.mul_le_mul_right _ hoff
    have h6:n*s<=len*s:=Nat.mul_le_mul_right _ (by omega)
    rw [Nat.add_mul] at h5
    have hct:cur.toList.length=cur.size:=Array.length_toList
    rw [hs] at hfit
    rw [hvl,hct]
    omega
   have hst:=run_storeCells_fr (P:=P) (c.φ b).1 ((c.φ b).2+off*s) k.ty fr vs 0 cur c.w hat (hB.free fr rfl) (by simpa using hle) hv1
   rw [Nat.add_zero] at hst
   have hg2:=fun q=>seg_get cur.toList _ _ hle q
   have hs2:=seg_size cur.toList _ _ hle
   generalize hcs2:(cur.toList.take ((c.φ b).2+off*s)++vs++cur.toList.drop ((c.φ b).2+off*s+vs.length))=ls at *
   have hsz2:ls.toArray.size=cur.size:=by simpa using hs2
   have hget:∀ q,ls.toArray[q]? = if (c.φ b).2+off*s<=q/\q<(c.φ b).2+off*s+vs.length then vs[q-((c.φ b).2+off*s)]? else cur[q]? := fun q=>by
    rw [List.getElem?_toArray,hg2,Array.getElem?_toList (xs:=cur)]
   have hrl2:(k.rows.take off++news.take n++k.rows.drop (off+n)).length=k.rows.length:=by
    simp only [List.length_append,List.length_take,List.length_drop]
    omega
   have hrow:∀ (i:Nat) (row:List AV),(k.rows.take off++news.take n++k.rows.drop (off+n))[i]? = some row->(off<=i/\i<off+n/\news[i-off]? = some row)\/((i<off\/off+n<=i)/\k.rows[i]? = some row):=fun i row h=>by
    have hnl:(news.take n).length=n:=by simp;omega
    have e:=seg_get k.rows off (news.take n) (by rw [hnl];omega) i
    rw [hnl] at e
    rw [e] at h
    split at h
    ·rename_i h2
     refine .inl ⟨h2.1,h2.2,?_⟩
     rw [List.getElem?_take,if_pos (by omega)] at h
     exact h
    ·rename_i h2
     exact .inr ⟨by omega,h⟩
   have hlen2:∀ (i:Nat) (row:List AV),(k.rows.take off++news.take n++k.rows.drop (off+n))[i]? = some row->row.length=k.s:=fun i row h=>by
    rcases hrow i row h with ⟨_,_,h2⟩ | ⟨_,h2⟩
    ·rw [hrl _ row h2,hs]
    ·exact hB.len i row h2
   have hext:=Cx.upd_ext (k:={ k with rows:=k.rows.take off++news.take n++k.rows.drop (off+n) }) (o:=(c.φ b).2) (cs:=ls.toArray) hr hl hB hsz2 (.inl ⟨rfl,rfl,hrl2,rfl⟩)
   have hrel:=Cx.upd_rel (k:={ k with rows:=k.rows.take off++news.take n++k.rows.drop (off+n) }) (o:=(c.φ b).2) (cs:=ls.toArray) hr hl hB hsz2 rfl hext hsp (by simp only;rw [hrl2,hsz2];exact hfit) hlen2 (fun i row j a' h h'=>by
    have hj:j<s:=by
     have := (List.getElem?_eq_some_iff.1 h').1
     rw [hlen2 i row h,hs] at this
     exact this
    simp only
    rw [hget,hs,hvl]
    rcases hrow i row h with ⟨g1,g2,g3⟩ | ⟨g1,g3⟩
    ·have hf:=row_fits (s:=s) (show i-off<n by omega) (j:=j+1) hj
     have e:i*s=(i-off)*s+off*s:=by
      rw [<- Nat.add_mul]
      congr 1
      omega
     rw [if_pos (by omega)]
     obtain ⟨u',q1,q2,q3⟩:=hvr (i-off) row j a' (by rw [List.getElem?_take,if_pos (by omega)];exact g3) h'
     refine ⟨u',?_,q2,q3⟩
     rw [<- q1]
     congr 1
     omega
    ·have hi':=(List.getElem?_eq_some_iff.1 g3).1
     rw [if_neg (fun hq => ?_)]
     ·have := hB.rel i row j a' g3 h'
      rw [hs] at this
      exact this
     ·rcases g1 with g1 | g1
      ·have hf:=row_fits (s:=s) g1 (j:=j+1) hj
       omega
      ·have hf:(off+n)*s<=i*s:=Nat.mul_le_mul_right _ g1
       rw [Nat.add_mul] at hf
       omega)
   rw [hexec _ (.inr ⟨_,rfl,hpos,hst⟩)]
   exact hK _ _ (by rw [<- hH];rfl) hrel hext .top
variable {α:Type} {c:α->List AV} {l:List α} {x y:Operand} {t e:TypeId} {ag:Bool} {w m b ver off len:Nat} {zs:List AV}
def ZrR (zs zr:List AV):Prop:=zr.length=zs.length/\∀ (cx:Cx) (j:Nat) (a a':AV) (v:Value),zs[j]? = some a->zr[j]? = some a'->cx.rel a v->cx.rel a' v
theorem rel_nil_eL {β:Type} [Inhabited β] {f:β->List AV} {cx:Cx} {v:Value} (h:cx.rel .nil v):cx.rel (eL f ([]:List β)) v:=by
 obtain rfl:=rel_nil h
 exact .fr (.sl (s:=1) (g:=0) (o:=0) (fun _ _ => .bool false) (Nat.le_refl _) (by decide) (fun h=>absurd h (by simp)) (fun i h=>absurd h (by simp)) (fun i j a h=>absurd h (by simp)) (fun i j a h=>absurd h (by simp)) (fun i j a h=>absurd h (by simp)))
theorem zrN {β:Type} [Inhabited β] {f:β->List AV}:ZrR [.nil] [eL f ([]:List β)]:=⟨rfl,fun cx j a a' v h h' hr=>by
 match j with
 | 0=>
  obtain rfl:=Option.some.inj h
  obtain rfl:=Option.some.inj h'
  exact rel_nil_eL hr
 | j+1=>simp at h⟩
theorem EvN.ixP {k:IntKind} {i:Int} {n lo:Nat} (q:SlT P t e ag w zs m) (hx:ρ x = .hs b ver w lo n) (hy:ρ y = .v (.int k i)) (hi:0<=i/\i<(n:Int)):EvN P ρ (.indexAddr t x y) (.hp b ver w (lo+i.toNat) 0):=EvN.ixhs q.u q.ty hx hy hi
theorem EvN.lenP {n lo:Nat} (q:SlT P t e ag w zs m) (hx:ρ x = .hs b ver w lo n):EvN P ρ (.call ⟨.builtin .len,#[x],#[t]⟩) (I n):=EvN.lenhs q.u hx
theorem EvA.clearO [Inhabited α] (q:SlT P t e ag w zs m) (hz:ZrR zs (c default)) (hx:ρ x = .hs b ver w off len) (hk:H[b]? = some (bE false ver w e (l.map c))) (ho:off+len<=l.length) :
  EvA P ρ (.call ⟨.builtin .clear,#[x],#[t]⟩) H .top (H.set b (bE false ver w e ((cpy l off (List.replicate len default) len).map c))):=fun o ho'=>by
 obtain ⟨z,hz0,hzz⟩:=Option.map_eq_some_iff.1 q.z.z
 have hone:allOne z.cells=true:=by
  have := q.z.one
  rw [hz0] at this
  exact Option.some.inj this
 have hsz:z.cells.size=w:=by
  have := congrArg List.length hzz
  rw [<- q.zl,<- this]
  simp [zcells]
 have h:=opS_clear (o:=o) (P:=P) (ρ:=ρ) (H:=H) (s:=w) (k:=⟨ver,w,e,l.map c⟩) (zr:=c default) ho' rfl rfl rfl q.u hz0 hone hsz (hz.1.trans q.zl) (fun cx j a ha=>by
  have hjl:j<zs.length:=by rw [<- hz.1];exact (List.getElem?_eq_some_iff.1 ha).1
  have hzs:zs[j]? = some zs[j]:=List.getElem?_eq_getElem hjl
  have hju:j<z.cells.size:=by rw [hsz,<- q.zl];exact hjl
  refine ⟨z.cells[j],Array.getElem?_eq_getElem hju,hz.2 cx j _ a _ hzs ha ?_⟩
  have hc:=zcells_rel cx hone
  obtain ⟨u,g1,g2⟩:=hc.get (j:=j) (a:=zs[j]) (by rw [hzz];exact hzs)
  rw [Array.getElem?_eq_getElem hju] at g1
  obtain rfl:=Option.some.inj g1
  first | exact g2 | exact g2.2) hx hk rfl rfl (by simpa using ho)
 unfold cpy
 rw [if_pos ho]
 simpa [bE,List.map_take,List.map_drop] using h
end
section
variable {P:Program} {H:AH}
theorem BCall.wown {f:FuncId} {as0 as:List AV} {b:Nat} {g:Bool} {ver w w':Nat} {ty ty':TypeId} {rows0 rows:List (List AV)} {mk:AV->AV} {n:Nat} (h:BCall P f as0 [bE g ver w ty rows0] (OwnR w' ty' mk n rows 0 [])) (hb:H[b]? = some (bE g ver w ty rows0))
  (has:RenL (fun c i=>[b][i]? = some c) as as0) (hk0:∀ r∈rows0,∀ a∈r,isF 9 a=true) (hk:∀ r∈rows,∀ a∈r,isF 9 a=true) (hmk:∀ (S:Nat->Nat->Prop) (a b:AV),Ren S a b->Ren S (mk a) (mk b)) :
  BCall P f as H (fun r G=>∃ g' ver',(g'=true->n=0)/\r=mk (hS g' b ver' w' n)/\G=H.set b (bE g' ver' w' ty' rows)):=by
 have hlt:b<H.length:=(List.getElem?_eq_some_iff.1 hb).1
 refine h.frameN [b] (by simp) rfl (fun i c hi => ?_) has.spec.1 has.spec.2 fun r0 G0 ⟨g',ver',hg,hr0,hG0⟩ => ?_
 ·match i with
  | 0=>
   obtain rfl:b=c:=by simpa using hi
   cases g with
   | true=>exact .inl ⟨hb,rfl⟩
   | false=>exact .inr ⟨_,_,hb,rfl,.ofF hk0⟩
  | i+1=>simp at hi
 ·subst hr0 hG0
  have key:∀ i c,sg [b] H.length i c->i<1->c=b:=fun i c hs hi=>by
   rcases hs with hs | ⟨hs,_⟩
   ·obtain rfl:i=0:=by omega
    simpa using hs.symm
   ·simp at hs
    omega
  refine ⟨_,_,⟨by simp,by simp,fun i c hi hs hn => ?_,fun i c k0 hs hk0 => ?_,fun c hc hne=>List.getElem?_set_ne (fun e=>hne (by simp [e]))⟩,hmk _ _ _ ?_,⟨g',ver',hg,rfl,rfl⟩⟩
  ·simp only [List.nil_append,List.length_singleton] at hi
   obtain rfl:=key i c hs hi
   obtain rfl:i=0:=by omega
   simp only [List.nil_append,List.getElem?_cons_zero,Option.some.injEq] at hn
   rw [List.getElem?_set_self hlt,hn]
  ·have hi:i<1:=by
    have := (List.getElem?_eq_some_iff.1 hk0).1
    simpa using this
   obtain rfl:=key i c hs hi
   obtain rfl:i=0:=by omega
   simp only [List.nil_append,List.getElem?_cons_zero,Option.some.injEq] at hk0
   refine ⟨k0,by rw [List.getElem?_set_self hlt,hk0],.ofF fun r hr a ha => ?_⟩
   cases g' with
   | true=>cases hk0
   | false=>
    obtain rfl:=Option.some.inj hk0
    exact hk r hr a ha
  ·cases g' with
   | true=>exact .nil
   | false=>exact .hs (.inl rfl)
theorem ACall.oneE {f:FuncId} {as0 as:List AV} {b:Nat} {g:Bool} {ver w:Nat} {ty:TypeId} {rows0 rows:List (List AV)} {r:AV} (h:ACall P f as0 [bE g ver w ty rows0] r [bE g ver w ty rows]) (hb:H[b]? = some (bE g ver w ty rows0))
  (has:RenL (fun c i=>[b][i]? = some c) as as0) (hk0:∀ r∈rows0,∀ a∈r,isF 9 a=true) (hk:∀ r∈rows,∀ a∈r,isF 9 a=true) (hr:isF 9 r=true):ACall P f as H r (H.set b (bE g ver w ty rows)):=by
 have hlt:b<H.length:=(List.getElem?_eq_some_iff.1 hb).1
 have h0:BCall P f as0 [bE g ver w ty rows0] (fun r' G=>r'=r/\G=[bE g ver w ty rows]):=⟨h.1,fun c vs hH hr hall=>(h.2 c vs hH hr hall).mono fun e w' ⟨v,c',h1,h2,h3,h4,h5,h6⟩=>⟨v,c',r,h1,h2,⟨rfl,h3⟩,h4,h5,h6⟩⟩
 refine BCall.acall (h0.frameN [b] (by simp) rfl (fun i c hi => ?_) has.spec.1 has.spec.2 fun r0 G0 ⟨hr0,hG0⟩ => ?_)
 ·match i with
  | 0=>
   obtain rfl:b=c:=by simpa using hi
   cases g with
   | true=>exact .inl ⟨hb,rfl⟩
   | false=>exact .inr ⟨_,_,hb,rfl,.ofF hk0⟩
  | i+1=>simp at hi
 ·subst hr0 hG0
  have key:∀ i c,sg [b] H.length i c->i<1->c=b:=fun i c hs hi=>by
   rcases hs with hs | ⟨hs,_⟩
   ·obtain rfl:i=0:=by omega
    simpa using hs.symm
   ·simp at hs
    omega
  refine ⟨_,_,⟨by simp,by simp,fun i c hi hs hn => ?_,fun i c k0 hs hk0 => ?_,fun c hc hne=>List.getElem?_set_ne (fun e=>hne (by simp [e]))⟩,ren_isF 9 _ hr,rfl,rfl⟩
  ·simp only [List.length_singleton] at hi
   obtain rfl:=key i c hs hi
   obtain rfl:i=0:=by omega
   simp only [List.getElem?_cons_zero,Option.some.injEq] at hn
   rw [List.getElem?_set_self hlt,hn]
  ·have hi:i<1:=by
    have := (List.getElem?_eq_some_iff.1 hk0).1
    simpa using this
   obtain rfl:=key i c hs hi
   obtain rfl:i=0:=by omega
   simp only [List.getElem?_cons_zero,Option.some.injEq] at hk0
   refine ⟨k0,by rw [List.getElem?_set_self hlt,hk0],.ofF fun r hr a ha => ?_⟩
   cases g with
   | true=>cases hk0
   | false=>
    obtain rfl:=Option.some.inj hk0
    exact hk r hr a ha
theorem ren_hSgN {S:Nat->Nat->Prop} {g:Bool} {i j v w n n':Nat} (h:S i j) (hn:n=n'):Ren S (hS g i v w n) (hS g j v w n'):=hn ▸ ren_hSg h
variable {nt b0:Nat} {Q:Exit->Env->AH->Prop} {en:List (Nat×AV)} {ops:Array Oper} {l:List Oper} {d:Tmp} {t:TypeId} {pos:String} {af:Array Edge}
theorem oGW {cl:Call} {f:Operand} {g:FuncId} {caps as0:List AV} {H:AH} {b w0 ver w:Nat} {g0:Bool} {ty0 ty:TypeId} {rows0 rows:List (List AV)} {mk:AV->AV} {n:Nat} (hc:cl.callee = .value f) (hf:rho (envOf en) f = .fn (.func g) caps)
  (h:BCall P g as0 [bE g0 ver w0 ty0 rows0] (OwnR w ty mk n rows 0 [])) (hb:H[b]? = some (bE g0 ver w0 ty0 rows0)) (has:RenL (fun c i=>[b][i]? = some c) (cl.args.toList.map (rho (envOf en))++caps) as0) (hk0:∀ r∈rows0,∀ a∈r,isF 9 a=true) (hk:∀ r∈rows,∀ a∈r,isF 9 a=true)
  (hmk:∀ (S:Nat->Nat->Prop) (a b:AV),Ren S a b->Ren S (mk a) (mk b)) (k:∀ g' ver',(g'=true->n=0)->TO P nt b0 ops l Q (envOf ((d,mk (hS g' b ver' w n))::en)) (H.set b (bE g' ver' w ty rows))):TO P nt b0 ops (⟨some d,.call cl,t,pos,af,none⟩::l) Q (envOf en) H:=by
 exact TO.runG (.free rfl) (opG_call rfl hc hf (h.wown hb has hk0 hk hmk)) fun r' H' ⟨g',ver',hg,hr,hH⟩=>by
  subst hr hH
  exact k g' ver' hg
end
section
variable {P:Program} {ρ:Operand->AV} {H:AH} {x y z:Operand} {t e keyT:TypeId} {ag:Bool} {w j b kn:Nat}
theorem EvN.slA {α:Type} [Inhabited α] {c:α->List AV} (l:List α) {row:List AV} (hu:P.underlying t=some (.array 3 e)) (ty:TyF P e ag w) (hx:ρ x = .fp row j) (hl:l.length=3) (hr:Nat.ble (j+3*w) row.length=true)
  (h:[(row.drop (j+0*w)).take w,(row.drop (j+1*w)).take w,(row.drop (j+2*w)).take w]=[c (l.getD 0 default),c (l.getD 1 default),c (l.getD 2 default)]):EvN P ρ (.slice t x none none none) (eL c l):=by
 injection h with h0 h
 injection h with h1 h
 injection h with h2 _
 have key:EvN P ρ (.slice t x none none none) (.sl 3 (fun i=>(row.drop (j+i*w)).take w)) := .mk fun K hK=>by
  show aopN P ρ (.slice t x none none none) K
  simp only [aopN,aslice,hu,hx,Option.map_none]
  show (0<=(0:Int)/\(0:Int)<=((3:Nat):Int)/\((3:Nat):Int)<=((3:Nat):Int)/\j+3*P.cellsOf e<=row.length/\(P.info? e).isSome=true/\3<=9223372036854775807)/\_
  rw [ty.cells]
  exact ⟨⟨by omega,by omega,by omega,Nat.le_of_ble_eq_true hr,ty.info,by omega⟩,hK⟩
 refine key.res fun C v hv => ?_
 unfold Go.Proofs.Ytlgfihlflchhgaa.eL
 rw [hl]
 exact rel_sl_eq (fun i hi=>by
  match i,hi with
  | 0,_=>exact h0
  | 1,_=>exact h1
  | 2,_=>exact h2) hv
variable {K:Type} [DecidableEq K] {kc:K->List Value} {l:List (K×Bool)}
theorem EvA.minsB (q:KeyA P keyT kn kc) (ht:P.underlying t=some (.map keyT e)) (k:K) (v:Bool)
  (hx:ρ x = .mp b (kn+1)) (hy:ρ y=mkA ((kc k).map AV.v)) (hz:ρ z=Bo v) (hb:H[b]? = some (some (mB kn 1 kc cB l))) :
  EvA P ρ (.insert t x y z) H .top (H.set b (some (mB kn 1 kc cB (mput l k v)))):=
 EvA.mins (vn:=1) (cv:=cB) q (fun _=>rfl) ht (Nat.succ_pos kn) k v hx hy (by rw [hz];rfl) (by rw [hz];rfl) hb
omit [DecidableEq K] in
theorem EvA.mlenB (ht:P.underlying t=some (.map keyT e)) (hx:ρ x = .mp b (kn+1)) (hb:H[b]? = some (some (mB kn 1 kc cB l))):EvA P ρ (.call ⟨.builtin .len,#[x],#[t]⟩) H (I l.length) H:=
 EvA.mlen (vn:=1) (cv:=cB) ht hx hb
end
end Go.Proofs.Ytlgfihlflchhgaa
