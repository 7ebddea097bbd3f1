/- Texts joined. No conditions. -/
import Derived.Lib.Bytealg
import Derived.Laws.Externs
import Derived.Lib.Join
import Derived.Test.YtpkhamajimidnaaGreatDoorW4
namespace Go.Proofs.YtpkhamajimidnaaGreatDoor
noncomputable section
open _root_.List renaming range -> RJ, getElem?_cons_zero -> RN, replicate -> RP, all_eq_true -> RQ, getElem?_set_ne -> RS, getElem?_take -> RU, length_take -> RV, getElem?_cons_succ -> RY, getElem?_set_self -> RZ, mem_map -> R3, mem_replicate -> R5, getElem_map -> R7, getElem?_map -> R8, length_range -> R9, mem_of_getElem? -> Sc, length_drop -> Sj, contains_eq_mem -> Sn, ext_getElem? -> Sq, getElem?_drop -> Sv, map_take -> Sy, length_set -> Sz, nil_append -> SB, take_of_length_le -> SF, map_congr_left -> SG, length_replicate -> SK
open _root_.Nat renaming ble -> RL, le_refl -> RO, add_mul -> RR, mul_le_mul_right -> RX, lt_or_ge -> R6, mul_comm -> Sd, add_assoc -> Sr, min_eq_left -> Sw, zero_mul -> SA, eq_of_beq_eq_true -> SI
open _root_.Bool renaming or_eq_true -> R4
open _root_.Option renaming bind_eq_some_iff -> Sa, map_eq_some_iff -> SJ
open _root_.Array renaming range -> Sb, getElem?_eq_none -> Se, getElem?_eq_some_iff -> Sf, getElem?_toList -> Sg, mem_of_getElem? -> Si, any_eq_true' -> Sk, replicate -> Ss, length_toList -> Su, getElem?_setIfInBounds_ne -> SC, setIfInBounds_comm -> SD, getElem?_append_left -> SE, getElem?_eq_getElem -> SN
open Go.RowKit
set_option maxRecDepth 100000
section
variable {α β:Type} [Inhabited β] {f:α->List Value} {s:Nat} {c:β->List AV} {w:World} {fz:Nat->Prop} {v:Value}
theorem Hg {u x:Value} (h:FRel w fz (.v u) x):x=u:=by
 cases h with
 | v _=>rfl
theorem BN {e:β->α} (hf:∀ x,c x=(f (e x)).map AV.v) (hs:∀ x,(f (e x)).length=s) {l:List β} (h:FRel w fz (eL c l) v):Sl f s w 0 w.heap.size v (l.map e):=by
 unfold eL at h
 cases h with
 | sl us hc hm ha hr hu h1 h=>
  refine ⟨_,_,by rw [llm],by simpa using hc,hm,λhn=>?_⟩;rw [llm] at hn;obtain ⟨rfl,hg,hlt⟩:=ha hn;refine ⟨_,_,rfl,Nat.zero_le _,hlt,hlt,λk hk j u hu' => ?_⟩;rw [llm] at hk;rw [R7] at hu';have hk0:l.getD k default=l[k]:=by simp [List.getD,hk]
  have hrow:(c (l.getD k default))[j]? = some (.v u):=by rw [hk0,hf,R8,hu'];rfl
  have hs':=hr k hk
  dsimp only at hs'
  rw [hf,llm,hs] at hs';subst hs';have h2:=hu k j _ hk hrow;rw [Hg (h k j _ hk hrow)] at h2;exact h2
theorem yI {e:β->α} (hf:∀ x,c x=(f (e x)).map AV.v) (hs:∀ x,(f (e x)).length=s) {l:List (List β)} (h:FRel w fz (eL (cL c) l) v):yO f s w 0 w.heap.size v (l.map λr=>r.map e):=by
 unfold eL at h
 cases h with
 | sl us hc hm ha hr hu h1 h=>
  refine ⟨(RJ l.length).map λi=>us i 0,?_,by simp,λk hk hk' => ?_⟩
  ·refine ⟨_,_,by rw [llm,R9],by simpa using hc,hm,λhn=>?_⟩;rw [llm,R9] at hn;obtain ⟨rfl,hg,hlt⟩:=ha hn;refine ⟨_,_,rfl,Nat.zero_le _,hlt,hlt,λk hk j u hu' => ?_⟩;rw [llm,R9] at hk;rw [R7,List.getElem_range] at hu';have hs':=hr k hk;change 1=_ at hs';subst hs'
   match j with
   | 0=>
    have h2:=hu k 0 _ hk rfl;rw [h2];simpa [Mv] using hu'
   | j+1=>simp [Mv] at hu'
  rw [llm,R9] at hk;rw [R7,R7,List.getElem_range];have h2:=h k 0 _ hk rfl;have hk0:l.getD k default=l[k]:=by simp [List.getD,hk]
  rw [hk0] at h2;exact BN hf hs h2
theorem CI {P:Program} {g:FuncId} {ars:List AV} {r:AV} (h:au P g ars r) (vs:Array Value) (hl:vs.size=ars.length) (hr:∀ (i:Nat) (a:AV) (v:Value),ars[i]? = some a->vs[i]? = some v->FRel w (λg=>g<w.heap.size) a v) (hgl:Gl w (λg=>g<w.heap.size):=by exact gl_none) :
  Calls P g vs w λe w'=>∃ v fz',e = .returned v/\Below w.heap.size w w'/\FRel w' fz' r v:=
 (h.2 w _ vs (λg hg=>hg) hgl hl hr).mono λe w' ⟨v,fz',h1,h2,h3,_⟩=>⟨v,fz',h1,h2,h3⟩
end
theorem Ey {P:Program} {g:FuncId} {ars:List AV} {w:World} {vs:Array Value} (h:au P g ars (Bo true)) (hl:vs.size=ars.length) (hr:∀ (i:Nat) (a:AV) (v:Value),ars[i]? = some a->vs[i]? = some v->FRel w (λg=>g<w.heap.size) a v) (hgl:Gl w (λg=>g<w.heap.size):=by exact gl_none) :
  Calls P g vs w λe w'=>e = .returned (.bool true)/\Below w.heap.size w w':=
 (CI h vs hl hr hgl).mono λe w' ⟨v,fz',h1,h2,h3⟩=>⟨by rw [h1,Hg h3],h2⟩
open Go.RowKit Go.WideShapes Go.ChangeShapes Go.Deep
def RC (w:World) (row:List AV) (cs:List Value):Prop:=
 cs.length=row.length/\∀ (j:Nat) (a:AV) (u:Value),row[j]? = some a->cs[j]? = some u->u.oneCell'=true/\FRel w (λg=>g<w.heap.size) a u
section
variable {H:Type} {enc:TypeId×Value->H} {P:Program} {w:World} {spare:Nat->Bool} {held:Bool}
theorem tQ {α:Type} [Inhabited α] {c:α->List AV} {s:Nat} {t e:TypeId} (hs:P.cellsOf e=s) (hs0:0<s) (ht:P.underlying t=some (.slice e)) {Good:α->Prop} {fuel:Nat} {cs:List Value} {x:DataW H×List MemPlace}
  (hel:∀ (n:Nat) (cs:List Value) (x:DataW H×List MemPlace),n<fuel->DataW.trod enc P w 0 spare held n e cs=some x->∃ a,RC w (c a) cs/\Good a)
  (h:DataW.trod enc P w 0 spare held fuel t cs=some x):∃ v,cs=[v]/\v.oneCell'=true/\∃ l:List α,(l.length:Int)<=9223372036854775807/\FRel w (λg=>g<w.heap.size) (eL c l) v/\∀ y∈l,Good y:=by
 rcases DataW.trod_slice ht h with ⟨rfl,_⟩ | ⟨a,len,cap,elems,rest,n,hfu,rfl,_,_,hl,hm,hlen,hi,_⟩
 ·refine ⟨_,rfl,rfl,[],by simp,?_,λy hy=>absurd hy (by simp)⟩;exact FRel.sl (s:=0) (g:=0) (o:=0) (λ_ _ => .bool false) (RO _) (by omega) (λh=>absurd h (by simp)) (λi h=>absurd h (by simp)) (λi j c h=>absurd h (by simp)) (λi j c h=>absurd h (by simp)) (λi j c h=>absurd h (by simp))
 simp only [maxLen] at hm;have key:∀ i,i<len->∃ y:α×List Value,RC w (c y.1) y.2/\Good y.1/\y.2.length=s/\∀ j,j<s->w.cell? ((a.add (i*s)).add j)=y.2[j]? := by
  intro i hil;have hb:=hi i hil;rw [geq (by omega)] at hb;obtain ⟨cs',h1,h2⟩:=Sa.1 hb;obtain ⟨y,hy,hg⟩:=hel n cs' _ (by omega) h2;rw [hs] at h1;obtain ⟨_,hcl,hat⟩:=World.cells?_some h1;exact ⟨(y,cs'),hy,hg,hcl,hat⟩
 clear hi
 by_cases hn:0<len
 ·obtain ⟨⟨y0,cs0⟩,hr0,_,hcl0,hat0⟩:=key 0 hn;have h00:=hat0 0 hs0;simp only at hcl0 h00;rw [geq (by omega)] at h00;have hspot:=World.cell?_spot h00;obtain ⟨b,o,sp⟩:=a;have hsp:sp=none:=by simpa [Addr.add] using hspot
  subst hsp;have hb:b<w.heap.size:=by
   have := World.block_lt_of_cell? w _ h00;simpa [xp] using this
  have hch:∃ F:Nat->α×List Value,∀ i,i<len->RC w (c (F i).1) (F i).2/\Good (F i).1/\(F i).2.length=s/\∀ j,j<s->w.cell? (((⟨b,o,none⟩:Addr).add (i*s)).add j)=(F i).2[j]? := by
   refine ⟨λi=>if h:i<len then (key i h).choose else (y0,cs0),λi hil=>?_⟩;simp only [dif_pos hil];exact (key i hil).choose_spec
  obtain ⟨F,hF⟩:=hch;have hgd:∀ i,i<len->((RJ len).map λi=>(F i).1).getD i default=(F i).1:=λi hi=>by
   rw [gdq,R8,List.getElem?_range hi]
   rfl
  have hrow:∀ (i j:Nat) (av:AV),i<len->(c (((RJ len).map λi=>(F i).1).getD i default))[j]? = some av->∃ u,(F i).2[j]? = some u/\(F i).2.getD j (.bool false)=u/\j<s/\u.oneCell'=true/\FRel w (λg=>g<w.heap.size) av u:=λi j av hi ha=>by
   rw [hgd i hi] at ha;obtain ⟨⟨r1,r2⟩,_,r3,_⟩:=hF i hi;have hj:j<(F i).2.length:=by rw [r1];exact (ges ha).1
   obtain ⟨q1,q2⟩:=r2 j av _ ha (geq hj);exact ⟨_,geq hj,by rw [gdq,geq hj];rfl,by omega,q1,q2⟩
  refine ⟨_,rfl,rfl,(RJ len).map λi=>(F i).1,by simp;omega,?_,λy hy=>?_⟩
  ·unfold eL;rw [show ((RJ len).map λi=>(F i).1).length=len by simp];refine FRel.sl (s:=s) (g:=b) (o:=o) (λi j=>(F i).2.getD j (.bool false)) hl (by omega) (λ_=>⟨rfl,hb,hb⟩) (λi hi=>?_) (λi j av hi ha=>?_) (λi j av hi ha=>?_) (λi j av hi ha=>?_)
   ·rw [hgd i hi,<- (hF i hi).1.1];exact (hF i hi).2.2.1
   ·obtain ⟨u,u1,u2,u3,_⟩:=hrow i j av hi ha;have := (hF i hi).2.2.2 j u3;rw [xp,xp,u1] at this;rw [u2];exact this
   ·obtain ⟨u,u1,u2,u3,u4,_⟩:=hrow i j av hi ha;rw [u2];exact u4
   obtain ⟨u,u1,u2,u3,_,u5⟩:=hrow i j av hi ha;rw [u2];exact u5
  rw [R3] at hy;obtain ⟨i,hi,rfl⟩:=hy;exact (hF i (by simpa using hi)).2.1
 have h0:len=0:=by omega
 subst h0;refine ⟨_,rfl,rfl,[],by simp,?_,λy hy=>absurd hy (by simp)⟩;exact FRel.sl (s:=0) (g:=0) (o:=0) (λ_ _ => .bool false) hl (by omega) (λh=>absurd h (by simp)) (λi h=>absurd h (by simp)) (λi j c h=>absurd h (by simp)) (λi j c h=>absurd h (by simp)) (λi j c h=>absurd h (by simp))
end
section
variable {P:Program} {o:Oper} {ρ:Operand->AV} {H:AH} {x y:Operand} {t e:TypeId}
theorem Bt {lo co:Operand} {l k:Int} {z:Value} (ho:o.op = .makeSlice t lo co) (ht:P.underlying t=some (.slice e)) (hlo:ρ lo = .v (.int .i64 l)) (hco:ρ co = .v (.int .i64 k)) (hz:(P.info? e).bind (·.zero)=some z)
  (h0:0<=l) (h1:l<=k) (hb:k*(P.bytesOf e:Int)<=140737488355328) (hk:k<=140737488355328) (hs:0<P.cellsOf e) (hzs:(dm z).length=P.cellsOf e) (hz1:m6 z.cells=true) :
  GL P o ρ H ⟨0,P.cellsOf e,e,RP k.toNat (dm z)⟩ (.hs H.length 0 (P.cellsOf e) 0 l.toNat):=by
 cases hi:P.info? e with
 | none=>rw [hi] at hz;cases hz
 | some i=>
  simp only [hi,Option.bind_some] at hz;have hby:P.bytesOf e=i.bytes:=by simp [Program.bytesOf,hi]
  have hce:P.cellsOf e=i.size:=by simp [Program.cellsOf,hi]
  have hzsz:z.cells.size=P.cellsOf e:=by simpa [dm] using hzs
  refine λc a hH hr hx=>?_;have hl1:=(gV (hlo ▸ hx lo (by rw [ho];simp [Op.operands]))).1;have hk1:=(gV (hco ▸ hx co (by rw [ho];simp [Op.operands]))).1;have hzc:=rE c hz1;have hsize:(sizeOf e).run P c.w = .ok (P.cellsOf e) c.w:=run_sizeOf c.w hi;have hzero:(zeroValue e).run P c.w = .ok z c.w:=by simp [zeroValue,typeInfo,hi,hz]
  refine ⟨(Sb (k.toNat*P.cellsOf e)).map (z.cells[· % z.cells.size]!),.slice (some ⟨c.w.heap.size,0,none⟩) l.toNat k.toNat,?_,Cx.new_rel hr _ _ hs (by simp) (λq row h=>?_) (λq row j a' h1' h2=>?_),?_⟩
  ·rw [execOp,ho];refine (?_:Sem.run P _ c.w=_);have hneg : ¬ ((((decide (k<0)||decide (i.bytes*k>2 ^ 48))||decide (l<0))||decide (l>k))=true):=by
    simp only [R4,dte,not_or];rw [hby,Int.mul_comm] at hb;omega
   have : (Instr.makeSlice t (a.eval lo) (a.eval co)).run P c.w = .ok (.slice (some ⟨c.w.heap.size,0,none⟩) l.toNat k.toNat) (c.w.alloc (.cells ((Sb (k.toNat*P.cellsOf e)).map (z.cells[· % z.cells.size]!)) e)):=by
    rw [hl1,hk1];simp only [Instr.makeSlice,Sem.run_bind,ax ht,Result.andThen_ok,asInt,asIntOf,Sem.run_pure,run_typeInfo c.w hi,Ct (n:=l) h0 (by omega),Ct (n:=k) (by omega) (by omega)];rw [if_neg hneg];simp only [Sem.run_bind,run_askRoom,Result.andThen_ok,hsize]
    by_cases h00:k.toNat*P.cellsOf e=0
    ·rw [if_pos h00,h00];have h00':∀ f:Nat->Value,Array.map f (Sb 0) = #[]:=λf=>Array.eq_empty_of_size_eq_zero (by simp);simp [newRow,h00']
    rw [if_neg h00];simp [hzero,newRow]
   simp only [Sem.run_bind,this,Result.andThen_ok,Sem.run_pure]
   rfl
  ·have := Sc h;rw [R5] at this;rw [this.2];exact hzs
  ·have hq:q<k.toNat:=by
    have := (ges h1').1;simpa using this
   have := Sc h1';rw [R5] at this;rw [this.2] at h2;have hj:j<P.cellsOf e:=by
    have := (ges h2).1;omega
   have hfit:q*P.cellsOf e+j<k.toNat*P.cellsOf e:=by
    have : (q+1)*P.cellsOf e<=k.toNat*P.cellsOf e:=RX _ (by omega);rw [RR] at this;omega
   simp only;rw [zJ _ _ _ hfit (by omega),hzsz,Sd,Nat.mul_add_mod,Nat.mod_eq_of_lt hj];exact hzc.get h2
  subst hH;have := Cx.new_hs c ⟨0,P.cellsOf e,e,RP k.toNat (dm z)⟩ ((Sb (k.toNat*P.cellsOf e)).map (z.cells[· % z.cells.size]!)) (n:=l.toNat) (cap:=k.toNat) (by simp;omega) (by omega) (by omega) (by simp);exact this
theorem K5 {ag:Bool} {w m:Nat} {zs:List AV} {a b:Int} (q:SlT P t e ag w zs m) (ho:o.op = .makeSlice t x y) (hx:ρ x = .v (.int .i64 a)) (hy:ρ y = .v (.int .i64 b)) (hq:0<=a/\a<=b/\b*(m:Int)<=140737488355328/\b<=140737488355328) :
  GL P o ρ H ⟨0,w,e,RP b.toNat zs⟩ (.hs H.length 0 w 0 a.toNat):=by
 have hz:=q.z.z;have h1:=q.z.one
 cases hb:(P.info? e).bind (·.zero) with
 | none=>rw [hb] at hz;cases hz
 | some z=>
  rw [hb] at hz h1;simp only [Option.map_some,sie] at hz h1;have h:=Bt (P:=P) (o:=o) (ρ:=ρ) (H:=H) ho q.u hx hy hb hq.1 hq.2.1 (by rw [q.by_];exact hq.2.2.1) hq.2.2.2 (by rw [q.ty.cells];exact nlb q.pos) (by rw [hz,q.ty.cells];exact q.zl) h1;rw [hz,q.ty.cells] at h;exact h
end
section
variable {P:Program}
def OSQ (bs:List Nat) (K:AH) (r:AV):AV->AH->Prop:=λr0 G=>
 bs.Nodup/\bs.length=K.length/\(∀ (j b:Nat),bs[j]? = some b->∃ k,vg k/\G[b]? = some (some k)/\K[j]? = some (some k))/\Ren (λi j=>bs[j]? = some i) r0 r
inductive Lies (G:AH):List Nat->AH->Prop
 | nil:Lies G [] []
 | cons {b:Nat} {k:ABlk} {bs:List Nat} {K:AH} (h:G[b]? = some (some k)) (hk:vg k) (t:Lies G bs K):Lies G (b::bs) (some k::K)
theorem Lies.spec {G:AH} {bs:List Nat} {K:AH} (h:Lies G bs K):bs.length=K.length/\∀ (j b:Nat),bs[j]? = some b->∃ k,vg k/\G[b]? = some (some k)/\K[j]? = some (some k):=by
 induction h with
 | nil=>exact ⟨rfl,λj b h=>by simp at h⟩
 | @cons b k bs K h hk t ih=>
  refine ⟨by simp [ih.1],λj c hc=>?_⟩
  match j with
  | 0=>
   obtain rfl:=osl hc;exact ⟨k,hk,h,rfl⟩
  | j+1=>exact ih.2 j c hc
theorem OSQ.mk {bs:List Nat} {K G:AH} {r r0:AV} (hnd:bs.Nodup) (hl:Lies G bs K) (hr:Ren (λi j=>bs[j]? = some i) r0 r):OSQ bs K r r0 G:=⟨hnd,hl.spec.1,hl.spec.2,hr⟩
inductive RowsF:AH->Prop
 | nil:RowsF []
 | cons {k:ABlk} {K:AH} (hk:vg k) (t:RowsF K):RowsF (some k::K)
theorem RowsF.spec {K:AH} (h:RowsF K):∀ (j:Nat) (k:ABlk),K[j]? = some (some k)->vg k:=by
 induction h with
 | nil=>intro j k h;simp at h
 | cons hk t ih=>
  intro j k h
  match j with
  | 0=>
   obtain rfl:=osl (osl h);exact hk
  | j+1=>exact ih j k h
end
def Kj (ops:Array Oper):Nat->Nat->Nat->Bool
 | 0,_,_=>false
 | n+1,j,i=>match ops[j]? with
  | some oj=>oj.after.any λed=>Region.binds .any ed&&(ed.on==i||Kj ops n ed.on i)
  | none=>false
def ClL (ops:Array Oper) (listed:Array Bool):Prop:=∀ (j:Nat) (oj:Oper),ops[j]? = some oj->listed.getD j false=true->∀ ed∈oj.after,Region.binds .any ed=true->listed.getD ed.on false=true
theorem Hh {listed:Array Bool} {i j:Nat} (h:listed.getD i false=true):(listed.setIfInBounds j true).getD i false=true:=by
 by_cases e:j=i
 ·subst e;rcases R6 j listed.size with h' | h'
  ·simp [h']
  simp [Se h'] at h
 simpa [SC e] using h
theorem ClL.up {ops:Array Oper} {listed:Array Bool} {j:Nat} (h:ClL ops listed) (hj:j∈Region.ready .any ops listed):ClL ops (listed.setIfInBounds j true):=by
 intro i oi hoi hl ed he hb
 by_cases e:j=i
 ·subst e;obtain ⟨_,oj,hoj,hall⟩:=mem_ready.1 hj;rw [hoi] at hoj;injection hoj with hoj;subst hoj;exact Hh (hall ed he hb)
 refine Hh (h i oi hoi ?_ ed he hb);simpa [SC e] using hl
theorem BO {ops:Array Oper} {listed:Array Bool} {i:Nat} (h:ClL ops listed) (hi:listed.getD i true=false):∀ (n j:Nat),(∀ oj,ops[j]? = some oj->∀ ed∈oj.after,Region.binds .any ed=true->listed.getD ed.on false=true)->Kj ops n j i=false
 | 0,_,_=>rfl
 | n+1,j,hj=>by
  unfold Kj
  split
  ·rename_i oj hoj;rw [Bool.eq_false_iff];intro hany;rw [Sk] at hany;obtain ⟨ed,h1,h2⟩:=hany;simp only [bae,R4,beq_iff_eq] at h2;have hl:=hj oj hoj ed h1 h2.1;rcases h2.2 with h3 | h3
   ·rw [h3] at hl;rcases R6 i listed.size with h' | h'
    ·simp [h'] at hl hi;rw [hi] at hl;cases hl
    simp [Se h'] at hl
   rw [BO h hi n ed.on λoj' yN=>h ed.on oj' yN hl] at h3
   cases h3
  rfl
section
variable {P:Program}
theorem Ez {ops:Array Oper} {fp:Nat->Fp} {Q:Env->AH->Prop} {i n:Nat} {oi:Oper} {r:AV} (hi:ops[i]? = some oi) :
  ∀ (fuel:Nat) (listed:Array Bool) (e:Env) (H Hi:AH),ClL ops listed ->
   (∀ (j:Nat) (oj:Oper),ops[j]? = some oj->j≠i->listed.getD j true=false->Kj ops (n+1) j i=false->oi.apart ops oj=true/\oF (fp i) (fp j)=true) ->
   i∈Region.ready .any ops listed->qE P oi (rho e) H r Hi (fp i).1->((fp i).2=false->Hi=H)->Jb P ops fp Q fuel (listed.setIfInBounds i true) (rB e oi.dst r) Hi->Jb P ops fp Q (fuel+1) listed e H:=by
 intro fuel
 induction fuel with
 | zero=>
  intro listed e H Hi _ _ hr hy hro hA;refine ⟨λh=>(by rw [h] at hr;cases hr),λj hj=>?_⟩
  by_cases hji:j=i
  ·subst hji;exact ⟨oi,r,Hi,hi,hy,hro,hA⟩
  have := ready_mono hj hji;rw [hA.1] at this
  cases this
 | succ fuel ih=>
  intro listed e H Hi hcl hfree hr hy hro hA;refine ⟨λh=>(by rw [h] at hr;cases hr),λj hj=>?_⟩
  by_cases hji:j=i
  ·subst hji;exact ⟨oi,r,Hi,hi,hy,hro,hA⟩
  obtain ⟨oj,q,Hj,hoj,hsj,hroj,hAj⟩:=hA.2 j (ready_mono hj hji);obtain ⟨hjun,oj',yN,hall⟩:=mem_ready.1 hj;rw [hoj] at yN;injection yN with yN;subst yN;have hnot:Kj ops (n+1) j i=false:=BO hcl (mem_ready.1 hr).1 (n+1) j λoj' yN=>by
   rw [hoj] at yN;injection yN with yN;subst yN;exact hall
  obtain ⟨hap,hcm⟩:=hfree j oj hoj hji hjun hnot;obtain ⟨h1,h2,h3⟩:=Oper.apart_spec hap;have ej:=rF (e:=e) (r:=r) h1;have ei:=rF (e:=e) (oi:=oj) (r:=q) h3;have hsj':=hsj.congr ej;have hfree':∀ (k:Nat) (ok:Oper),ops[k]? = some ok->k≠i->(listed.setIfInBounds j true).getD k true=false->Kj ops (n+1) k i=false->oi.apart ops ok=true/\oF (fp i) (fp k)=true:=λk ok hk hki hun hno=>by
   refine hfree k ok hk hki ?_ hno
   by_cases hjk:j=k
   ·subst hjk;exact hjun
   rw [getD_set_ne true hjk] at hun;exact hun
  have fin:∀ Hj',qE P oj (rho e) H q Hj' (fp j).1->((fp j).2=false->Hj'=H)->qE P oi (rho e) Hj' r Hj (fp i).1->((fp i).2=false->Hj=Hj')->∃ o r' H',ops[j]? = some o/\qE P o (rho e) H r' H' (fp j).1/\((fp j).2=false->H'=H)/\Jb P ops fp Q (fuel+1) (listed.setIfInBounds j true) (rB e o.dst r') H':=λHj' s1 s1' s2 s2'=>by
   refine ⟨oj,q,Hj',hoj,s1,s1',ih (listed.setIfInBounds j true) (rB e oj.dst q) Hj' Hj (hcl.up hj) hfree' (ready_mono hr (Ne.symm hji)) (s2.congr λx hx=>(ei x hx).symm) s2' ?_⟩;rw [SD _ _ hji,ww (λd hd=>λhd'=>h2 d (by simpa using hd') (by simpa using hd))];exact hAj
  simp only [oF,R4,bae,Bool.not_eq_true',RQ,Sn,decide_eq_false_iff_not] at hcm;rcases hcm with hdis | ⟨w1,w2⟩
  ·have hag:agree (fp j).1 H Hi:=⟨hy.1.symm,λb hb=>(hy.2.1 b (λhbi=>hdis b hbi hb)).symm⟩;obtain ⟨Hj',a1,a2,a3,a4⟩:=hsj'.at_ hag;have hag2:agree (fp i).1 Hj' H:=⟨a1,λb hb=>a3 b (hdis b hb)⟩;obtain ⟨K,b1,b2,b3,b4⟩:=hy.at_ hag2;have hKH:K=Hj:=by
    apply Sq;intro b
    by_cases hbi:b∈(fp i).1
    ·rw [b2 b hbi,hsj'.2.1 b (hdis b hbi)]
    rw [b3 b hbi]
    by_cases hbj:b∈(fp j).1
    ·exact a2 b hbj
    rw [a3 b hbj,hsj'.2.1 b hbj,hy.2.1 b hbi]
   subst hKH;refine fin Hj' a4 (λhw=>?_) b4 (λhw=>?_)
   ·apply Sq;intro b
    by_cases hbj:b∈(fp j).1
    ·rw [a2 b hbj,hroj hw,hy.2.1 b (λhbi=>hdis b hbi hbj)]
    exact a3 b hbj
   apply Sq;intro b
   by_cases hbi:b∈(fp i).1
   ·rw [b2 b hbi,hro hw,a3 b (hdis b hbi)]
   exact b3 b hbi
  obtain rfl:=hro w1;obtain rfl:=hroj w2;exact fin _ hsj' (λ_=>rfl) hy (λ_=>rfl)
def NT (ops:Array Oper) (fp:Nat->Fp):Bool:=
 Region.lexB .any ops&&ops.all (λo=>o.guard.isNone) &&
 (RJ ops.size).all λi=>(RJ ops.size).all λj=>decide (j<=i)||oF (fp i) (fp j)||Kj ops 6 j i
theorem Fc {ops:Array Oper} {fp:Nat->Fp} {Q:Env->AH->Prop} (hc:NT ops fp=true):∀ (l:List Oper) (k:Nat) (listed:Array Bool) (e:Env) (H:AH),ClL ops listed->(∀ j,l[j]? = ops[k+j]?)->listed.size=ops.size->(∀ j,j<k->listed.getD j true=true) ->
  Region.lexFrom .any ops l.length k listed=true->TF P fp k l Q e H->Jb P ops fp Q l.length listed e H
 | [],k,listed,e,H,_,_,_,_,hB,h=>⟨by simpa [Region.lexFrom] using hB,h⟩
 | o::l,k,listed,e,H,hcl,hl,hsz,hbef,hB,h=>by
  have h0:ops[k]? = some o:=by simpa using (hl 0).symm
  have hk:k<ops.size:=(Sf.1 h0).1;simp only [llc,Region.lexFrom,bae] at hB;obtain ⟨⟨hr,hf⟩,hB'⟩:=hB;obtain ⟨r,H',hs,hro,hK⟩:=h;have hrk:k∈Region.ready .any ops listed:=by simpa using hr
  refine Ez (n:=5) h0 l.length listed e H H' hcl (λj oj hj hne hun hno=>?_) hrk hs hro
   (Fc hc l (k+1) _ _ _ (hcl.up hrk) (λj=>by have := hl (j+1);simpa [Sr,Nat.add_comm 1 j] using this) (by simpa using hsz) (λj hj=>?_) hB' hK)
  ·have hno1:∀ ed∈oj.after,Region.binds .any ed=true->ed.on≠k:=λed he hb heq=>by
    unfold Kj at hno;simp only [hj] at hno;rw [Bool.eq_false_iff] at hno;refine hno ?_;rw [Sk];exact ⟨ed,he,by simp [hb,heq]⟩
   refine ⟨Region.free_spec h0 hf j oj hj hne hun hno1,?_⟩;have hjs:j<ops.size:=(Sf.1 hj).1;have hkj : ¬ j<=k:=λhle=>by
    have := hbef j (by omega);rw [this] at hun
    cases hun
   simp only [NT,bae,RQ,List.mem_range] at hc;have := hc.2 k hk j hjs;simp only [R4,dte,hkj,false_or] at this;rcases this with h1 | h1
   ·exact h1
   rw [hno] at h1
   cases h1
  by_cases e:j=k
  ·subst e;simp [hsz,hk]
  rw [getD_set_ne true (Ne.symm e)];exact hbef j (by omega)
variable {nt b0:Nat} {Q:Exit->Env->AH->Prop} {e:Env} {H:AH}
theorem T.drawH {i:Nat} {ops:Array Oper} (fp:Nat->Fp) (hm:P.follows .mixedOrders=true) (hc:NT ops fp=true) (h:TF P fp 0 ops.toList (Q .normal) e H):T P nt b0 (.region i ops true) Q e H:=by
 intro hok c c0 a hH hb hx hs;simp only [codeOk] at hok;have hc':=hc;simp only [NT,bae,Region.lexB] at hc';refine wp_region_any hm ?_;have hlex:=Fc hc ops.toList 0 (Ss ops.size false) e H (λj oj hj hl=>by
  rcases R6 j ops.size with h' | h'
  ·simp [h'] at hl
  simp [Se h'] at hj) (λj=>by simp) (by simp) (λj hj=>absurd hj (by omega)) (by simpa using hc'.1.1.2) h
 have := xC hok hc'.1.2 ops.toList.length _ e H hlex c.drew c0 a hH (hx.trans c.drew_ext) ⟨hs.size,hs.defers,λt=>(hs.rel t).ext hs.heap c.drew_ext,Cx.drew_rel hs.heap⟩;rw [Su] at this;exact this
end
section
variable {P:Program} {ρ:Operand->AV} {H H':AH}
structure MethT (P:Program) (t:TypeId) (name:String) (g:FuncId) (off:Nat):Prop where
 ex:∃ i m e,P.info? t=some i/\i.methods.find? (·.name==name)=some m/\m.func=some (g,true)/\P.underlying t=some (.pointer e) /\
  ((m.path.toList=[]/\off=0)\/∃ s k fs fl u,m.path.toList=[⟨s,k,true⟩]/\P.underlying s=some (.struct fs)/\fs[k]? = some fl/\P.cellsOf fl.type≠0/\(P.info? fl.type).isSome=true/\fl.offset=off/\P.underlying fl.type=some u/\(∀ e,u ≠ .pointer e))
def ML (P:Program) (t:TypeId) (name:String) (g:FuncId) (off:Nat):Bool:=
 match P.info? t,P.underlying t with
 | some i,some (.pointer _)=>(match i.methods.find? (·.name==name) with
  | some m=>m.func==some (g,true)&&(match m.path.toList with
   | []=>off==0
   | [⟨s,k,true⟩]=>(match P.underlying s with
    | some (.struct fs)=>(match fs[k]? with
     | some fl=>P.cellsOf fl.type != 0&&(P.info? fl.type).isSome&&fl.offset==off&&(match P.underlying fl.type with
      | some (.pointer _) | none=>false
      | some _=>true)
     | none=>false)
    | _=>false)
   | _=>false)
  | none=>false)
 | _,_=>false
theorem MethT.of {t:TypeId} {name:String} {g off:Nat} (h:ML P t name g off=true):MethT P t name g off:=by
 unfold ML at h
 split at h
 ·rename_i i e hi hu
  split at h
  ·rename_i m hm;simp only [bae,beq_iff_eq] at h;obtain ⟨hf,h⟩:=h;refine ⟨i,m,e,hi,hm,hf,hu,?_⟩
   split at h
   ·rename_i hp;exact .inl ⟨hp,by simpa using h⟩
   ·rename_i s k hp
    split at h
    ·rename_i fs hs
     split at h
     ·rename_i fl hfl;simp only [bae,beq_iff_eq,bne_iff_ne,ne_eq] at h;obtain ⟨⟨⟨h1,h2⟩,h3⟩,h4⟩:=h
      cases hfu:P.underlying fl.type with
      | none=>rw [hfu] at h4;cases h4
      | some u=>exact .inr ⟨s,k,fs,fl,u,hp,hs,hfl,h1,h2,h3,hfu,λe' he=>by subst he;rw [hfu] at h4;cases h4⟩
     cases h
    cases h
   cases h
  cases h
 cases h
def Po (off:Nat):AV->AV
 | .fp row j => .fp row (j+off)
 | .hp b v s i j => .hp b v s i (j+off)
 | a=>a
theorem F8 {t:TypeId} {name:String} {g off:Nat} (hm:MethT P t name g off) (w:World) (n:Nat) {g0:Nat} {o0:Nat} (v:Value) (hv:v = .pointer (some ⟨g0,o0,none⟩)):(method (n+1) t v name).run P w = .ok (g,.pointer (some ⟨g0,o0+off,none⟩)) w:=by
 obtain ⟨i,m,e,hi,hf,hg,hu,hp⟩:=hm.ex;have e1:(typeInfo t).run P w = .ok i w:=run_typeInfo w hi;rcases hp with ⟨hp,rfl⟩ | ⟨s,k,fs,fl,u,hp,hs,hk,hc,_,rfl,hfu,hne⟩
 ·simp only [method,Sem.run_bind,e1,Result.andThen_ok,hf,hp,follow,Sem.run_pure,hg,receiverAt,ax hu,Place.get,hv,Nat.add_zero]
 obtain ⟨i2,hi2⟩:=vY hc
 have e2 : (receiverAt fl.type (.var ⟨g0,o0 + fl.offset,none⟩) true (if m.path.isEmpty then some ((name.splitOn ".").getLastD name) else none)).run P w = .ok (.pointer (some ⟨g0,o0 + fl.offset,none⟩)) w := by
  unfold receiverAt;simp only [Sem.run_bind,ax hfu,Result.andThen_ok]
  cases u <;> first | rfl | exact absurd rfl (hne _)
 simp only [method,Sem.run_bind,e1,Result.andThen_ok,hf,hp,follow,Sem.run_pure,hg,ax hs,hk,Place.get,hv,asAddr,fieldPlace,run_sizeOf w hi2,hc,if_false,if_true,add0,e2]
theorem Bu {t:TypeId} {name:String} {g off:Nat} (hm:MethT P t name g off) (hcl:jv P g=true) (w:World) {g0 o0:Nat} (args:Array Value) :
  (callMethod (.iface t (.pointer (some ⟨g0,o0,none⟩))) name args).run P w = .ok (.enter g (#[.pointer (some ⟨g0,o0+off,none⟩)]++args)) w:=by
 have h0:0<Made.depth:=by decide
 obtain ⟨n,hn⟩:∃ n,P.types.size+Made.depth=n+1:=⟨P.types.size+Made.depth-1,by omega⟩;have h1:=F8 hm w n (g0:=g0) (o0:=o0) _ rfl;have h2:=tJ hcl (#[.pointer (some ⟨g0,o0+off,none⟩)]++args) w;have hp:(program:Sem Program).run P w = .ok P w:=rfl;simp only [callMethod,Sem.run_bind,hp,Result.andThen_ok,hn,h1];exact h2
theorem F9 {o:Oper} {cl:Call} {x:Operand} {name:String} {t:TypeId} {row:List AV} {j:Nat} {g:FuncId} {off:Nat} {r:AV} (ho:o.op = .call cl) (hc:cl.callee = .invoke x name) (hx:ρ x = .ifc t (.fp row j)) (hm:MethT P t name g off)
  (h:p9 P g (.fp row (j+off)::cl.args.toList.map ρ) H r H'):Pp P o ρ H r H':=by
 intro c a K Q hH hr hxs hK;have hf1:=hx ▸ hxs x (by rw [ho];simp [Op.operands,Call.operands,hc]);obtain ⟨y,he,hrel⟩:=xu hf1;have hfp:=sZ hrel;have key:∃ g0 o0,y = .pointer (some ⟨g0,o0,none⟩)/\c.rel (.fp row (j+off)) (.pointer (some ⟨g0,o0+off,none⟩)):=by
  cases hfp with
  | fp us hg hlt hu h1 h=>
   refine ⟨_,_,rfl,?_⟩;rw [Sr];exact .fr (.fp us hg hlt hu h1 h)
 obtain ⟨g0,o0,hy,hrec⟩:=key;have hargs:Dw c (.fp row (j+off)::cl.args.toList.map ρ) (#[.pointer (some ⟨g0,o0+off,none⟩)]++cl.args.map a.eval):=by
  refine ⟨by simp;omega,λi q v hq hv=>?_⟩
  match i with
  | 0=>
   simp only [RN,sie] at hq;have : (#[Value.pointer (some ⟨g0,o0+off,none⟩)]++cl.args.map a.eval)[0]? = some (Value.pointer (some ⟨g0,o0+off,none⟩)):=by
    rw [SE (show 0<1 by decide)]
    rfl
   rw [this] at hv;injection hv with hv;subst hq hv;exact hrec
  | i+1=>
   simp only [RY,R8,Sg] at hq;have e:(#[Value.pointer (some ⟨g0,o0+off,none⟩)]++cl.args.map a.eval)[i+1]? = (cl.args.map a.eval)[i]? := by
    rw [Array.getElem?_append_right (by simp)];simp
   rw [e,Array.getElem?_map] at hv
   cases ha:cl.args[i]? with
   | none=>rw [ha] at hq;cases hq
   | some z=>
    rw [ha] at hq hv;injection hq with hq;injection hv with hv;subst hq hv;refine hxs z ?_;rw [ho];have hz:=Si ha;simp [Op.operands,Call.operands,hz]
 have hrun:(execOp a.eval o).run P c.w = .ok (.enter g (#[.pointer (some ⟨g0,o0+off,none⟩)]++cl.args.map a.eval)) c.w:=by
  have h3:=Bu hm h.1 c.w (g0:=g0) (o0:=o0) (cl.args.map a.eval);rw [execOp,ho];simp only [resolve,hc,he,hy,Sem.run_bind,Sem.run_pure,Result.andThen_ok,invoke];have e1:((#[Value.iface t (.pointer (some ⟨g0,o0,none⟩))]++cl.args.map a.eval)[0]? : Option Value)=some (Value.iface t (.pointer (some ⟨g0,o0,none⟩))):=by
   rw [SE (show 0<1 by decide)]
   rfl
  have e2:(#[Value.iface t (.pointer (some ⟨g0,o0,none⟩))]++cl.args.map a.eval).extract 1 (#[Value.iface t (.pointer (some ⟨g0,o0,none⟩))]++cl.args.map a.eval).size=cl.args.map a.eval:=by
   apply Array.ext';simp;exact SF (by simp)
  rw [e1,e2];exact h3
 unfold Oper.wp;rw [hrun,Oper.upon_enter];refine (h.2 c _ hH hr hargs).mono λe w' ⟨v,c',he,hw,hH',hr',hx,hv⟩ => ?_;subst he hw;exact hK v c' hH' hr' hx hv
theorem Pt.inv {cl:Call} {x:Operand} {name:String} {t:TypeId} {row:List AV} {j:Nat} {g:FuncId} {off:Nat} {ars:List AV} {r:AV} (hc:cl.callee = .invoke x name) (hx:ρ x = .ifc t (.fp row j)) (hm:MethT P t name g off) (ha:cl.args.toList.map ρ=ars)
  (h:au P g (.fp row (j+off)::ars) r) (hF:ars.all (isF 9)=true):Pt P ρ (.call cl) r:=λo ho G=>by
 subst ha;refine F9 ho hc hx hm (h.acall ?_ G);simp only [List.all_cons,hF,Bool.and_true]
 rfl
end
structure A3 (α:Type) where
 x0:α
 x1:α
 x2:α
section
variable {α:Type}
instance [Inhabited α]:Inhabited (A3 α):=⟨⟨default,default,default⟩⟩
def A3.get (a:A3 α) (q:Int):α:=if q=0 then a.x0 else if q=1 then a.x1 else a.x2
def A3.set (a:A3 α) (q:Int) (v:α):A3 α:=if q=0 then ⟨v,a.x1,a.x2⟩ else if q=1 then ⟨a.x0,v,a.x2⟩ else ⟨a.x0,a.x1,v⟩
theorem Kl {P:Int->Prop} {q:Int} (g:0<=q/\q<3) (h0:P 0) (h1:P 1) (h2:P 2):P q:=by
 have h:q=0\/q=1\/q=2:=by omega
 rcases h with rfl | rfl | rfl
 ·exact h0
 ·exact h1
 exact h2
end
section
variable {P:Program} {ρ:Operand->AV} {H H':AH} {x y:Operand} {t e:TypeId}
theorem Pt.ixahp {ag:Bool} {n w:Nat} {b ver s i j:Nat} {k:IntKind} {q:Int} (hu:P.underlying t=some (.array n e)) (ty:TyF P e ag w) (hx:ρ x = .hp b ver s i j) (hy:ρ y = .v (.int k q)) (hq:0<=q/\q<n):Pt P ρ (.indexAddr t x y) (.hp b ver s i (j+q.toNat*w)) := .mk λK hK=>by
 show jr P t (ρ x) (ρ y) K;simp only [jr,hu,hx,hy,ty.cells];exact ⟨hq,Ck.intro ty.info hK⟩
theorem Pt.ixag {ag:Bool} {n w:Nat} {cs:List AV} {k:IntKind} {q:Int} (a:AV) (hu:P.underlying t=some (.array n e)) (ty:TyF P e ag w) (hx:ρ x = .agg cs) (hy:ρ y = .v (.int k q)) (hq:0<=q/\q<n) (hp:sH ag w cs (q.toNat*w)=some a):Pt P ρ (.index t x y) a := .mk λK hK=>by
 show Dl P t (ρ x) (ρ y) K;simp only [Dl,hu,hx,hy,ty.cells];exact ⟨hq,Ck.intro ty.info (wz ty hp hK)⟩
end
def up (m:Nat) (gh:NG):NG:=λi=>((gh i).1,(gh i).2.1+m,(gh i).2.2)
section
variable {α:Type}
def nrs (m:Nat) (gh:NG) (w:Nat) (l:List (List α)):List (List AV):=yQ (up m gh) w l
structure NN (K:AH) (gh:NG) (w:Nat) (ty:TypeId) (f:α->List AV) (l:List (List α)):Prop where
 nk:NK 0 K gh w ty f l
 kf:KF K
variable {K:AH} {gh:NG} {w:Nat} {ty:TypeId} {f:α->List AV} {l:List (List α)}
theorem NN.at_ (h:NN K gh w ty f l) {i:Nat} (hi:i<l.length):K[(gh i).2.1]? = some (bE (gh i).1 (gh i).2.2 w ty ((l.getD i []).map f)):=(h.nk.at_ i hi).2
theorem NN.lt (h:NN K gh w ty f l) {i:Nat} (hi:i<l.length):(gh i).2.1<K.length:=(ges (h.at_ hi)).1
theorem NN.nil_ (h:NN K gh w ty f l) {i:Nat} (hi:i<l.length):(gh i).1=true->l.getD i []=[]:=h.nk.nil_ i hi
theorem KF.set {k:Nat} {x:Option ABlk} (h:KF K) (hx:∀ b,x=some b->vg b):KF (K.set k x):=λi b hb=>by
 by_cases e:k=i
 ·subst e;have hl:=(ges hb).1;rw [RZ (by simpa using hl)] at hb;exact hx b (osl hb)
 rw [RS e] at hb;exact h i b hb
theorem KF.cons {x:Option ABlk} (h:KF K) (hx:∀ b,x=some b->vg b):KF (x::K):=λi b hb=>by
 match i,hb with
 | 0,hb=>exact hx b (osl hb)
 | i+1,hb=>exact h i b hb
theorem Jq {g:Bool} {v:Nat} {l:List α} (hf:∀ x,(f x).all (isF 9)=true):∀ b,bE g v w ty (l.map f)=some b->vg b:=λb hb=>by
 cases g with
 | true=>cases hb
 | false=>
  obtain rfl:=osl hb;exact λr hr a ha=>qF hf r hr a ha
theorem NN.set (h:NN K gh w ty f l) {i:Nat} (hi:i<l.length) {g:Bool} {ver:Nat} {r:List α} (hg:g=true->r=[]) (hf:∀ x,(f x).all (isF 9)=true):NN (K.set (gh i).2.1 (bE g ver w ty (r.map f))) (gh.put i (g,(gh i).2.1,ver)) w ty f (l.set i r):=
 ⟨h.nk.set hi hg,h.kf.set (Jq hf)⟩
theorem NN.nil:NN ([]:AH) gh w ty f []:=⟨⟨λi hi=>by simp at hi,λi hi=>by simp at hi,λi j hi=>by simp at hi⟩,λi k hk=>by simp at hk⟩
theorem NN.fz [Inhabited α] (h:NN K gh w ty f l) (S:AH) {b ver n:Nat} {to:TypeId} (hb:(S++K)[b]? = some (bE false ver 1 to (nrs S.length gh w l))) (hn:n=l.length) (hf:∀ x,(f x).all (isF 9)=true):Fz 0 (S++K) (hS false b ver 1 n) (eL (cL f) l):=by
 have hk:NK 0 (S++K) (up S.length gh) w ty f l:=⟨λi hi=>⟨Nat.zero_le _,by
  show (S++K)[(gh i).2.1+S.length]? = _;rw [gar (by omega),Nat.add_sub_cancel];exact h.at_ hi⟩,λi hi=>h.nil_ hi,λi j hi hj hne he=>h.nk.sep i j hi hj hne (by simpa [up] using he)⟩
 exact hk.fz hb hn hf
end
def Rot (m N:Nat) (i j:Nat):Prop:=(i<m/\j=i)\/(m<=i/\i<N+m/\j=i+1)\/(i=N+m/\j=m)
theorem Rot.low {m N i:Nat} (h:Nat.blt i m=true):Rot m N i i := .inl ⟨nlb h,rfl⟩
theorem Rot.up {m N k:Nat} (h:k<N):Rot m N (k+m) (k+(m+1)) := .inr (.inl ⟨by omega,by omega,rfl⟩)
theorem Rot.new {m N:Nat}:Rot m N (N+m) m := .inr (.inr ⟨rfl,rfl⟩)
inductive RenHL (S:Nat->Nat->Prop):AH->AH->Prop
 | nil:RenHL S [] []
 | none {l l':AH} (t:RenHL S l l'):RenHL S (none::l) (none::l')
 | some {k k':ABlk} {l l':AH} (h:RenK S k k') (t:RenHL S l l'):RenHL S (some k::l) (some k'::l')
theorem RenHL.bE {S:Nat->Nat->Prop} {α:Type} {g:Bool} {v w:Nat} {ty:TypeId} {f:α->List AV} {x:List α} {l l':AH} (hf:∀ x,(f x).all (isF 9)=true) (t:RenHL S l l'):RenHL S (bE g v w ty (x.map f)::l) (Go.Proofs.YtpkhamajimidnaaGreatDoor.bE g v w ty (x.map f)::l'):=by
 cases g with
 | true=>exact .none t
 | false=>exact .some (.ofF λr hr a ha=>qF hf r hr a ha) t
theorem RenHL.spec {S:Nat->Nat->Prop} {l l':AH} (h:RenHL S l l'):l.length=l'.length/\(∀ (i:Nat) (k:ABlk),l[i]? = Option.some (Option.some k)->∃ k',l'[i]? = Option.some (Option.some k')/\RenK S k k')/\∀ (i:Nat) (k':ABlk),l'[i]? = Option.some (Option.some k')->∃ k,l[i]? = Option.some (Option.some k)/\RenK S k k':=by
 induction h with
 | nil=>exact ⟨rfl,λi k hk=>by simp at hk,λi k hk=>by simp at hk⟩
 | none t ih=>
  refine ⟨by simp [ih.1],λi k hk=>?_,λi k hk=>?_⟩
  ·match i,hk with
   | i+1,hk=>exact ih.2.1 i k hk
  match i,hk with
  | i+1,hk=>exact ih.2.2 i k hk
 | some h t ih=>
  refine ⟨by simp [ih.1],λi k hk=>?_,λi k hk=>?_⟩
  ·match i,hk with
   | 0,hk=>
    obtain rfl:=osl (osl hk);exact ⟨_,rfl,h⟩
   | i+1,hk=>exact ih.2.1 i k hk
  match i,hk with
  | 0,hk=>
   obtain rfl:=osl (osl hk);exact ⟨_,rfl,h⟩
  | i+1,hk=>exact ih.2.2 i k hk
theorem lq {S:Nat->Nat->Prop} {g:Bool} {i j v w n:Nat} (h:S i j):Ren S (hS g i v w n) (hS g j v w n):=by
 cases g with
 | true=>exact .nil
 | false=>exact .hs h
theorem Ga {c:Cx} {row row2:List AV} {j n:Nat} {v:Value} (hs:(row.drop j).take n=row2) (h:c.rel (.fp row j) v):c.rel (.fp row2 0) v:=by
 have h:=sZ h
 cases h with
 | @fp _ _ g o us hg hlt hu h1 hr=>
  subst hs;have key:∀ (q:Nat) (a:AV),((row.drop j).take n)[q]? = some a->row[j+q]? = some a:=λq a hq=>by
   rw [RU] at hq
   split at hq
   ·rwa [Sv] at hq
   cases hq
  exact .fr (.fp (g:=g) (o:=o+j) (j:=0) (λq=>us (j+q)) hg hlt (λq a hq=>by rw [Sr];exact hu _ _ (key q a hq)) (λq a hq=>h1 _ _ (key q a hq)) (λq a hq=>hr _ _ (key q a hq)))
section
variable {P:Program} {ρ:Operand->AV} {H H':AH} {x y:Operand} {t e:TypeId}
theorem Pt.fafpS (n:Nat) {fs:Array Field} {f:Nat} {fl:Field} {row row2:List AV} {j:Nat} (hu:P.underlying t=some (.struct fs)) (hf:fs[f]? = some fl) (hc:(P.cellsOf fl.type != 0)=true) (hx:ρ x = .fp row j) (hs:(row.drop (j+fl.offset)).take n=row2):Pt P ρ (.fieldAddr t x f) (.fp row2 0):=
 (Pt.fafp hu hf hc hx).res λ_ _ h=>Ga hs h
variable {nt b0:Nat} {Q:Exit->Env->AH->Prop} {en:Env} {ops:Array Oper}
end
inductive RenRows (S:Nat->Nat->Prop):List (List AV)->List (List AV)->Prop
 | nil:RenRows S [] []
 | cons {a b:List AV} {l k:List (List AV)} (h:RenL S a b) (t:RenRows S l k):RenRows S (a::l) (b::k)
theorem RenRows.spec {S:Nat->Nat->Prop} {l k:List (List AV)} (h:RenRows S l k):l.length=k.length/\∀ (i:Nat) (c d:List AV),l[i]? = some c->k[i]? = some d->RenL S c d:=by
 induction h with
 | nil=>exact ⟨rfl,λi c d hc=>by simp at hc⟩
 | cons h t ih=>
  refine ⟨by simp [ih.1],λi c d hc hd=>?_⟩
  match i,hc,hd with
  | 0,hc,hd=>
   obtain rfl:=osl hc;obtain rfl:=osl hd;exact h
  | i+1,hc,hd=>exact ih.2 i c d hc hd
theorem RenK.rowsL {S:Nat->Nat->Prop} {v s:Nat} {ty:TypeId} {r r':List (List AV)} (h:RenRows S r r'):RenK S ⟨v,s,ty,r⟩ ⟨v,s,ty,r'⟩:=
 ⟨rfl,rfl,rfl,h.spec.1,λi a b ha hb=>(h.spec.2 i a b ha hb).spec⟩
theorem RenK.rowL {S:Nat->Nat->Prop} {v s:Nat} {ty:TypeId} {r r':List AV} (h:RenL S r r'):RenK S ⟨v,s,ty,[r]⟩ ⟨v,s,ty,[r']⟩ := .rowsL (.cons h .nil)
section
variable {α:Type} {K:AH} {gh:NG} {w:Nat} {ty:TypeId} {f:α->List AV} {l:List (List α)}
def Tk (a:Nat) (i j:Nat):Prop:=(i<=a/\j=i)\/(a+2<=i/\j+1=i)
theorem Tk.low {a i:Nat} (h:RL i a=true):Tk a i i := .inl ⟨nlb h,rfl⟩
theorem Tk.up {a k:Nat}:Tk a (k+(a+2)) (k+1+a) := .inr ⟨by omega,by omega⟩
theorem Reid.take {b0 a:Nat} {S S' K:AH} {x2 x2' x3:Option ABlk} (hm:S.length=a) (hb:RL b0 a=true) (hS:RenHL (Tk a) S S') (hK:KF K) (hx:RenHL (Tk a) [x2] [x2']):Reid b0 (Tk a) (S++x2::x3::K) (S'++x2'::K):=by
 have hb:=nlb hb;obtain ⟨h1,h2,h3⟩:=hS.spec;obtain ⟨_,h5,h6⟩:=hx.spec;have hm':S'.length=a:=h1.symm.trans hm;have a1:∀ i,i<a->(S++x2::x3::K)[i]? = S[i]? := λi hi=>gal (by omega);have a2:(S++x2::x3::K)[a]? = some x2:=by
  rw [gar (by omega)];have : a-S.length=0:=by omega
  rw [this]
  rfl
 have a3:∀ k,(S++x2::x3::K)[k+a+2]? = K[k]? := λk=>by
  rw [gar (by omega)];have : k+a+2-S.length=k+1+1:=by omega
  rw [this]
  rfl
 have c1:∀ i,i<a->(S'++x2'::K)[i]? = S'[i]? := λi hi=>gal (by omega);have c2:(S'++x2'::K)[a]? = some x2':=by
  rw [gar (by omega)];have : a-S'.length=0:=by omega
  rw [this]
  rfl
 have c3:∀ k,(S'++x2'::K)[k+a+1]? = K[k]? := λk=>by
  rw [gar (by omega)];have : k+a+1-S'.length=k+1:=by omega
  rw [this]
  rfl
 refine ⟨λi j j' e1 e2=>?_,λi i' j e1 e2=>?_,λi hi => .inl ⟨by omega,rfl⟩,by simp;omega,λj k0 hk=>?_,λi j k hS hk=>?_⟩
 ·rcases e1 with ⟨_,rfl⟩ | ⟨_,e1⟩ <;> rcases e2 with ⟨_,rfl⟩ | ⟨_,e2⟩ <;> omega
 ·rcases e1 with ⟨_,e1⟩ | ⟨_,e1⟩ <;> rcases e2 with ⟨_,e2⟩ | ⟨_,e2⟩ <;> omega
 ·rcases Nat.lt_trichotomy j a with hj | hj | hj
  ·rw [c1 j hj] at hk;obtain ⟨k,g1,g2⟩:=h3 j k0 hk;exact ⟨j,k,.inl ⟨by omega,rfl⟩,by rw [a1 j hj];exact g1,g2⟩
  ·subst hj;rw [c2] at hk;obtain rfl:=osl hk;obtain ⟨k,g1,g2⟩:=h6 0 k0 rfl;obtain rfl:=osl g1;exact ⟨_,k,.inl ⟨by omega,rfl⟩,a2,g2⟩
  obtain ⟨q,rfl⟩:∃ q,j=q+a+1:=⟨j-a-1,by omega⟩;rw [c3 q] at hk;exact ⟨q+a+2,k0,.inr ⟨by omega,by omega⟩,by rw [a3 q];exact hk,.ofF (hK q k0 hk)⟩
 rcases hS with ⟨e1,rfl⟩ | ⟨e1,e2⟩
 ·rcases R6 j a with hj | hj
  ·rw [a1 _ hj] at hk;obtain ⟨k',g1,_⟩:=h2 _ k hk;exact ⟨k',by rw [c1 _ hj];exact g1⟩
  obtain rfl:j=a:=by omega
  rw [a2] at hk;obtain rfl:=osl hk;obtain ⟨k',g1,_⟩:=h5 0 k rfl;obtain rfl:=osl g1;exact ⟨k',c2⟩
 obtain ⟨q,rfl⟩:∃ q,i=q+a+2:=⟨i-a-2,by omega⟩;obtain rfl:j=q+a+1:=by omega
 rw [a3 q] at hk;exact ⟨k,by rw [c3 q];exact hk⟩
def Opn (m k:Nat) (i j:Nat):Prop:=(i<m/\j=i)\/(i=k+m/\j=m)\/(m<=i/\i≠k+m/\j=i+1)
theorem Opn.low {m k i:Nat} (h:Nat.blt i m=true):Opn m k i i := .inl ⟨nlb h,rfl⟩
theorem Reid.open {b0 m:Nat} {S S' K:AH} {k:Nat} {x:Option ABlk} (hm:S.length=m) (hk:K[k]? = some x) (hb:RL b0 m=true) (hS:RenHL (Opn m k) S S') (hK:KF K):Reid b0 (Opn m k) (S++K) (S'++x::K.set k none):=by
 have hb:=nlb hb;obtain ⟨h1,h2,h3⟩:=hS.spec;have hm':S'.length=m:=h1.symm.trans hm;have hkl:=(ges hk).1;have a1:∀ i,i<m->(S++K)[i]? = S[i]? := λi hi=>gal (by omega);have a2:∀ q,(S++K)[q+m]? = K[q]? := λq=>by
  rw [gar (by omega)]
  congr 1
  omega
 have c1:∀ i,i<m->(S'++x::K.set k none)[i]? = S'[i]? := λi hi=>gal (by omega);have c2:(S'++x::K.set k none)[m]? = some x:=by
  rw [gar (by omega)];have : m-S'.length=0:=by omega
  rw [this]
  rfl
 have c3:∀ q,(S'++x::K.set k none)[q+m+1]? = (K.set k none)[q]? := λq=>by
  rw [gar (by omega)];have : q+m+1-S'.length=q+1:=by omega
  rw [this]
  rfl
 refine ⟨λi j j' e1 e2=>?_,λi i' j e1 e2=>?_,λi hi => .inl ⟨by omega,rfl⟩,by simp;omega,λj k0 hk0=>?_,λi j k1 hS1 hk1=>?_⟩
 ·rcases e1 with ⟨_,rfl⟩ | ⟨_,rfl⟩ | ⟨_,_,rfl⟩ <;> rcases e2 with ⟨_,rfl⟩ | ⟨_,rfl⟩ | ⟨_,_,rfl⟩ <;> omega
 ·rcases e1 with ⟨_,e1⟩ | ⟨_,e1⟩ | ⟨_,_,e1⟩ <;> rcases e2 with ⟨_,e2⟩ | ⟨_,e2⟩ | ⟨_,_,e2⟩ <;> omega
 ·rcases Nat.lt_trichotomy j m with hj | hj | hj
  ·rw [c1 j hj] at hk0;obtain ⟨k1,g1,g2⟩:=h3 j k0 hk0;exact ⟨j,k1,.inl ⟨hj,rfl⟩,by rw [a1 j hj];exact g1,g2⟩
  ·subst hj;rw [c2] at hk0;obtain rfl:=osl hk0;exact ⟨k+j,k0,.inr (.inl ⟨rfl,rfl⟩),by rw [a2];exact hk,.ofF (hK k k0 hk)⟩
  obtain ⟨q,rfl⟩:∃ q,j=q+m+1:=⟨j-m-1,by omega⟩;rw [c3 q] at hk0;have hq:q≠k:=λe=>by
   subst e;rw [RZ hkl] at hk0
   cases hk0
  rw [RS (Ne.symm hq)] at hk0;exact ⟨q+m,k0,.inr (.inr ⟨by omega,by omega,by omega⟩),by rw [a2];exact hk0,.ofF (hK q k0 hk0)⟩
 rcases hS1 with ⟨e1,rfl⟩ | ⟨rfl,rfl⟩ | ⟨e1,e2,rfl⟩
 ·rw [a1 _ e1] at hk1;obtain ⟨k',g1,_⟩:=h2 _ k1 hk1;exact ⟨k',by rw [c1 _ e1];exact g1⟩
 ·rw [a2,hk] at hk1;obtain rfl:=osl hk1;exact ⟨k1,c2⟩
 obtain ⟨q,rfl⟩:∃ q,i=q+m:=⟨i-m,by omega⟩;rw [a2] at hk1;exact ⟨k1,by rw [c3 q,RS (by omega)];exact hk1⟩
end
section
variable {P:Program} {H:AH} {s:Nat}
def Mi (P:Program) (H:AH) (s:Nat) (a:AV) (news:List (List AV)):Prop:=∀ (c:Cx) (u:Value),c.H=H->HRel c->c.rel a u ->
 (∀ w,(Builtin.lenOf u).run P w = .ok news.length w)/\(∀ (i:Nat) (row:List AV),news[i]? = some row->row.length=s) /\
 ∀ n,n<=news.length->∃ vs:List Value,(∀ w,w.heap=c.w.heap->(Builtin.firstCells s n u).run P w = .ok vs.toArray w)/\BH c s (news.take n) vs
theorem Mi.of {a:AV} {news:List (List AV)} (len:Nat) (hl:news.length=len) (h:∀ (c:Cx) (u:Value),c.H=H->HRel c->c.rel a u->∃ A cap,u = .slice A len cap/\∀ n,n<=len->∃ vs,SrcIs P c s (.slice A n cap) (news.take n) vs):Mi P H s a news:=λc u hH hr hu=>by
 obtain ⟨A,cap,rfl,h1⟩:=h c u hH hr hu;refine ⟨λw=>by rw [hl];simp [Builtin.lenOf],λi row hi=>?_,λn hn=>?_⟩
 ·obtain ⟨vs,h2⟩:=h1 len (RO _);refine h2.rows i row ?_;rw [SF (by omega)];exact hi
 obtain ⟨vs,h2⟩:=h1 n (by omega);refine ⟨vs,λw hw=>?_,h2.is⟩;have h3:=h2.cells w hw;rw [RV,Sw hn] at h3;rw [<- h3]
 cases A <;> rfl
theorem Mi.own {b ver off len:Nat} {k:ABlk} (hk:H[b]? = some (some k)) (hv:k.ver=ver) (hs:k.s=s) (hn:off+len<=k.rows.length):Mi P H s (.hs b ver s off len) ((k.rows.drop off).take len):=
 .of len (by simp;omega) λc u hH hr hu=>by
  cases hu with
  | fr h=>cases h
  | @hs _ _ _ _ _ cap A hb hc hm h0 hx=>
   refine ⟨A,cap,rfl,λn hn' => ?_⟩;rw [List.take_take,Sw hn'];exact bf.own hk hv hs (by omega) rfl c _ hH hr (.hs hb (by omega) hm h0 λx hx'=>⟨(hx x hx').1,by have := (hx x hx').2.1;omega,(hx x hx').2.2.1,(hx x hx').2.2.2⟩)
theorem Mi.fz {α:Type} [Inhabited α] {f:α->List AV} {l:List α} (hf:∀ x,(f x).length=s):Mi P H s (eL f l) (l.map f):=
 .of l.length (by simp) λc u hH hr hu=>by
  have h:=tH hu
  cases h with
  | @sl _ cap sz g o _ a us hc hm ha hs hu2 h1 h=>
   refine ⟨a,cap,rfl,λn hn=>?_⟩;have e:(l.map f).take n=(RJ n).map λi=>f (l.getD i default):=by
    rw [<- Sy,<- uQ f (l.take n),RV,Sw hn];apply SG;intro i hi;have hi':i<n:=by simpa using hi
    simp [RU,hi']
   rw [e];refine bf.sl (H:=c.H) (n:=n) (row:=λi=>f (l.getD i default)) (λi _=>hf _) c _ rfl hr (.fr (.sl (s:=sz) (g:=g) (o:=o) us (by omega) hm (λh0=>ha (by omega)) (λi hi=>hs i (by omega)) (λi j a hi=>hu2 i j a (by omega)) (λi j a hi=>h1 i j a (by omega)) (λi j a hi=>h i j a (by omega))))
variable {o:Oper} {ρ:Operand->AV}
variable {α:Type} {c:α->List AV} {l k:List α} {x y:Operand} {t u e:TypeId} {ag:Bool} {w m b ver off len:Nat} {zs:List AV}
def cpy (l:List α) (off:Nat) (k:List α) (len:Nat):List α:=if off+len<=l.length then l.take off++k.take (min k.length len)++l.drop (off+min k.length len) else l
theorem BP (l:List α) (off:Nat) (k:List α) (len:Nat):(cpy l off k len).length=l.length:=by
 unfold cpy
 split
 ·simp only [lla,RV,Sj];omega
 rfl
theorem Km {lo hi:Int} {n:Nat} (h:0<=lo/\lo<=hi/\hi<=(n:Int)) (hn:n=l.length):(0+lo.toNat)+(hi.toNat-lo.toNat)<=l.length:=by omega
end
section
variable {P:Program} {K V:Type} [DecidableEq K] {kn vn:Nat} {kc:K->List Value} {cv:V->List AV} {keyT t e:TypeId} {l:List (K×V)} {ρ:Operand->AV} {H:AH} {x y z:Operand} {b:Nat}
theorem EvA.look (q:KeyA P keyT kn kc) (hv:∀ v,(cv v).length=vn) (d:V) {zv:Value} {ok:Bool} (ht:P.underlying t=some (.map keyT e)) (hz:∀ w,(zeroValue e).run P w = .ok zv w) (hzr:∀ c:Cx,c.rel (mkA (cv d)) zv) (k:K)
 (hx:ρ x = .mp b (kn+vn)) (hy:ρ y=mkA ((kc k).map AV.v)) (hb:H[b]? = some (some (mB kn vn kc cv l))) :
 EvA P ρ (.lookup t x y ok) H (bif ok then .tup [mkA (cv ((I9 l k).getD d)),.v (.bool (I9 l k).isSome)] else mkA (cv ((I9 l k).getD d))) H:=λ_ ho=>F5 q hv d ho ht hz hzr k hx hy hb
end
section
variable {K V:Type} {kn vn:Nat} {kc:K->List Value} {cv:V->List AV} {l:List (K×V)} {H:AH}
theorem StayB.mp {m:Nat} (hv:∀ v,(cv v).all (isF 9)=true):StayB m H (some (mB kn vn kc cv l)) (some (mB kn vn kc cv l)) := .keep λr hr a ha=>by
 obtain ⟨p,_,rfl⟩:=R3.1 hr;rcases List.mem_append.1 ha with ha | ha
 ·obtain ⟨x,_,rfl⟩:=R3.1 ha
  rfl
 exact xB 9 m a (RQ.1 (hv p.2) a ha)
end
section
variable {P:Program} {K V:Type} {kn vn:Nat} {kc:K->List Value} {cv:V->List AV} {keyT t e:TypeId} {l:List (K×V)} {ρ:Operand->AV} {H:AH} {x:Operand} {b:Nat}
end
section
variable {P:Program} {kn:Nat} {t:TypeId} {ρ:Operand->AV} {H:AH}
end
section
variable {P:Program} {keyT e:TypeId} {i:TypeInfo}
end
theorem Cx.trim {c:Cx} {b ver s off n:Nat} {ty:TypeId} {rows:List (List AV)} (hr:HRel c) (hb:c.H[b]? = some (some ⟨ver,s,ty,rows⟩)) (hle:off+n<=rows.length) {v:Value} (hv:c.rel (.hs b ver s off n) v) :
  ∃ c':Cx,c'.w=c.w/\c'.H=c.H.set b (some ⟨ver+1,s,ty,(rows.drop off).take n⟩)/\HRel c'/\Ext c c'/\c'.rel (.hs b (ver+1) s 0 n) v:=by
 have hlv:c.live b ⟨ver,s,ty,rows⟩:=hb;have hblt:b<c.H.length:=(ges hb).1;obtain ⟨cs,fr,hB⟩:=hr.blk b _ hlv
 cases hv with
 | fr h=>cases h
 | @hs _ _ _ _ _ cap A hbn hc hm h0 hh=>
  obtain ⟨fr,rfl,hat,hd⟩:=hB.cells hlv (λx hx=>(hh x hx).1);obtain ⟨_,hn,hA,hcap⟩:=hh _ hd;let c':Cx:={ w:=c.w,fz:=c.fz,H:=c.H.set b (some ⟨ver+1,s,ty,(rows.drop off).take n⟩),φ:=λj=>if j=b then ((c.φ b).1,(c.φ b).2+off*s) else c.φ j };have φb:c'.φ b=((c.φ b).1,(c.φ b).2+off*s):=if_pos rfl;have φo:∀ {j},j≠b->c'.φ j=c.φ j:=λ{j} hj=>if_neg hj;have φ1:∀ j,(c'.φ j).1=(c.φ j).1:=λj=>by
   by_cases hj:j=b
   ·subst hj;rw [φb]
   rw [φo hj]
  have Hb:c'.H[b]? = some (some ⟨ver+1,s,ty,(rows.drop off).take n⟩):=by
   show (c.H.set b _)[b]? = _;rw [RZ hblt]
  have Ho:∀ {j},j≠b->c'.H[j]? = c.H[j]? := λ{j} hj=>by
   show (c.H.set b _)[j]? = _;rw [RS (Ne.symm hj)]
  have lv:∀ {j k},c'.live j k->(j=b/\k=⟨ver+1,s,ty,(rows.drop off).take n⟩)\/(j≠b/\c.live j k):=λ{j k} hl=>by
   by_cases hj:j=b
   ·subst hj;have hl':c'.H[j]? = some (some k):=hl;rw [Hb] at hl';injection hl' with hl';injection hl' with hl';exact .inl ⟨rfl,hl'.symm⟩
   have hl':c'.H[j]? = some (some k):=hl;rw [Ho hj] at hl';exact .inr ⟨hj,hl'⟩
  have hx:Ext c c':=by
   refine ⟨rfl,rfl,rfl,RO _,λ_ _ _=>rfl,λ_ h=>h,λ_ h => .inl h,by show c.H.length<=(c.H.set b _).length;rw [Sz];exact RO _,λj q hj=>?_,λj q x hj hx=>?_,λj k hl => .inr ?_⟩
   ·by_cases e:j=b
    ·subst e;unfold Cx.born at hj ⊢;rw [hb] at hj;rw [Hb];simp only at hj ⊢;omega
    unfold Cx.born at hj ⊢;rw [Ho e];exact hj
   ·by_cases e:j=b
    ·subst e;unfold Cx.born at hj;rw [hb] at hj;unfold Cx.hd at hx;rw [Hb] at hx;simp only at hj hx;rw [if_neg (by omega)] at hx
     cases hx
    unfold Cx.hd at hx ⊢;rw [Ho e,φo e] at hx;exact hx
   rcases lv hl with ⟨rfl,_⟩ | ⟨_,h⟩
   ·exact ⟨j,_,hlv,(φ1 j).symm⟩
   exact ⟨j,k,h,(φ1 j).symm⟩
  have hlen:((rows.drop off).take n).length=n:=by rw [RV,Sj];omega
  have hfit:=hB.fits;simp only at hfit;refine ⟨c',rfl,rfl,⟨hr.lt,λj k hl=>?_,λj j' k k' hl hl' hne=>?_,hr.glx hx⟩,hx,?_⟩
  ·rcases lv hl with ⟨rfl,rfl⟩ | ⟨hj,h⟩
   ·refine ⟨cs,some fr,⟨?_,?_,hB.pos,hB.free,?_,λi r hi=>?_,λi r q a hi ha=>?_⟩⟩
    ·show c.w.heap[(c'.φ j).1]? = _;rw [φ1,hat]
     rfl
    ·rw [φ1];exact hB.nf
    ·rw [φb];show (c.φ j).2+off*s+((rows.drop off).take n).length*s<=cs.size;rw [hlen];have : off*s+n*s<=rows.length*s:=by rw [<- RR];exact RX s hle
     omega
    ·have hi':((rows.drop off).take n)[i]? = some r:=hi;rw [RU] at hi'
     split at hi'
     ·rw [Sv] at hi';exact hB.len _ r hi'
     cases hi'
    have hi':((rows.drop off).take n)[i]? = some r:=hi;rw [RU] at hi'
    split at hi'
    ·rw [Sv] at hi';obtain ⟨u,g1,g2,g3⟩:=hB.rel _ r q a hi' ha;refine ⟨u,?_,g2,g3.ext hr hx⟩;rw [φb];show cs[(c.φ j).2+off*s+i*s+q]? = some u;rw [<- g1]
     congr 1
     show (c.φ j).2+off*s+i*s+q=(c.φ j).2+(off+i)*s+q;rw [RR];omega
    cases hi'
   obtain ⟨cs',fr',hB'⟩:=hr.blk j k h;exact ⟨cs',fr',⟨by rw [φo hj];exact hB'.at_,by rw [φo hj];exact hB'.nf,hB'.pos,hB'.free,by rw [φo hj];exact hB'.fits,hB'.len,λi r q a hi ha=>by
    obtain ⟨u,g1,g2,g3⟩:=hB'.rel i r q a hi ha;exact ⟨u,by rw [φo hj];exact g1,g2,g3.ext hr hx⟩⟩⟩
  ·have old:∀ {j k},c'.live j k->∃ k0,c.live j k0:=λ{j k} hl=>by
    rcases lv hl with ⟨rfl,_⟩ | ⟨_,h⟩
    ·exact ⟨_,hlv⟩
    exact ⟨_,h⟩
   obtain ⟨_,h1⟩:=old hl;obtain ⟨_,h2⟩:=old hl';rw [φ1,φ1];exact hr.inj j j' _ _ h1 h2 hne
  refine .hs ?_ hc hm h0 λx hx=>?_
  ·unfold Cx.born;rw [Hb];exact RO _
  have hat':c'.w.heap[(c'.φ b).1]? = some (.cells cs ty fr):=by rw [φ1];exact hat
  have := Cx.hd_of (c:=c') (b:=b) (k:=⟨ver+1,s,ty,(rows.drop off).take n⟩) Hb hat';have he:=hx.symm.trans this;simp only [hdo,sie] at he;subst he;rw [φb];refine ⟨rfl,by show 0+n<=((rows.drop off).take n).length;rw [hlen];omega,λhp=>?_,?_⟩
  ·show A=some ⟨(c.φ b).1,(c.φ b).2+off*s+0*s,none⟩;rw [SA];exact hA hp
  show (c.φ b).2+off*s+0*s+cap*s<=cs.size;rw [SA];exact hcap
section
variable {P:Program} {ρ:Operand->AV} {H:AH}
theorem EvA.trim {op:Op} {b ver s off n:Nat} {ty:TypeId} {rows:List (List AV)} (h:Pt P ρ op (.hs b ver s off n)) (hb:H[b]? = some (some ⟨ver,s,ty,rows⟩)) (hle:off+n<=rows.length) :
  EvA P ρ op H (.hs b (ver+1) s 0 n) (H.set b (some ⟨ver+1,s,ty,(rows.drop off).take n⟩)):=λo ho c a K Q hH hr hxs hK=>
 h o ho H c a K Q hH hr hxs λv c1 hH1 hr1 hx1 hv1=>by
  obtain ⟨c2,e1,e2,e3,e4,e5⟩:=Cx.trim hr1 (by rw [hH1];exact hb) hle hv1;rw [<- e1];exact hK v c2 (by rw [e2,hH1]) e3 (hx1.trans e4) e5
theorem EvA.cutO {α:Type} {f:α->List AV} {op:Op} {b ver w n:Nat} {ty:TypeId} (l:List α) {zl zh:Int} (h:Pt P ρ op (.hs b ver w (0+zl.toNat) (zh.toNat-zl.toNat))) (hb:H[b]? = some (bE false ver w ty (l.map f))) (hn:n=l.length)
  (g:0<=zl/\zl<=zh/\zh<=(n:Int)) :
  EvA P ρ op H (hS false b (ver+1) w ((l.drop zl.toNat).take (zh.toNat-zl.toNat)).length) (H.set b (bE false (ver+1) w ty (((l.drop zl.toNat).take (zh.toNat-zl.toNat)).map f))):=by
 obtain ⟨g1,g2,g3⟩:=g;have hl:((l.drop zl.toNat).take (zh.toNat-zl.toNat)).length=zh.toNat-zl.toNat:=by rw [RV,Sj];omega
 have := EvA.trim h (rows:=l.map f) hb (by rw [llm];omega);rw [hl,Sy,List.map_drop];rw [Nat.zero_add] at this;exact this
inductive FzP (H:AH):AV->AV->Prop
 | fz {a a':AV} (h:Fz 0 H a a'):FzP H a a'
 | hp {b ver s j:Nat} {ty:TypeId} {r x row':List AV} (hk:H[b]? = some (some ⟨ver,s,ty,[r++x]⟩)) (h:FzL 0 H r row'):FzP H (.hp b ver s 0 j) (.fp row' j)
inductive FzPL (H:AH):List AV->List AV->Prop
 | nil:FzPL H [] []
 | cons {a b:AV} {l k:List AV} (h:FzP H a b) (t:FzPL H l k):FzPL H (a::l) (b::k)
theorem FzPL.spec {l k:List AV} (h:FzPL H l k):l.length=k.length/\∀ (i:Nat) (c d:AV),l[i]? = some c->k[i]? = some d->FzP H c d:=by
 induction h with
 | nil=>exact ⟨rfl,λi c d h=>by simp at h⟩
 | cons h t ih=>
  refine ⟨by simp [ih.1],λi c d h1 h2=>?_⟩
  cases i with
  | zero=>
   simp only [RN,sie] at h1 h2;subst h1 h2;exact h
  | succ i=>
   simp only [RY] at h1 h2;exact ih.2 i c d h1 h2
end
def Mj (r:AV) (G:Nat->AH):AV->AH->Prop:=λr' G'=>∃ ver,r'=r/\G'=G ver
def OV:List Nat->AH->AH->AH
 | [],_,H=>H
 | b::bs,G,H=>match G with
  | []=>H
  | x::xs=>OV bs xs (H.set b x)
def Mk (H:AH) (ids:List Nat) (G:AH):AH:=OV ids G H
theorem Aq {H:AH} {b:Nat} {bs:List Nat} {x:Option ABlk} {xs:AH}:Mk H (b::bs) (x::xs)=Mk (H.set b x) bs xs:=rfl
theorem Ar:∀ (ids:List Nat) (H G:AH),(Mk H ids G).length=H.length
 | [],_,_=>rfl
 | _::_,_,[]=>rfl
 | b::bs,H,x::xs=>by rw [Aq,Ar bs,Sz]
theorem EA {b:Nat}:∀ (ids:List Nat) (H G:AH),b∉ids->(Mk H ids G)[b]? = H[b]?
 | [],_,_,_=>rfl
 | _::_,_,[],_=>rfl
 | c::bs,H,x::xs,h=>by
  rw [Aq,EA bs _ _ (λhm=>h (.tail _ hm)),RS (λe=>h (by rw [e];exact List.mem_cons_self))]
theorem EB:∀ (ids:List Nat) (H G:AH) (i b:Nat),ids.Nodup->ids[i]? = some b->b<H.length->i<G.length->(Mk H ids G)[b]? = G[i]?
 | [],_,_,_,_,_,h,_,_=>by simp at h
 | _::_,_,[],_,_,_,_,_,h=>by simp at h
 | c::bs,H,x::xs,i,b,hn,h,hb,hi=>by
  rw [Aq];obtain ⟨hn1,hn2⟩:=List.nodup_cons.1 hn
  cases i with
  | zero=>
   simp only [RN,sie] at h;subst h;rw [EA bs _ _ hn1,RZ hb]
   rfl
  | succ i=>
   simp only [RY] at h;rw [EB bs _ xs i b hn2 h (by rw [Sz];exact hb) (by simpa using hi)]
   rfl
inductive OutAt (S:Nat->Nat->Prop) (H:AH):List Nat->AH->Prop
 | nil:OutAt S H [] []
 | cons {b:Nat} {k k0:ABlk} {bs:List Nat} {G:AH} (hb:H[b]? = some (some k)) (hk:RenK S k k0) (t:OutAt S H bs G):OutAt S H (b::bs) (some k0::G)
 | none {b:Nat} {bs:List Nat} {G:AH} (hb:H[b]? = some Option.none) (t:OutAt S H bs G):OutAt S H (b::bs) (Option.none::G)
theorem OutAt.bE {S:Nat->Nat->Prop} {H:AH} {α:Type} {g:Bool} {v w b:Nat} {ty:TypeId} {f:α->List AV} {x:List α} {bs:List Nat} {G:AH} (hb:H[b]? = some (bE g v w ty (x.map f))) (hf:∀ x,(f x).all (isF 9)=true) (t:OutAt S H bs G):OutAt S H (b::bs) (Go.Proofs.YtpkhamajimidnaaGreatDoor.bE g v w ty (x.map f)::G):=by
 cases g with
 | true=>exact .none hb t
 | false=>exact .cons hb (.ofF λr hr a ha=>qF hf r hr a ha) t
theorem OutAt.spec {S:Nat->Nat->Prop} {H:AH} {ids:List Nat} {G:AH} (h:OutAt S H ids G):ids.length=G.length/\∀ (i b:Nat),ids[i]? = some b->(H[b]? = some Option.none/\G[i]? = some Option.none)\/∃ k k0:ABlk,H[b]? = some (some k)/\G[i]? = some (some k0)/\RenK S k k0:=by
 induction h with
 | nil=>exact ⟨rfl,λi b h=>by simp at h⟩
 | @none b bs G hb t ih=>
  refine ⟨by simp [ih.1],λi c h=>?_⟩
  cases i with
  | zero=>
   simp only [RN,sie] at h;subst h;exact .inl ⟨hb,rfl⟩
  | succ i=>
   simp only [RY] at h ⊢;exact ih.2 i c h
 | @cons b k k0 bs G hb hk t ih=>
  refine ⟨by simp [ih.1],λi c h=>?_⟩
  cases i with
  | zero=>
   simp only [RN,sie] at h;subst h;exact .inr ⟨k,k0,hb,rfl,hk⟩
  | succ i=>
   simp only [RY] at h ⊢;exact ih.2 i c h
section
variable {P:Program}
theorem cg.outAt {f:FuncId} {as0 PO:List AV} {H0 H:AH} {r0 r:AV} {G0:Nat->AH} (h:cg P f as0 H0 (Mj r0 G0)) (ids:List Nat) (hn:ids.Nodup) (hin:OutAt (λb i=>ids[i]? = some b) H ids H0) (has:RenL (λb i=>ids[i]? = some b) PO as0)
  {G G':Nat->AH} (N:Nat) (hN:H.length=N) (hout:∀ v,RenHL (sg ids N) (G0 v) (G v)) (hlen:∀ v,(G0 v).length=ids.length) (hr:Ren (sg ids N) r0 r) (hG:∀ v,Mk H ids (G v)=G' v):cg P f PO H (Mj r G'):=by
 subst hN;refine h.frameN ids hn hin.spec.1 hin.spec.2 has.spec.1 has.spec.2 λr1 G1 ⟨v,e1,e2⟩=>⟨r,G' v,?_,by rw [e1];exact hr,v,rfl,rfl⟩;subst e2;obtain ⟨l1,l2,l3⟩:=(hout v).spec;have hl:=hlen v;have lt:∀ {i b},ids[i]? = some b->b<H.length:=λ{i b} hi=>by
  rcases hin.spec.2 i b hi with ⟨h1,_⟩ | ⟨k,_,h1,_⟩
  ·exact (ges h1).1
  exact (ges h1).1
 have sgi:∀ {i b},i<(G0 v).length->sg ids H.length i b->ids[i]? = some b:=λ{i b} hi hs=>by
  rcases hs with hs | ⟨hs,_⟩
  ·exact hs
  omega
 refine ⟨by omega,by rw [<- hG,Ar];omega,λi b hi hs hd=>?_,λi b k0 hs hk=>?_,λb hb hni=>by rw [<- hG,EA _ _ _ hni]⟩
 ·have hib:=sgi hi hs;rw [<- hG,EB ids H (G v) i b hn hib (lt hib) (by omega)];have hg:i<(G v).length:=by omega
  rw [geq hg]
  cases hc:(G v)[i] with
  | none=>rfl
  | some k'=>
   obtain ⟨k,h1,_⟩:=l3 i k' (by rw [geq hg,hc]);rw [hd] at h1
   cases h1
 have hi:=(ges hk).1;have hib:=sgi hi hs;obtain ⟨k',h1,h2⟩:=l2 i k0 hk;refine ⟨k',?_,h2⟩;rw [<- hG,EB ids H (G v) i b hn hib (lt hib) (by omega)];exact h1
end
section
variable {P:Program} {nt b0:Nat} {Q:Exit->Env->AH->Prop} {en:List (Nat×AV)} {H:AH} {ops:Array Oper} {l:List Oper} {d:Tmp} {t:TypeId} {pos:String} {af:Array Edge}
theorem oW {cl:Call} {f:Operand} {g:FuncId} {qz PO:List AV} {r:AV} {G:Nat->AH} (hc:cl.callee = .value f) (hf:rho (ai en) f = .fn (.func g) qz) (ha:cl.args.toList.map (rho (ai en))++qz=PO)
  (h:cg P g PO H (Mj r G)) (k:∀ ver,TO P nt b0 ops l Q (ai ((d,r)::en)) (G ver)):TO P nt b0 ops (⟨some d,.call cl,t,pos,af,none⟩::l) Q (ai en) H:=by
 subst ha;exact TO.runG (.free rfl) (CG rfl hc hf h) λr' H' ⟨ver,hr,hH⟩=>by
  subst hr hH;exact k ver
end
theorem RenK.mB {K V:Type} {kn vn:Nat} {kc:K->List Value} {cv:V->List AV} {l:List (K×V)} (S:Nat->Nat->Prop) (hv:∀ v,(cv v).all (isF 9)=true):RenK S (mB kn vn kc cv l) (mB kn vn kc cv l) := .ofF λr hr a ha=>by
 obtain ⟨p,_,rfl⟩:=R3.1 hr;rcases List.mem_append.1 ha with ha | ha
 ·obtain ⟨x,_,rfl⟩:=R3.1 ha
  rfl
 exact RQ.1 (hv p.2) a ha
theorem RenK.bE' {S:Nat->Nat->Prop} {α:Type} {v w:Nat} {ty:TypeId} {f:α->List AV} {x:List α} (hf:∀ x,(f x).all (isF 9)=true):RenK S ⟨v,w,ty,x.map f⟩ ⟨v,w,ty,x.map f⟩ := .ofF λr hr a ha=>qF hf r hr a ha
section
variable {P:Program} {K:Type} [DecidableEq K] {kn:Nat} {kc:K->List Value} {keyT t e:TypeId} {l:List (K×Bool)} {ρ:Operand->AV} {H:AH} {x y z:Operand} {b:Nat}
omit [DecidableEq K] in
end
section
variable {P:Program}
theorem cg.mkS {f:FuncId} {fn:Func} {body:Code} {PO:List AV} {H:AH} {R:AV->AH->Prop} (hf:P.funcs[f]? = some fn) (hb:fn.body=some body) (hcall:jv P f=true) (hn:RL PO.length fn.ntmps=true)
 (hok:codeOk fn.ntmps body=true) {e0:Env} (hw:Dk (Kg PO) e0) (h:T P fn.ntmps H.length body (SQ H.length (Fin P fn R)) e0 H):cg P f PO H R:=cg.mkT hf hb hcall hn hok hw h.leaf
end
section
variable {P:Program} {ρ:Operand->AV} {H:AH}
theorem Hk {o:Oper} {t:TypeId} {x:Operand} {cs:List AV} {b:Nat} (ho:o.op = .box t x) (hc:(ρ x).cells=some cs) (h0:0<cs.length) (hb:H[b]? = some none):Pp P o ρ H (.hp b 0 cs.length 0 0) (H.set b (some ⟨0,cs.length,t,[cs]⟩)):=by
 intro c a K Q hH hr hx hK;have hx1:=hx x (by rw [ho];simp [Op.operands]);have hz':=vZ hx1 hc;have hsz:=hz'.size;subst hH;have hrel:HRel (c.newAt b ⟨0,cs.length,t,[cs]⟩ (a.eval x).cells):=by
  refine Cx.newAt_rel hr hb h0 (by simp;omega) (λi row h=>?_) (λi row j a h1 h2=>?_)
  ·match i,h with
   | 0,h=>simp at h;rw [<- h]
   | i+1,h=>simp at h
  match i,h1 with
  | 0,h1=>
   simp only [RN,sie] at h1;subst h1;simpa using hz'.get h2
  | i+1,h1=>simp at h1
 have hrun:(execOp a.eval o).run P c.w = .ok (.value (.pointer (some ⟨c.w.heap.size,0,none⟩))) (c.newAt b ⟨0,cs.length,t,[cs]⟩ (a.eval x).cells).w:=by
  rw [execOp,ho];refine (?_:Sem.run P _ c.w=_);have : (Instr.box t (a.eval x)).run P c.w = .ok (.pointer (some ⟨c.w.heap.size,0,none⟩)) (c.w.alloc (.cells (a.eval x).cells t)):=by
   simp [Instr.box,newVar,newRow]
  simp only [Sem.run_bind,this,Result.andThen_ok,Sem.run_pure]
  rfl
 unfold Oper.wp;rw [hrun];have hl2:=Cx.newAt_self (c:=c) (k:=⟨0,cs.length,t,[cs]⟩) (cs:=(a.eval x).cells) hb;have hφ2:(c.newAt b ⟨0,cs.length,t,[cs]⟩ (a.eval x).cells).φ b=(c.w.heap.size,0):=if_pos rfl;refine hK _ (c.newAt b ⟨0,cs.length,t,[cs]⟩ (a.eval x).cells) rfl hrel (Cx.newAt_ext hr hb) (.hp ?_ λq hq=>?_)
 ·unfold Cx.born;rw [show (c.newAt b ⟨0,cs.length,t,[cs]⟩ (a.eval x).cells).H[b]? = some (some _) from hl2];exact RO _
 have := Cx.hd_of hl2 (o:=.cells (a.eval x).cells t) (by rw [hφ2];exact heap_alloc_new _ _);rw [hφ2] at this;have he:=hq.symm.trans this;simp only [hdo,sie] at he;subst he;exact ⟨rfl,by simp⟩
theorem EvA.bxA {t:TypeId} {x:Operand} {cs:List AV} (b:Nat) (hx:(ρ x).cells=some cs) (hn:(Nat.blt 0 cs.length)=true) (hb:H[b]? = some none):EvA P ρ (.box t x) H (.hp b 0 cs.length 0 0) (H.set b (some ⟨0,cs.length,t,[cs]⟩)):=
 λ_ ho=>Hk ho hx (nlb hn) hb
end
section
variable {c:Cx} {b:Nat} {k:ABlk}
end
section
variable {P:Program} {ρ:Operand->AV} {H:AH}
end
section
variable {P:Program} {ρ:Operand->AV} {t e:TypeId}
end
section
variable {P:Program} {nt b0:Nat} {Q:Exit->Env->AH->Prop} {e:Env} {H:AH}
theorem T.ifH {α:Type} {q:Bool} {x:Operand} {t f:Code} {X Y:Option α} {r:α} (hc:rho e x = .v (.bool q)) (h:(bif q then X else Y)=some r) (h1:q=true->X=some r->T P nt b0 t Q e H) (h2:q=false->Y=some r->T P nt b0 f Q e H):T P nt b0 (.cond x t f) Q e H:=
 T.cond hc (λhq=>h1 hq (Oa hq h)) λhq=>h2 hq (Ob hq h)
end
theorem Pw {α:Type} {a b:α} (h:some a=some b):a=b:=osl h
def Og (e:Env):List (Nat×AV)->List (Nat×AV)
 | []=>[]
 | p::l=>(p.1,e p.1)::Og e l
theorem wk {e:Env}:∀ {en:List (Nat×AV)},Og e en=en->Dk e (ai en)
 | [],_=>Pq
 | (t,a)::l,h=>by
  injection h with h1 h2;injection h1 with _ h1;exact Ps h1 (wk h2)
theorem kw {b0:Nat} {e:Env} {H H0:AH} {en:List (Nat×AV)} (hH:H0=H) (h:Og e en=en):gm b0 e H (ai en) H0:=BL hH (wk h)
def Ml:Nat->List AV->List (Nat×AV)
 | _,[]=>[]
 | i,a::l=>(i,a)::Ml (i+1) l
theorem Hl:∀ (l:List AV) (i t:Nat),ai (Ml i l) t=if t<i then .top else l.getD (t-i) .top
 | [],i,t=>by
  show AV.top=_
  split <;> simp
 | a::l,i,t=>by
  show (bif Nat.beq t i then a else ai (Ml (i+1) l) t)=_
  cases hb:Nat.beq t i with
  | true=>
   have := SI hb;subst this;simp
  | false=>
   have hne:t≠i:=λh=>by rw [h,show Nat.beq i i=true from Nat.beq_refl i] at hb;cases hb
   rw [cond_false,Hl l (i+1) t]
   by_cases h:t<i
   ·rw [if_pos h,if_pos (by omega)]
   rw [if_neg h,if_neg (by omega),show t-i=(t-(i+1))+1 by omega]
   rfl
theorem Fe (l:List AV):Dk (Kg l) (ai (Ml 0 l)):=λt => .inr (by rw [Hl,if_neg (by omega)];rfl)
section
variable {P:Program} {f:FuncId} {fn:Func} {body:Code} {PO:List AV} {r:AV} {H H':AH}
def okF (P:Program) (f:FuncId) (fn:Func) (body:Code):Bool:=jv P f&&codeOk fn.ntmps body
theorem Ff (h:okF P f fn body=true):jv P f=true/\codeOk fn.ntmps body=true:=by
 unfold okF at h;simpa using h
theorem pM (hf:P.funcs[f]? = some fn) (hb:fn.body=some body) (hk:okF P f fn body=true) (hn:RL PO.length fn.ntmps=true) (h:T P fn.ntmps 0 body (Fin P fn λr0 G=>Fz 0 G r0 r) (ai (Ml 0 PO)) []):au P f PO r:=
 au.mkT hf hb (Ff hk).1 hn (Ff hk).2 (Fe PO) h
theorem aM (hf:P.funcs[f]? = some fn) (hb:fn.body=some body) (hk:okF P f fn body=true) (hn:RL PO.length fn.ntmps=true) (h:T P fn.ntmps H.length body (SQ H.length (Fin P fn λr0 G=>r0=r/\G=H')) (ai (Ml 0 PO)) H):p9 P f PO H r H':=
 p9.mkT hf hb (Ff hk).1 hn (Ff hk).2 (Fe PO) h
end
section
variable {α β:Type} {G:Prop} {r:β} {x:Option β}
theorem jW {k:IntKind} {n:Int} (h:gd (Pv k n) x=some r) (K:k.wrap n=n->x=some r->G):G:=K (gdW h).1 (gdW h).2
theorem jD {A:Prop} [Decidable A] (h:gd (decide A) x=some r) (K:A->x=some r->G):G:=K (gdD h).1 (gdD h).2
theorem jL {b:Bool} (h:gd b x=some r) (K:b=true->x=some r->G):G:=K (gdL h).1 (gdL h).2
theorem jB {o:Option α} {k:α->Option β} (h:o.bind k=some r) (K:∀ v,o=some v->k v=some r->G):G:=(K4 h).elim λv h=>K v h.1 h.2
end
section
variable {P:Program} {nt b0:Nat} {Q:Exit->Env->AH->Prop} {e e0:Env} {H H' H0:AH} {ops:Array Oper} {l:List Oper} {W:Type} {w:W}
theorem T.sr {i:Nat} {y:Code} (h:TO P nt b0 ops ops.toList (Ja (T P nt b0 y Q) Q) e H):T P nt b0 (.seq (.region i ops false) y) Q e H := .seq (.region h)
theorem T.jU {S:Type} {A:Option S} {K:S->Option W} {x y:Code} (h:A.bind K=some w) (slots:S->List (Nat×AV)) (heap:S->AH)
  (J:∀ s,K s=some w->T P nt b0 y Q (ai (slots s)) (heap s)) (k:∀ s,A=some s->T P nt b0 x (Ja (Oc b0 (λ_:Unit=>True) (λ_=>slots s) (λ_=>heap s)) Q) e H):T P nt b0 (.seq x y) Q e H:=
 jB h λs h1 h2=>T.joinF (λ_:Unit=>True) (λ_=>slots s) (λ_=>heap s) (λ_ _=>J s h2) (k s h1)
theorem T.jF {S G:Type} {A:Option S} {K:S->Option W} {x y:Code} (h:A.bind K=some w) (inv:S->G->Prop) (slots:S->G->List (Nat×AV)) (heap:S->G->AH)
  (J:∀ s g,K s=some w->inv s g->T P nt b0 y Q (ai (slots s g)) (heap s g)) (k:∀ s,A=some s->T P nt b0 x (Ja (Oc b0 (inv s) (slots s) (heap s)) Q) e H):T P nt b0 (.seq x y) Q e H:=
 jB h λs h1 h2=>T.joinF (inv s) (slots s) (heap s) (λg hg=>J s g h2 hg) (k s h1)
theorem T.lU {S E:Type} {body:Code} {x:E} {step:S->Option (S ⊕ E)} {s0:S} (h:loopO step s0=some x) (slots:S->List (Nat×AV)) (heap:S->AH) (hs:gm b0 e H (ai (slots s0)) (heap s0))
  (round:∀ s z,step s=some z->T P nt b0 body (Ja (Jo b0 (λ_ (_:Unit)=>True) (λs _=>slots s) (λs _=>heap s) z) (Leave Q x z)) (ai (slots s)) (heap s)):T P nt b0 (.loop body) Q e H:=
 T.loop step (λ_ (_:Unit)=>True) (λs _=>slots s) (λs _=>heap s) () h trivial hs λs _ z hz _=>round s z hz
theorem lE {S E:Type} {slots:S->List (Nat×AV)} {heap:S->AH} {a:S} {z:S ⊕ E} (h:some (Sum.inl a)=some z) (c:gm b0 e H (ai (slots a)) (heap a)):Jo b0 (λ_ (_:Unit)=>True) (λs _=>slots s) (λs _=>heap s) z e H:=
 ⟨a,(),(osl h).symm,trivial,c⟩
theorem lX {S E:Type} {x y:E} {z:S ⊕ E} {ex:Exit} (h:some (Sum.inr y)=some z) (K:some y=some x->Q ex e H):Leave Q x z ex e H:=⟨y,(osl h).symm,λh=>K (congrArg some h)⟩
theorem TO.jB {S:Type} {q:Bool} {A B:Option S} {K:S->Option W} (h:(bif q then A else B).bind K=some w) (n:Nat) (slots:S->List (Nat×AV)) (heap:S->AH)
  (h1:∀ s,q=true->A=some s->(∀ e H,gm b0 e H (ai (slots s)) (heap s)->TO P nt b0 ops (l.drop n) Q e H)->TO P nt b0 ops l Q e H)
  (h2:∀ s,q=false->B=some s->(∀ e H,gm b0 e H (ai (slots s)) (heap s)->TO P nt b0 ops (l.drop n) Q e H)->TO P nt b0 ops l Q e H)
  (J:∀ s,K s=some w->TO P nt b0 ops (l.drop n) Q (ai (slots s)) (heap s)):TO P nt b0 ops l Q e H:=by
 obtain ⟨s,ha,hk⟩:=K4 h;have key:∀ e H,gm b0 e H (ai (slots s)) (heap s)->TO P nt b0 ops (l.drop n) Q e H:=λe H c=>(J s hk).cut c
 cases q with
 | true=>exact h1 s rfl ha key
 | false=>exact h2 s rfl ha key
end
section
variable {P:Program} {ρ:Operand->AV} {H H':AH} {x y:Operand} {a:AV} {t:TypeId} {ag:Bool} {n:Nat}
theorem mv:Pt P ρ (.move x) (ρ x):=Pt.mv _ rfl
theorem as':Pt P ρ (.assign x) (ρ x):=Pt.asg _ rfl
def O5:AV->Bool
 | .fp _ _=>true
 | .hp _ _ _ _ _=>true
 | _=>false
theorem nl (h:O5 (ρ x)=true):Pt P ρ (.nilCheck x) (ρ x):=by
 cases e:ρ x with
 | fp row j=>exact Pt.nilfp e
 | hp b v s i j=>exact Pt.nilhp e
 | _=>rw [e] at h;cases h
def ldE (ag:Bool) (n:Nat):AV->Option AV
 | .fp row j=>sH ag n row j
 | _=>none
theorem lf (a:AV) (ty:TyF P t ag n) (h:ldE ag n (ρ x)=some a):Pt P ρ (.load t x) a:=by
 cases e:ρ x with
 | fp row j=>rw [e] at h;exact Pt.loadfp a ty e h
 | _=>rw [e] at h;cases h
def faE (pl:List (Nat×Nat)) (i:Nat) (v:AV):Option AV:=match pl[i]? with
 | some (o,k+1)=>(match v with
  | .fp row j=>some (.fp row (j+o))
  | .hp b u s q j=>some (.hp b u s q (j+o))
  | _=>none)
 | _=>none
theorem Fg {α β:Type} {f:α->Option β}:∀ {l:List α} {k:List β},l.mapM f=some k->∀ {i:Nat} {b:β},k[i]? = some b->∃ a,l[i]? = some a/\f a=some b
 | [],k,h,i,b,hb=>by
  simp at h;subst h;simp at hb
 | c::l,k,h,i,b,hb=>by
  simp only [List.mapM_cons] at h;obtain ⟨d,hd,h⟩:=Sa.1 h;obtain ⟨k',hk',h⟩:=Sa.1 h;obtain rfl:=osl h
  cases i with
  | zero=>
   simp at hb;subst hb;exact ⟨c,rfl,hd⟩
  | succ i=>exact Fg hk' (by simpa using hb)
theorem fa {pl:List (Nat×Nat)} {i:Nat} (q:TyS P t pl) (h:faE pl i (ρ x)=some a):Pt P ρ (.fieldAddr t x i) a:=by
 have hs:=q.s
 split at hs
 ·rename_i fs hu;unfold faE at h
  split at h
  ·rename_i o k hk;obtain ⟨fl,h1,h2⟩:=Fg hs hk;rw [Sg] at h1;obtain ⟨inf,h3,h4⟩:=SJ.1 h2;injection h4 with h4 h5;have hc:(P.cellsOf fl.type != 0)=true:=by
    unfold Program.cellsOf;rw [h3];simp [h5]
   subst h4
   cases e:ρ x with
   | fp row j=>rw [e] at h;obtain rfl:=osl h;exact Pt.fafp hu h1 hc e
   | hp b u s w j=>rw [e] at h;obtain rfl:=osl h;exact Pt.fahp hu h1 hc e
   | _=>rw [e] at h;cases h
  cases h
 cases hs
theorem lh (a:AV) (ty:TyF P t ag n) {b ver s j:Nat} {ty':TypeId} {row:List AV} (h:ρ x = .hp b ver s 0 j) (hk:H[b]? = some (some ⟨ver,s,ty',[row]⟩)) (hp:sH ag n row j=some a):EvA P ρ (.load t x) H a H:=EvA.loadhp a ty h hk rfl rfl rfl hp
def srE (n s j:Nat) (row cs:List AV):Option (List AV):=bif Nat.beq cs.length n&&RL (j+n) s then some (splice row j cs) else none
theorem sr (row':List AV) (ty:TyF P t ag n) {b ver s j:Nat} {ty':TypeId} {row cs:List AV} (hx:ρ x = .hp b ver s 0 j) (hy:(ρ y).cells=some cs) (hk:H[b]? = some (some ⟨ver,s,ty',[row]⟩)) (hr:srE n s j row cs=some row'):EvA P ρ (.store t x y) H .top (H.set b (some ⟨ver,s,ty',[row']⟩)):=by
 unfold srE at hr
 cases hb:(Nat.beq cs.length n&&RL (j+n) s) with
 | false=>rw [hb] at hr;cases hr
 | true=>
  rw [hb] at hr;obtain rfl:=osl hr;rw [bae] at hb;exact EvA.st (k:=⟨ver,s,ty',[row]⟩) _ ty hx hy hk rfl rfl rfl (SI hb.1) hb.2 rfl
end
section
variable {P:Program} {nt b0:Nat} {Q:Exit->Env->AH->Prop} {H H':AH} {ops:Array Oper} {l:List Oper} {d:Tmp} {ty:TypeId} {pos:String} {af:Array Edge} {en:List (Nat×AV)} {fp:Nat->Fp} {i:Nat} {K:Env->AH->Prop} {S W:Type} {r:W} {A:Option S} {k:S->Option W} {v:S->AV} {cl:Call} {f:Operand} {g:FuncId} {qz PO:List AV}
theorem oC (h:A.bind k=some r) (hp:∀ s,A=some s->au P g PO (v s)) (hc:cl.callee = .value f) (hf:rho (ai en) f = .fn (.func g) qz) (ha:cl.args.toList.map (rho (ai en))++qz=PO) (hF:PO.all (isF 9)=true)
  (J:∀ s,A=some s->k s=some r->TO P nt b0 ops l Q (ai ((d,v s)::en)) H):TO P nt b0 ops (⟨some d,.call cl,ty,pos,af,none⟩::l) Q (ai en) H:=
 jB h λs h1 h2=>oN (Pt.call hc hf ha (hp s h1) hF) (J s h1 h2)
theorem fC (h:A.bind k=some r) (hp:∀ s,A=some s->au P g PO (v s)) (hc:cl.callee = .value f) (hf:rho (ai en) f = .fn (.func g) qz) (ha:cl.args.toList.map (rho (ai en))++qz=PO) (hF:PO.all (isF 9)=true) (h0:fp i=([],false))
  (J:∀ s,A=some s->k s=some r->TF P fp (i+1) l K (ai ((d,v s)::en)) H):TF P fp i (⟨some d,.call cl,ty,pos,af,none⟩::l) K (ai en) H:=
 jB h λs h1 h2=>fN h0 (Pt.call hc hf ha (hp s h1) hF) (J s h1 h2)
end
section
variable {P:Program} {fn:Func} {e:Env} {G:AH} {a:AV} {t:Tmp} {m:Nat}
theorem aF (h:fn.results.toList=[.tmp t]) (h1:e t=a) (h2:isF 9 a=true):Fin P fn (λr0 G=>Fz m G r0 a) .ret e G:=Fin.ret (vs:=[a]) (by rw [h];exact .cons (.tmp h1) .nil) (.of_isF 9 _ h2)
end
section
variable {P:Program} {ρ:Operand->AV} {H:AH} {x y:Operand} {t:TypeId} {ag:Bool} {n j w:Nat} {q:Int}
theorem lh1 (V:Int->AV) (g:0<=q/\q<3) (ty:TyF P t ag n) {b ver s:Nat} {ty':TypeId} {row:List AV} (h:ρ x = .hp b ver s 0 (j+q.toNat*w)) (hk:H[b]? = some (some ⟨ver,s,ty',[row]⟩)) (h0:sH ag n row (j+0*w)=some (V 0)) (h1:sH ag n row (j+1*w)=some (V 1)) (h2:sH ag n row (j+2*w)=some (V 2)):EvA P ρ (.load t x) H (V q) H:=
 EvA.loadhp _ ty h hk rfl rfl rfl (Kl (P:=λz=>sH ag n row (j+z.toNat*w)=some (V z)) g h0 h1 h2)
theorem sr1 (R:Int->List AV) (g:0<=q/\q<3) (ty:TyF P t ag n) {b ver s:Nat} {ty':TypeId} {row cs:List AV} (hx:ρ x = .hp b ver s 0 (j+q.toNat*w)) (hy:(ρ y).cells=some cs) (hk:H[b]? = some (some ⟨ver,s,ty',[row]⟩)) (h0:srE n s (j+0*w) row cs=some (R 0)) (h1:srE n s (j+1*w) row cs=some (R 1)) (h2:srE n s (j+2*w) row cs=some (R 2)):EvA P ρ (.store t x y) H .top (H.set b (some ⟨ver,s,ty',[R q]⟩)):=
 sr _ ty hx hy hk (Kl (P:=λz=>srE n s (j+z.toNat*w) row cs=some (R z)) g h0 h1 h2)
variable {v:Nat} {u:Int}
theorem O6 {Q:Int->Int->Prop} (g:0<=q/\q<3) (g':0<=u/\u<3) (h:Q 0 0/\Q 0 1/\Q 0 2/\Q 1 0/\Q 1 1/\Q 1 2/\Q 2 0/\Q 2 1/\Q 2 2):Q q u:=
 Kl (P:=λz=>Q z u) g (Kl (P:=λz=>Q 0 z) g' h.1 h.2.1 h.2.2.1) (Kl (P:=λz=>Q 1 z) g' h.2.2.2.1 h.2.2.2.2.1 h.2.2.2.2.2.1) (Kl (P:=λz=>Q 2 z) g' h.2.2.2.2.2.2.1 h.2.2.2.2.2.2.2.1 h.2.2.2.2.2.2.2.2)
def P9 (Q:Nat->Nat->Int->Int->Prop):Prop:=Q 0 0 0 0/\Q 0 1 0 1/\Q 0 2 0 2/\Q 1 0 1 0/\Q 1 1 1 1/\Q 1 2 1 2/\Q 2 0 2 0/\Q 2 1 2 1/\Q 2 2 2 2
theorem sr2 (R:Int->Int->List AV) (g:0<=q/\q<3) (g':0<=u/\u<3) (ty:TyF P t ag n) {b ver s:Nat} {ty':TypeId} {row cs:List AV} (hx:ρ x = .hp b ver s 0 ((j+q.toNat*w)+u.toNat*v)) (hy:(ρ y).cells=some cs) (hk:H[b]? = some (some ⟨ver,s,ty',[row]⟩)) (h9:P9 λa b y z=>srE n s ((j+a*w)+b*v) row cs=some (R y z)):EvA P ρ (.store t x y) H .top (H.set b (some ⟨ver,s,ty',[R q u]⟩)):=
 sr _ ty hx hy hk (O6 (Q:=λy z=>srE n s ((j+y.toNat*w)+z.toNat*v) row cs=some (R y z)) g g' h9)
end
section
variable {P:Program} {H:AH} {s:Nat} {o:Oper} {ρ:Operand->AV}
theorem Hm {e:TypeId} {i:TypeInfo} {z:Value} (w:World) (hi:P.info? e=some i) (hz:i.zero=some z):(zeroValue e).run P w = .ok z w:=by simp [zeroValue,typeInfo,hi,hz]
theorem Hn {cl:Call} {x:Operand} {t e:TypeId} {b ver off len:Nat} {k:ABlk} {z:Value} {zr:List AV} (ho:o.op = .call cl) (h1:cl.callee = .builtin .clear) (h2:cl.args.toList=[x]) (h3:cl.argTypes.toList=[t])
  (ht:P.underlying t=some (.slice e)) (hz:(P.info? e).bind (·.zero)=some z) (hz1:m6 z.cells=true) (hzs:z.cells.size=s) (hzr:zr.length=s) (hzc:∀ (c:Cx) (j:Nat) (a:AV),zr[j]? = some a->∃ u,z.cells[j]? = some u/\c.rel a u)
  (hx:ρ x = .hs b ver s off len) (hb:H[b]? = some (some k)) (hv:k.ver=ver) (hs:k.s=s) (hoff:off+len<=k.rows.length) :
  Pp P o ρ H .top (H.set b (some { k with rows:=k.rows.take off++(RP len zr).take len++k.rows.drop (off+len) })):=by
 intro c a K Q hH hr hxs hK;obtain ⟨callee,args,ts⟩:=cl;simp only at h1 h2 h3;obtain rfl:args = #[x]:=by cases args;simp_all
 obtain rfl:ts = #[t]:=by cases ts;simp_all
 subst h1;have hx1:=hx ▸ hxs x (by rw [ho];simp [Op.operands,Call.operands]);generalize hn:len=n at hK ⊢;generalize hnews:RP n zr=news at hK ⊢;have hrl:∀ (i:Nat) (row:List AV),news[i]? = some row->row.length=s:=λi row h=>by
  rw [<- hnews] at h;have := Sc h;rw [R5] at this;rw [this.2,hzr]
 have hnl0:news.length=n:=by rw [<- hnews,SK]
 have hone:∀ v∈z.cells,v.oneCell'=true:=by
  rw [vU,Array.all_eq_true_iff_forall_mem] at hz1;exact hz1
 generalize hvs:(Builtin.zeroCells z.cells n).toList=vs;have hvl:vs.length=n*s:=by rw [<- hvs,Su,ma,hzs]
 have hvget:∀ i j,i<n->j<s->vs[i*s+j]? = z.cells[j]? := λi j hi hj=>by
  have hfit:i*s+j<n*s:=by
   have : (i+1)*s<=n*s:=RX _ (by omega);rw [RR] at this;omega
  rw [<- hvs,Sg];unfold Builtin.zeroCells;rw [hzs];have := zJ z.cells (n*s) (i*s+j) hfit (by omega);rw [hzs] at this;rw [this,Sd i s,Nat.mul_add_mod,Nat.mod_eq_of_lt hj]
 have hv1:∀ v∈vs,v.oneCell'=true:=λv hm=>by
  obtain ⟨q,hq⟩:=List.getElem?_of_mem hm;have hq':=(ges hq).1;rw [hvl] at hq';have hs0:0<s:=Nat.pos_of_ne_zero λh=>by rw [h,Nat.mul_zero] at hq';omega
  have e1:q=q / s*s+q % s:=by rw [Sd];exact (Nat.div_add_mod q s).symm
  rw [e1,hvget (q / s) (q % s) (Nat.div_lt_of_lt_mul (by rw [Sd];exact hq')) (Nat.mod_lt _ hs0)] at hq;exact hone v (Si hq)
 have hvr:∀ (i:Nat) (row:List AV) (j:Nat) (a:AV),(news.take n)[i]? = some row->row[j]? = some a->∃ u,vs[i*s+j]? = some u/\u.oneCell'=true/\c.rel a u:=λi row j a hi hj=>by
  have hin:i<n:=by
   have := (ges hi).1;rw [RV] at this;omega
  rw [RU,if_pos hin,<- hnews] at hi;have := Sc hi;rw [R5] at this;rw [this.2] at hj;have hjs:j<s:=by rw [<- hzr];exact (ges hj).1
  obtain ⟨u,g1,g2⟩:=hzc c j a hj;exact ⟨u,by rw [hvget i j hin hjs];exact g1,hone u (Si g1),g2⟩
 have hl:c.live b k:=by unfold Cx.live;rw [hH];exact hb
 generalize hux:a.eval x=ux at hx1
 cases hx1 with
 | fr h=>cases h
 | @hs _ _ _ _ _ cap A hbn hcl hcm h0 hh=>
  obtain ⟨cur,fr,hB⟩:=hr.blk b k hl;obtain ⟨fr,rfl,hat,hd⟩:=hB.cells hl (λx hx=>(hh x (hv ▸ hx)).1.trans hs.symm);rw [hv] at hd;obtain ⟨_,_,hA,hcf⟩:=hh _ hd;simp only at hA hcf;have hexec:∀ w',(n=0/\w'=c.w)\/(∃ ad,A=some ad/\0<n/\(storeCells ad vs).run P c.w = .ok () w')->(execOp a.eval o).run P c.w = .ok (.value (.tuple #[])) w':=λw' hw=>by
   have e1:(Builtin.clear_ #[t] o.type #[.slice A len cap]).run P c.w = .ok (.tuple #[]) w':=by
    obtain ⟨inf,h5,h6⟩:=Sa.1 hz;rcases hw with ⟨h0',rfl⟩ | ⟨ad,rfl,hp,hst⟩
    ·rw [hn,h0']
     cases A <;> simp [Builtin.clear_,Sem.run_bind,ax ht]
    obtain ⟨q,rfl⟩:∃ q,n=q+1:=⟨n-1,by omega⟩;rw [hn];simp [Builtin.clear_,Sem.run_bind,ax ht,Hm c.w h5 h6,hvs,hst]
   simp [execOp,ho,resolve,invoke,builtin,hux,e1]
  unfold Oper.wp;rcases Nat.eq_zero_or_pos n with h00 | hpos
  ·-- nothing is copied
   have hv0:vs=[]:=List.eq_nil_of_length_eq_zero (by rw [hvl,h00,SA]);have hk0:({ k with rows:=k.rows.take off++news.take n++k.rows.drop (off+n) }:ABlk)=k:=by
    rw [h00];simp
   rw [hexec c.w (.inl ⟨h00,rfl⟩)];refine hK _ c ?_ hr (Ext.refl c) .top;rw [hk0,CC H b _ hb,hH]
  have h0':0<cap:=by omega
  obtain rfl:=hA h0';have hfit:=hB.fits;have hsp:=hB.pos;have hle:(c.φ b).2+off*s+vs.length<=cur.toList.length:=by
   have h5:(off+len)*s<=k.rows.length*s:=RX _ hoff;have h6:n*s<=len*s:=RX _ (by omega);rw [RR] at h5;have hct:cur.toList.length=cur.size:=Su;rw [hs] at hfit;rw [hvl,hct];omega
  have hst:=ju (P:=P) (c.φ b).1 ((c.φ b).2+off*s) k.ty fr vs 0 cur c.w hat (hB.free fr rfl) (by simpa using hle) hv1;rw [Nat.add_zero] at hst;have hg2:=λq=>Cv cur.toList _ _ hle q;have hs2:=Cw cur.toList _ _ hle;generalize hcs2:(cur.toList.take ((c.φ b).2+off*s)++vs++cur.toList.drop ((c.φ b).2+off*s+vs.length))=ls at *;have hsz2:ls.toArray.size=cur.size:=by simpa using hs2
  have hget:∀ q,ls.toArray[q]? = if (c.φ b).2+off*s<=q/\q<(c.φ b).2+off*s+vs.length then vs[q-((c.φ b).2+off*s)]? else cur[q]? := λq=>by
   rw [List.getElem?_toArray,hg2,Sg (xs:=cur)]
  have hrl2:(k.rows.take off++news.take n++k.rows.drop (off+n)).length=k.rows.length:=by
   simp only [lla,RV,Sj];omega
  have hrow:∀ (i:Nat) (row:List AV),(k.rows.take off++news.take n++k.rows.drop (off+n))[i]? = some row->(off<=i/\i<off+n/\news[i-off]? = some row)\/((i<off\/off+n<=i)/\k.rows[i]? = some row):=λi row h=>by
   have hnl:(news.take n).length=n:=by simp;omega
   have e:=Cv k.rows off (news.take n) (by rw [hnl];omega) i;rw [hnl] at e;rw [e] at h
   split at h
   ·rename_i h2;refine .inl ⟨h2.1,h2.2,?_⟩;rw [RU,if_pos (by omega)] at h;exact h
   rename_i h2;exact .inr ⟨by omega,h⟩
  have hlen2:∀ (i:Nat) (row:List AV),(k.rows.take off++news.take n++k.rows.drop (off+n))[i]? = some row->row.length=k.s:=λi row h=>by
   rcases hrow i row h with ⟨_,_,h2⟩ | ⟨_,h2⟩
   ·rw [hrl _ row h2,hs]
   exact hB.len i row h2
  have hext:=Cx.upd_ext (k:={ k with rows:=k.rows.take off++news.take n++k.rows.drop (off+n) }) (o:=(c.φ b).2) (cs:=ls.toArray) hr hl hB hsz2 (.inl ⟨rfl,rfl,hrl2,rfl⟩);have hrel:=Cx.upd_rel (k:={ k with rows:=k.rows.take off++news.take n++k.rows.drop (off+n) }) (o:=(c.φ b).2) (cs:=ls.toArray) hr hl hB hsz2 rfl hext hsp (by simp only;rw [hrl2,hsz2];exact hfit) hlen2 (λi row j a' h h'=>by
   have hj:j<s:=by
    have := (ges h').1;rw [hlen2 i row h,hs] at this;exact this
   simp only;rw [hget,hs,hvl];rcases hrow i row h with ⟨g1,g2,g3⟩ | ⟨g1,g3⟩
   ·have hf:=uz (s:=s) (show i-off<n by omega) (j:=j+1) hj;have e:i*s=(i-off)*s+off*s:=by
     rw [<- RR]
     congr 1
     omega
    rw [if_pos (by omega)];obtain ⟨u',q1,q2,q3⟩:=hvr (i-off) row j a' (by rw [RU,if_pos (by omega)];exact g3) h';refine ⟨u',?_,q2,q3⟩;rw [<- q1]
    congr 1
    omega
   have hi':=(ges g3).1;rw [if_neg (λhq=>?_)]
   ·have := hB.rel i row j a' g3 h';rw [hs] at this;exact this
   rcases g1 with g1 | g1
   ·have hf:=uz (s:=s) g1 (j:=j+1) hj;omega
   have hf:(off+n)*s<=i*s:=RX _ g1;rw [RR] at hf;omega)
  rw [hexec _ (.inr ⟨_,rfl,hpos,hst⟩)];exact hK _ _ (by rw [<- hH];rfl) hrel hext .top
variable {α:Type} {c:α->List AV} {l:List α} {x y:Operand} {t e:TypeId} {ag:Bool} {w m b ver off len:Nat} {zs:List AV}
def ZrR (zs zr:List AV):Prop:=zr.length=zs.length/\∀ (cx:Cx) (j:Nat) (a a':AV) (v:Value),zs[j]? = some a->zr[j]? = some a'->cx.rel a v->cx.rel a' v
theorem zrE {zs:List AV}:ZrR zs zs:=⟨rfl,λcx j a a' v h h' hr=>by rw [h] at h';obtain rfl:=osl h';exact hr⟩
theorem BQ {β:Type} [Inhabited β] {f:β->List AV} {cx:Cx} {v:Value} (h:cx.rel .nil v):cx.rel (eL f ([]:List β)) v:=by
 obtain rfl:=eB h;exact .fr (.sl (s:=1) (g:=0) (o:=0) (λ_ _ => .bool false) (RO _) (by decide) (λh=>absurd h (by simp)) (λi h=>absurd h (by simp)) (λi j a h=>absurd h (by simp)) (λi j a h=>absurd h (by simp)) (λi j a h=>absurd h (by simp)))
theorem EvA.clearO [Inhabited α] (q:SlT P t e ag w zs m) (hz:ZrR zs (c default)) (hx:ρ x = .hs b ver w off len) (hk:H[b]? = some (bE false ver w e (l.map c))) (ho:off+len<=l.length) :
  EvA P ρ (.call ⟨.builtin .clear,#[x],#[t]⟩) H .top (H.set b (bE false ver w e ((cpy l off (RP len default) len).map c))):=λo ho'=>by
 obtain ⟨z,hz0,hzz⟩:=SJ.1 q.z.z;have hone:m6 z.cells=true:=by
  have := q.z.one;rw [hz0] at this;exact osl this
 have hsz:z.cells.size=w:=by
  have := congrArg List.length hzz;rw [<- q.zl,<- this];simp [dm]
 have h:=Hn (o:=o) (P:=P) (ρ:=ρ) (H:=H) (s:=w) (k:=⟨ver,w,e,l.map c⟩) (zr:=c default) ho' rfl rfl rfl q.u hz0 hone hsz (hz.1.trans q.zl) (λcx j a ha=>by
  have hjl:j<zs.length:=by rw [<- hz.1];exact (ges ha).1
  have hzs:zs[j]? = some zs[j]:=geq hjl;have hju:j<z.cells.size:=by rw [hsz,<- q.zl];exact hjl
  refine ⟨z.cells[j],SN hju,hz.2 cx j _ a _ hzs ha ?_⟩;have hc:=rE cx hone;obtain ⟨u,g1,g2⟩:=hc.get (j:=j) (a:=zs[j]) (by rw [hzz];exact hzs);rw [SN hju] at g1;obtain rfl:=osl g1
  first | exact g2 | exact g2.2) hx hk rfl rfl (by simpa using ho)
 unfold cpy;rw [if_pos ho];simpa [bE,Sy,List.map_drop] using h
end
section
variable {P:Program} {H:AH}
theorem cg.wown {f:FuncId} {as0 PO:List AV} {b:Nat} {g:Bool} {ver w w':Nat} {ty ty':TypeId} {xk rows:List (List AV)} {mk:AV->AV} {n:Nat} (h:cg P f as0 [bE g ver w ty xk] (Fb w' ty' mk n rows 0 [])) (hb:H[b]? = some (bE g ver w ty xk))
  (has:RenL (λc i=>[b][i]? = some c) PO as0) (hk0:∀ r∈xk,∀ a∈r,isF 9 a=true) (hk:∀ r∈rows,∀ a∈r,isF 9 a=true) (hmk:∀ (S:Nat->Nat->Prop) (a b:AV),Ren S a b->Ren S (mk a) (mk b)) :
  cg P f PO H (λr G=>∃ g' xm,(g'=true->n=0)/\r=mk (hS g' b xm w' n)/\G=H.set b (bE g' xm w' ty' rows)):=by
 have hlt:b<H.length:=(ges hb).1;refine h.frameN [b] (by simp) rfl (λi c hi=>?_) has.spec.1 has.spec.2 λr0 G0 ⟨g',xm,hg,hr0,hG0⟩ => ?_
 ·match i with
  | 0=>
   obtain rfl:b=c:=by simpa using hi
   cases g with
   | true=>exact .inl ⟨hb,rfl⟩
   | false=>exact .inr ⟨_,_,hb,rfl,.ofF hk0⟩
  | i+1=>simp at hi
 subst hr0 hG0;have key:∀ i c,sg [b] H.length i c->i<1->c=b:=λi c hs hi=>by
  rcases hs with hs | ⟨hs,_⟩
  ·obtain rfl:i=0:=by omega
   simpa using hs.symm
  simp at hs;omega
 refine ⟨_,_,⟨by simp,by simp,λi c hi hs hn=>?_,λi c k0 hs hk0=>?_,λc hc hne=>RS (λe=>hne (by simp [e]))⟩,hmk _ _ _ ?_,⟨g',xm,hg,rfl,rfl⟩⟩
 ·simp only [SB,List.length_singleton] at hi;obtain rfl:=key i c hs hi;obtain rfl:i=0:=by omega
  simp only [SB,RN,sie] at hn;rw [RZ hlt,hn]
 ·have hi:i<1:=by
   have := (ges hk0).1;simpa using this
  obtain rfl:=key i c hs hi;obtain rfl:i=0:=by omega
  simp only [SB,RN,sie] at hk0;refine ⟨k0,by rw [RZ hlt,hk0],.ofF λr hr a ha=>?_⟩
  cases g' with
  | true=>cases hk0
  | false=>
   obtain rfl:=osl hk0;exact hk r hr a ha
 cases g' with
 | true=>exact .nil
 | false=>exact .hs (.inl rfl)
theorem Jr {S:Nat->Nat->Prop} {g:Bool} {i j v w n n':Nat} (h:S i j) (hn:n=n'):Ren S (hS g i v w n) (hS g j v w n'):=hn ▸ lq h
variable {nt b0:Nat} {Q:Exit->Env->AH->Prop} {en:List (Nat×AV)} {ops:Array Oper} {l:List Oper} {d:Tmp} {t:TypeId} {pos:String} {af:Array Edge}
theorem oGW {cl:Call} {f:Operand} {g:FuncId} {qz as0:List AV} {H:AH} {b w0 ver w:Nat} {g0:Bool} {ty0 ty:TypeId} {xk rows:List (List AV)} {mk:AV->AV} {n:Nat} (hc:cl.callee = .value f) (hf:rho (ai en) f = .fn (.func g) qz)
  (h:cg P g as0 [bE g0 ver w0 ty0 xk] (Fb w ty mk n rows 0 [])) (hb:H[b]? = some (bE g0 ver w0 ty0 xk)) (has:RenL (λc i=>[b][i]? = some c) (cl.args.toList.map (rho (ai en))++qz) as0) (hk0:∀ r∈xk,∀ a∈r,isF 9 a=true) (hk:∀ r∈rows,∀ a∈r,isF 9 a=true)
  (hmk:∀ (S:Nat->Nat->Prop) (a b:AV),Ren S a b->Ren S (mk a) (mk b)) (k:∀ g' xm,(g'=true->n=0)->TO P nt b0 ops l Q (ai ((d,mk (hS g' b xm w n))::en)) (H.set b (bE g' xm w ty rows))):TO P nt b0 ops (⟨some d,.call cl,t,pos,af,none⟩::l) Q (ai en) H:=by
 exact TO.runG (.free rfl) (CG rfl hc hf (h.wown hb has hk0 hk hmk)) λr' H' ⟨g',xm,hg,hr,hH⟩=>by
  subst hr hH;exact k g' xm hg
end
section
variable {P:Program} {ρ:Operand->AV} {H:AH} {x y z:Operand} {t e keyT:TypeId} {ag:Bool} {w j b kn:Nat}
variable {K:Type} [DecidableEq K] {kc:K->List Value} {l:List (K×Bool)}
omit [DecidableEq K] in
end
section
variable {P:Program} {o:Oper} {ρ ρ':Operand->AV} {H:AH} {K K':AV->AH->Prop}
theorem OpG.congr {R:AV->AH->Prop} (h:OpG P o ρ H R) (he:∀ x∈o.op.operands,ρ x=ρ' x):OpG P o ρ' H R:=
 λc a K Q hH hr hxs hK=>h c a K Q hH hr (λx hx=>by rw [he x hx];exact hxs x hx) hK
theorem OpG.mono {R R':AV->AH->Prop} (h:OpG P o ρ H R) (hR:∀ r G,R r G->R' r G):OpG P o ρ H R':=
 λc a K Q hH hr hxs hK=>h c a K Q hH hr hxs λv c' r hr1 hr2 hr3 hr4=>hK v c' r (hR _ _ hr1) hr2 hr3 hr4
theorem Pp.opG {r:AV} {H':AH} (h:Pp P o ρ H r H'):OpG P o ρ H λr' G=>r'=r/\G=H':=
 λc a K Q hH hr hxs hK=>h c a K Q hH hr hxs λv c' hc hr2 hr3 hr4=>hK v c' r ⟨rfl,hc⟩ hr2 hr3 hr4
abbrev Xc:=Bool×List Nat
def agr (F:List Nat) (G H:AH):Prop:=∀ b∈F,G[b]? = H[b]?
theorem agr.a0 {b:Nat} {F:List Nat} {G H:AH} (h:agr (b::F) G H) {x:Option ABlk} (hx:H[b]? = some x):G[b]? = some x:=(h b (by simp)).trans hx
theorem agr.a1 {b c:Nat} {F:List Nat} {G H:AH} (h:agr (c::b::F) G H) {x:Option ABlk} (hx:H[b]? = some x):G[b]? = some x:=(h b (by simp)).trans hx
theorem agr.a2 {a b c:Nat} {F:List Nat} {G H:AH} (h:agr (a::c::b::F) G H) {x:Option ABlk} (hx:H[b]? = some x):G[b]? = some x:=(h b (by simp)).trans hx
def wA (W:List Nat) (H H':AH):Prop:=∀ b,b<H.length->b∉W->H'[b]? = H[b]?
theorem sI {b:Nat} {X:Option ABlk}:wA [b] H (H.set b X):=λc _ hc=>RS λe=>hc (by simp [e])
theorem uC {L:AH}:wA [] H (H++L):=λ_ hb _=>gal hb
def Au (P:Program) (o:Oper) (ρ:Operand->AV) (H:AH) (b:Xc) (K:AV->AH->Prop):Prop:=match b.1 with
 | false=>∃ r,(∀ c∈b.2,c<H.length)/\(∀ G,agr b.2 G H->Pp P o ρ G r G)/\K r H
 | true=>OpG P o ρ H λr H'=>wA b.2 H H'/\K r H'
theorem Au.mono {b:Xc} (h:Au P o ρ H b K) (hK:∀ r G,K r G->K' r G):Au P o ρ H b K':=by
 obtain ⟨b,F⟩:=b
 cases b with
 | false=>
  obtain ⟨r,h0,h1,h2⟩:=h;exact ⟨r,h0,h1,hK _ _ h2⟩
 | true=>
  show OpG P o ρ H λr H'=>wA F H H'/\K' r H';exact OpG.mono (R:=λr H'=>wA F H H'/\K r H') h λr G hr=>⟨hr.1,hK _ _ hr.2⟩
theorem Au.congr {b:Xc} (h:Au P o ρ H b K) (he:∀ x∈o.op.operands,ρ x=ρ' x):Au P o ρ' H b K:=by
 obtain ⟨b,F⟩:=b
 cases b with
 | false=>
  obtain ⟨r,h0,h1,h2⟩:=h;exact ⟨r,h0,λG hG=>(h1 G hG).congr he,h2⟩
 | true=>
  show OpG P o ρ' H λr H'=>wA F H H'/\K r H';exact OpG.congr (R:=λr H'=>wA F H H'/\K r H') h he
theorem Au.opG {b:Xc} (h:Au P o ρ H b K):OpG P o ρ H K:=by
 obtain ⟨b,F⟩:=b
 cases b with
 | false=>
  obtain ⟨r,_,h1,h2⟩:=h;refine (Pp.opG (h1 H λ_ _=>rfl)).mono ?_;rintro r' G ⟨rfl,rfl⟩;exact h2
 | true=>exact OpG.mono (R:=λr H'=>wA F H H'/\K r H') h λr G hr=>hr.2
def Js (a b:Xc):Bool := !b.1||a.2.all λx => !b.2.contains x
def Jt (P:Program) (ops:Array Oper) (cls:Nat->Xc) (Q:Env->AH->Prop):Nat->Array Bool->Env->AH->Prop
 | 0,listed,e,H=>Region.ready .any ops listed=[]/\Q e H
 | fuel+1,listed,e,H=>(Region.ready .any ops listed=[]->Q e H) /\
  ∀ i∈Region.ready .any ops listed,∃ o,ops[i]? = some o/\Au P o (rho e) H (cls i) λr H'=>Jt P ops cls Q fuel (listed.setIfInBounds i true) (rB e o.dst r) H'
theorem Gb {ops:Array Oper} {cls:Nat->Xc} {Q:Env->AH->Prop} {i:Nat} {oi:Oper} {r:AV} {F:List Nat} (hi:ops[i]? = some oi) (hci:cls i=(false,F)) :
  ∀ (fuel:Nat) (listed:Array Bool) (e:Env) (H:AH),
   (∀ (j:Nat) (oj:Oper),ops[j]? = some oj->j≠i->listed.getD j true=false->(∀ ed∈oj.after,Region.binds .any ed=true->ed.on≠i)->oi.apart ops oj=true/\Js (cls i) (cls j)=true) ->
   i∈Region.ready .any ops listed->(∀ c∈F,c<H.length)->(∀ G,agr F G H->Pp P oi (rho e) G r G)->Jt P ops cls Q fuel (listed.setIfInBounds i true) (rB e oi.dst r) H->Jt P ops cls Q (fuel+1) listed e H:=by
 intro fuel
 induction fuel with
 | zero=>
  intro listed e H _ hr hF hy hA;refine ⟨λh=>(by rw [h] at hr;cases hr),λj hj=>?_⟩
  by_cases hji:j=i
  ·subst hji;exact ⟨oi,hi,by rw [hci];exact ⟨r,hF,hy,hA⟩⟩
  have := ready_mono hj hji;rw [hA.1] at this
  cases this
 | succ fuel ih=>
  intro listed e H hfree hr hF hy hA;refine ⟨λh=>(by rw [h] at hr;cases hr),λj hj=>?_⟩
  by_cases hji:j=i
  ·subst hji;exact ⟨oi,hi,by rw [hci];exact ⟨r,hF,hy,hA⟩⟩
  obtain ⟨oj,hoj,hsj⟩:=hA.2 j (ready_mono hj hji);obtain ⟨hjun,oj',yN,hall⟩:=mem_ready.1 hj;rw [hoj] at yN;injection yN with yN;subst yN;have hnot:∀ ed∈oj.after,Region.binds .any ed=true->ed.on≠i:=λed he hb heq=>by
   have h1:=hall ed he hb;have h0:=(mem_ready.1 hr).1;rw [heq] at h1;rcases R6 i listed.size with h' | h'
   ·simp [h'] at h0 h1;rw [h0] at h1;cases h1
   simp [Se h'] at h1
  obtain ⟨hap,hcm⟩:=hfree j oj hoj hji hjun hnot;obtain ⟨h1,h2,h3⟩:=Oper.apart_spec hap;have ej:=rF (e:=e) (r:=r) h1;have hfree':∀ (k:Nat) (ok:Oper),ops[k]? = some ok->k≠i->(listed.setIfInBounds j true).getD k true=false->(∀ ed∈ok.after,Region.binds .any ed=true->ed.on≠i)->oi.apart ops ok=true/\Js (cls i) (cls k)=true:=λk ok hk hki hun hno=>by
   refine hfree k ok hk hki ?_ hno
   by_cases hjk:j=k
   ·subst hjk;exact hjun
   rw [getD_set_ne true hjk] at hun;exact hun
  have hsj':=hsj.congr ej;have go:∀ q Hj,(∀ c∈F,c<Hj.length)->(∀ c∈F,Hj[c]? = H[c]?)->Jt P ops cls Q fuel ((listed.setIfInBounds i true).setIfInBounds j true) (rB (rB e oi.dst r) oj.dst q) Hj->Jt P ops cls Q (fuel+1) (listed.setIfInBounds j true) (rB e oj.dst q) Hj:=λq Hj hF' hHj hAj=>by
   have ei:=rF (e:=e) (oi:=oj) (r:=q) h3;refine ih (listed.setIfInBounds j true) (rB e oj.dst q) Hj hfree' (ready_mono hr (Ne.symm hji)) hF' (λG hG=>(hy G λc hc=>(hG c hc).trans (hHj c hc)).congr λx hx=>(ei x hx).symm) ?_;rw [SD _ _ hji,ww (λd hd=>λhd'=>h2 d (by simpa using hd') (by simpa using hd))];exact hAj
  refine ⟨oj,hoj,?_⟩;rw [hci] at hcm;generalize cls j=cj at hsj' hcm ⊢;obtain ⟨b,W⟩:=cj
  cases b with
  | false=>
   obtain ⟨q,q0,q1,q2⟩:=hsj';exact ⟨q,q0,q1,go q H hF (λ_ _=>rfl) q2⟩
  | true=>
   simp only [Js,Bool.not_true,Bool.false_or,RQ,Bool.not_eq_true',Sn,decide_eq_false_iff_not] at hcm;show OpG P oj (rho e) H λr1 H1=>wA W H H1/\Jt P ops cls Q (fuel+1) (listed.setIfInBounds j true) (rB e oj.dst r1) H1;refine OpG.mono (R:=λr1 H1=>wA W H H1/\Jt P ops cls Q fuel ((listed.setIfInBounds i true).setIfInBounds j true) (rB (rB e oi.dst r) oj.dst r1) H1) hsj' λq Hj ⟨k1,k2⟩=>⟨k1,go q Hj (λc hc=>?_) (λc hc=>k1 c (hF c hc) (hcm c hc)) k2⟩;have := k1 c (hF c hc) (hcm c hc);rw [geq (hF c hc)] at this;exact (ges this).1
def MM (ops:Array Oper) (cls:Nat->Xc):List Nat->Array Bool->Bool
 | [],listed=>(Region.ready .any ops listed).isEmpty
 | i::l,listed=>(match ops[i]? with
  | some oi=>if (cls i).1 then Region.ready .any ops listed==[i] else (Region.ready .any ops listed).contains i&&(RJ ops.size).all λj=>j==i||listed.getD j true||(match ops[j]? with
   | some oj=>(oj.after.any λed=>Region.binds .any ed&&ed.on==i)||(oi.apart ops oj&&Js (cls i) (cls j))
   | none=>true)
  | none=>false)&&MM ops cls l (listed.setIfInBounds i true)
def TX (P:Program) (ops:Array Oper) (cls:Nat->Xc):List Nat->(Env->AH->Prop)->Env->AH->Prop
 | [],K,e,H=>K e H
 | i::l,K,e,H=>∃ o,ops[i]? = some o/\Au P o (rho e) H (cls i) λr H'=>TX P ops cls l K (rB e o.dst r) H'
theorem EC {ops:Array Oper} {cls:Nat->Xc} {Q:Env->AH->Prop}:∀ (l:List Nat) (listed:Array Bool) (e:Env) (H:AH),MM ops cls l listed=true->TX P ops cls l Q e H->Jt P ops cls Q l.length listed e H
 | [],listed,e,H,hc,h=>⟨by simpa [MM] using hc,h⟩
 | i::l,listed,e,H,hc,h=>by
  obtain ⟨oi,hi,hs⟩:=h;simp only [MM,hi,bae] at hc;obtain ⟨hc1,hc2⟩:=hc;generalize hci:cls i=ci at hc1 hs;obtain ⟨b,F⟩:=ci
  cases b with
  | true=>
   simp only [if_true,beq_iff_eq] at hc1;refine ⟨λhn=>(by rw [hc1] at hn;cases hn),λj hj=>?_⟩;rw [hc1,List.mem_singleton] at hj;subst hj;exact ⟨oi,hi,by rw [hci];exact Au.mono (b:=(true,F)) hs λr G hr=>EC l _ _ _ hc2 hr⟩
  | false=>
   obtain ⟨r,hF,hy,hK⟩:=hs;simp only [Bool.false_eq_true,if_false,bae,Sn,dte,RQ,List.mem_range] at hc1;refine Gb hi hci l.length listed e H (λj oj hj hne hun hno=>?_) hc1.1 hF hy (EC l _ _ _ hc2 hK);have hjs:j<ops.size:=(Sf.1 hj).1;have := hc1.2 j hjs;simp only [hj,hun,R4,beq_iff_eq,hne,false_or,Bool.false_eq_true,bae] at this;rw [hci];rcases this with h1 | h1
   ·rw [Sk] at h1;obtain ⟨ed,h2,h3⟩:=h1;simp only [bae,beq_iff_eq] at h3;exact absurd h3.2 (hno ed h2 h3.1)
   exact h1
theorem BR {nt:Nat} {ops:Array Oper} {cls:Nat->Xc} {Q:Exit->Env->AH->Prop} (hd:FZ nt ops.toList=true) (hg:ops.all (λo=>o.guard.isNone)=true):∀ (fuel:Nat) (listed:Array Bool) (e:Env) (H:AH),Jt P ops cls (Q .normal) fuel listed e H ->
  ∀ (c c0:Cx) (a:Act),c.H=H->Ext c0 c->SRel c nt e a->wpAny P .any ops (Mh nt c0 Q) fuel listed a c.w
 | 0,listed,e,H,h,c,c0,a,hH,hx,hs=>⟨h.1,trivial,c,e,rfl,hx,hs,hH ▸ h.2⟩
 | fuel+1,listed,e,H,h,c,c0,a,hH,hx,hs=>by
  refine ⟨λhr=>⟨trivial,c,e,rfl,hx,hs,hH ▸ h.1 hr⟩,λi hi=>?_⟩;obtain ⟨o,ho,hst⟩:=h.2 i hi;have hm:o∈ops.toList:=by rw [Array.mem_toList_iff];exact Si ho
  have hgn:o.guard=none:=by
   rw [Array.all_eq_true] at hg;obtain ⟨hlt,rfl⟩:=Sf.1 ho;simpa using hg i hlt
  have hw:Region.wanted o (yielded ops a.tmps)=true:=by simp [Region.wanted,hgn]
  unfold wpOp;simp only [ho];rw [if_pos hw];refine .inl (hst.opG c a _ _ hH hs.heap (λx _=>hs.rho x) λv c' r hA hr' hx' hv=>?_);exact BR hd hg fuel _ _ _ hA c' c0 _ rfl (hx.trans hx') (hs.put o.dst (nX hd hm) hx' hr' hv)
end
theorem EvA.mkZR {P:Program} {ρ:Operand->AV} {H:AH} {x y:Operand} {t e:TypeId} {ag:Bool} {w m:Nat} {zs:List AV} {a b:Int} {α:Type} (bl:Nat) (v:α) (q:SlT P t e ag w zs m) (hx:ρ x = .v (.int .i64 a)) (hy:ρ y = .v (.int .i64 b)) (hq:0<=a/\a<=b/\b*(m:Int)<=140737488355328/\b<=140737488355328) (hab:a=b) (hF:zs.all (isF 9)=true) (hb:H[bl]? = some none) :
  EvA P ρ (.makeSlice t x y) H (hS false bl 0 w (RP a.toNat v).length) (H.set bl (bE false 0 w e (RP a.toNat zs))):=λo ho=>by
 subst hab;rw [SK];have h:=K5 (H:=H) q ho hx hy hq;refine h.at_ hb (λr hr z hz=>?_) (.inl ⟨_,rfl,rfl⟩);rw [R5] at hr;rw [hr.2] at hz;exact RQ.1 hF z hz
theorem Pt.mkF0 {P:Program} {ρ:Operand->AV} {t e:TypeId} {α:Type} [Inhabited α] {f:α->List AV} {ag:Bool} {w m:Nat} {zs:List AV} {parts:Array (Nat×Operand)} (q:SlT P t e ag w zs m) (hr:l7 (parts.toList.map λp=>(ρ p.2).cells)=some [[.nil]]) (hn:(Nat.blt 0 w&&RL (1*w) 16777216&&(parts.toList.map (·.1)==RJ 1))=true) (hw:w=1) :
  Pt P ρ (.buildSlice t 1 parts) (eL (cL f) [([]:List α)]):=by
 simp only [bae,beq_iff_eq] at hn;have hz:=Jp q.z (q.zl.trans q.ty.cells.symm);refine .newF ⟨0,P.cellsOf e,e,[[.nil]]⟩ (λb => .hs b 0 (P.cellsOf e) 0 1) (λo ho G=>l9 ho q.u hr (by rw [q.ty.cells];exact nlb hn.1.1) (by rw [q.ty.cells];exact nlb hn.1.2) hn.2 hz q.z.one (λrow hrow=>by
  obtain rfl:=List.mem_singleton.1 hrow;rw [q.ty.cells,hw]
  rfl)) λm G hG=>?_
 show Fz _ _ _ (.sl 1 _);refine .hs (k:=⟨0,P.cellsOf e,e,[[.nil]]⟩) (RO _) (by rw [<- hG];simp) rfl rfl (by simp) (λi r hi hr=>?_) (λi r j c d hi hr hc hd=>?_)
 ·obtain rfl:i=0:=by omega
  obtain rfl:=osl hr
  rfl
 obtain rfl:i=0:=by omega
 obtain rfl:=osl hr
 match j with
 | 0=>
  obtain rfl:=osl hc;obtain rfl:=osl hd;exact .nil0
 | j+1=>simp at hc
section
variable {P:Program} {nt b0:Nat} {Q:Exit->Env->AH->Prop} {e:Env} {H H':AH} {r:AV}
theorem T.drawX {i:Nat} {ops:Array Oper} (ord:List Nat) (cls:Nat->Xc) (hm:P.follows .mixedOrders=true) (hg:ops.all (λo=>o.guard.isNone)=true) (hc:(MM ops cls ord (Ss ops.size false)&&(ord.length==ops.size))=true) (h:TX P ops cls ord (Q .normal) e H):T P nt b0 (.region i ops true) Q e H:=by
 intro hok c c0 a hH hb hx hs;simp only [codeOk] at hok;simp only [bae,beq_iff_eq] at hc;refine wp_region_any hm ?_;have hlex:=EC ord (Ss ops.size false) e H hc.1 h;have := BR hok hg ord.length _ e H hlex c.drew c0 a hH (hx.trans c.drew_ext) ⟨hs.size,hs.defers,λt=>(hs.rel t).ext hs.heap c.drew_ext,Cx.drew_rel hs.heap⟩;rw [hc.2] at this;exact this
variable {d:Tmp} {op:Op} {ty:TypeId} {pos:String} {af:Array Edge} {en:List (Nat×AV)} {cls:Nat->Xc} {ops:Array Oper} {i:Nat} {K:Env->AH->Prop} {l:List Nat}
theorem TX.nil (h:K e H):TX P ops cls [] K e H:=h
theorem xN (h0:ops[i]? = some ⟨some d,op,ty,pos,af,none⟩) (hc:cls i=(false,[])) (hv:Pt P (rho (ai en)) op r) (h:TX P ops cls l K (ai ((d,r)::en)) H):TX P ops cls (i::l) K (ai en) H:=
 ⟨_,h0,by rw [hc];exact ⟨r,λ_ h=>(by cases h),λG _=>hv _ rfl G,h⟩⟩
theorem xR (F:List Nat) (h0:ops[i]? = some ⟨some d,op,ty,pos,af,none⟩) (hc:cls i=(false,F)) (hb:F.all (λb=>Nat.blt b H.length)=true) (hv:∀ G,agr F G H->EvA P (rho (ai en)) op G r G) (h:TX P ops cls l K (ai ((d,r)::en)) H):TX P ops cls (i::l) K (ai en) H:=
 ⟨_,h0,by rw [hc];exact ⟨r,λb hm=>nlb (RQ.1 hb b hm),λG hG=>hv G hG _ rfl,h⟩⟩
theorem xT {W:List Nat} {o:Oper} {R:AV->AH->Prop} {e:Env} (h0:ops[i]? = some o) (hc:cls i=(true,W)) (hv:OpG P o (rho e) H R) (hk:∀ r G,R r G->wA W H G/\TX P ops cls l K (rB e o.dst r) G):TX P ops cls (i::l) K e H:=by
 refine ⟨o,h0,?_⟩;rw [hc];exact OpG.mono (R':=λr H'=>wA W H H'/\TX P ops cls l K (rB e o.dst r) H') hv hk
theorem xA {W:List Nat} (h0:ops[i]? = some ⟨some d,op,ty,pos,af,none⟩) (hc:cls i=(true,W)) (hv:EvA P (rho (ai en)) op H r H') (hk:wA W H H') (h:TX P ops cls l K (ai ((d,r)::en)) H'):TX P ops cls (i::l) K (ai en) H:=
 xT h0 hc (Pp.opG (hv ⟨some d,op,ty,pos,af,none⟩ rfl)) λr' G hG=>by obtain ⟨e1,e2⟩:=hG;subst e1 e2;exact ⟨hk,h⟩
theorem xV {W:List Nat} (h0:ops[i]? = some ⟨none,op,ty,pos,af,none⟩) (hc:cls i=(true,W)) (hv:EvA P (rho (ai en)) op H r H') (hk:wA W H H') (h:TX P ops cls l K (ai en) H'):TX P ops cls (i::l) K (ai en) H:=
 xT h0 hc (Pp.opG (hv ⟨none,op,ty,pos,af,none⟩ rfl)) λr' G hG=>by obtain ⟨e1,e2⟩:=hG;subst e1 e2;exact ⟨hk,h⟩
end
def EqS (a b:AV):Prop:=∀ (w:World) (fz:Nat->Prop) (v:Value),FRel w fz a v->FRel w fz b v
def CJ:List AV->List AV->Prop
 | [],[]=>True
 | a::r,b::q=>EqS a b/\CJ r q
 | _,_=>False
theorem EqS.refl (a:AV):EqS a a:=λ_ _ _ h=>h
theorem CJ.refl:∀ r:List AV,CJ r r
 | []=>trivial
 | a::r=>⟨EqS.refl a,CJ.refl r⟩
theorem CJ.len:∀ {r q:List AV},CJ r q->r.length=q.length
 | [],[],_=>rfl
 | a::r,b::q,h=>by rw [llc,llc,CJ.len h.2]
 | [],_::_,h=>h.elim
 | _::_,[],h=>h.elim
theorem CJ.get:∀ {r q:List AV},CJ r q->∀ {j:Nat} {b:AV},q[j]? = some b->∃ a,r[j]? = some a/\EqS a b
 | [],[],_,j,b,h=>by simp at h
 | a::r,b::q,h,0,c,hc=>by
  simp only [RN,sie] at hc;subst hc;exact ⟨a,rfl,h.1⟩
 | a::r,b::q,h,j+1,c,hc=>by
  simp only [RY] at hc ⊢;exact h.2.get hc
 | [],_::_,h,_,_,_=>h.elim
 | _::_,[],h,_,_,_=>h.elim
theorem EqS.sl {n:Nat} {row row':Nat->List AV} (he:∀ i,i<n->CJ (row i) (row' i)):EqS (.sl n row) (.sl n row'):=λw fz v h=>by
 cases h with
 | @sl _ cap s g o _ a us hc hm ha hs hu h1 h3=>
  refine .sl (s:=s) (g:=g) (o:=o) us hc hm ha (λi hi=>?_) (λi j b hi hj=>?_) (λi j b hi hj=>?_) (λi j b hi hj=>?_)
  ·rw [<- (he i hi).len];exact hs i hi
  ·obtain ⟨a',ha',_⟩:=(he i hi).get hj;exact hu i j a' hi ha'
  ·obtain ⟨a',ha',_⟩:=(he i hi).get hj;exact h1 i j a' hi ha'
  obtain ⟨a',ha',e⟩:=(he i hi).get hj;exact e _ _ _ (h3 i j a' hi ha')
theorem EqS.fp {row row':List AV} (he:CJ row row') {j:Nat}:EqS (.fp row j) (.fp row' j):=λw fz v h=>by
 cases h with
 | fp us hg hlt hu h1 h3=>
  refine .fp us hg hlt (λj b hj=>?_) (λj b hj=>?_) (λj b hj=>?_)
  ·obtain ⟨a',ha',_⟩:=he.get hj;exact hu j a' ha'
  ·obtain ⟨a',ha',_⟩:=he.get hj;exact h1 j a' ha'
  obtain ⟨a',ha',e⟩:=he.get hj;exact e _ _ _ (h3 j a' ha')
theorem qd {c:Cx} {row row':List AV} {v:Value} {j:Nat} (he:CJ row row') (h:c.rel (.fp row j) v):c.rel (.fp row' j) v := .fr (EqS.fp he _ _ _ (sZ h))
theorem EqS.eL {α β:Type} [Inhabited α] [Inhabited β] {f:α->List AV} {g:β->List AV} {i:α->β} (h:∀ x,CJ (f x) (g (i x))) (l:List α):EqS (eL f l) (eL g (l.map i)):=by
 unfold Go.Proofs.YtpkhamajimidnaaGreatDoor.eL;rw [llm];refine .sl λk hk=>?_;have e1:l.getD k default=l[k]:=by rw [gdq,geq hk];rfl
 have e2:(l.map i).getD k default=i l[k]:=by rw [gdq,R8,geq hk];rfl
 rw [e1,e2];exact h _
theorem row_in {α:Type} [Inhabited α] {f:α->List AV} {r:List α->Nat->List AV} (h0:∀ x l,r (x::l) 0=f x) (h1:∀ x l i,r (x::l) (i+1)=r l i):∀ (l:List α) (i:Nat),i<l.length->r l i=f (l.getD i default)
 | [],i,h=>by simp at h
 | x::l,0,_=>h0 x l
 | x::l,i+1,h=>by
  rw [h1,row_in h0 h1 l i (by simpa using h)]
  rfl
theorem EqS.slr {α:Type} [Inhabited α] {f:α->List AV} {r:List α->Nat->List AV} (h0:∀ x l,r (x::l) 0=f x) (h1:∀ x l i,r (x::l) (i+1)=r l i) (l:List α):EqS (.sl l.length (r l)) (Go.Proofs.YtpkhamajimidnaaGreatDoor.eL f l):=
 .sl λi hi=>by rw [row_in h0 h1 l i hi];exact CJ.refl _
theorem EqS.slr' {α:Type} [Inhabited α] {f:α->List AV} {r:List α->Nat->List AV} (h0:∀ x l,r (x::l) 0=f x) (h1:∀ x l i,r (x::l) (i+1)=r l i) (l:List α):EqS (Go.Proofs.YtpkhamajimidnaaGreatDoor.eL f l) (.sl l.length (r l)):=
 .sl λi hi=>by rw [row_in h0 h1 l i hi];exact CJ.refl _
theorem zrC {a a':AV} {zs zr:List AV} (h:∀ (cx:Cx) (v:Value),cx.rel a v->cx.rel a' v) (t:ZrR zs zr):ZrR (a::zs) (a'::zr):=⟨by rw [llc,llc,t.1],λcx j b b' v hb hb' hr=>by
 match j with
 | 0=>
  obtain rfl:=osl hb;obtain rfl:=osl hb';exact h cx v hr
 | j+1=>exact t.2 cx j b b' v (by simpa using hb) (by simpa using hb') hr⟩
section
variable {P:Program} {ρ:Operand->AV} {x:Operand} {t e:TypeId} {ag:Bool}
theorem Pt.slG {α:Type} [Inhabited α] {c:α->List AV} (l:List α) {n w:Nat} {row:List AV} (hu:P.underlying t=some (.array n e)) (ty:TyF P e ag w) (hx:ρ x = .fp row 0) (hl:l.length=n) (hn:(RL n 16777216)=true) (hr:row.length=n*w/\∀ i,i<n->(row.drop (i*w)).take w=c (l.getD i default)) :
  Pt P ρ (.slice t x none none none) (eL c l):=by
 have hn':=nlb hn;have key:Pt P ρ (.slice t x none none none) (.sl n (λi=>(row.drop (0+i*w)).take w)) := .mk λK hK=>by
  show xn P ρ (.slice t x none none none) K;simp only [xn,uN,hu,hx,Option.map_none];show (0<=(0:Int)/\(0:Int)<=(n:Int)/\(n:Int)<=(n:Int)/\0+n*P.cellsOf e<=row.length/\(P.info? e).isSome=true/\n<=9223372036854775807)/\_;rw [ty.cells];exact ⟨⟨by omega,by omega,by omega,by omega,ty.info,by omega⟩,hK⟩
 refine key.res λC v hv=>?_;unfold Go.Proofs.YtpkhamajimidnaaGreatDoor.eL;rw [hl];exact DD (λi hi=>by rw [Nat.zero_add];exact hr.2 i hi) hv
end
section
variable {P:Program} {ρ:Operand->AV} {H:AH}
end
def zL:List ByteArray:=[(⟨#[112,111]⟩:ByteArray),(⟨#[108,111,99]⟩:ByteArray),(⟨#[101,120,116]⟩:ByteArray),(⟨#[114,102]⟩:ByteArray),(⟨#[99,111]⟩:ByteArray),(⟨#[102,114]⟩:ByteArray),(⟨#[102,101,110,99,101]⟩:ByteArray),(⟨#[119,114]⟩:ByteArray),(⟨#[119,119]⟩:ByteArray),(⟨#[105,100]⟩:ByteArray)]
def OW:List AV:=[St (⟨#[112,111]⟩:ByteArray),St (⟨#[108,111,99]⟩:ByteArray),St (⟨#[101,120,116]⟩:ByteArray),St (⟨#[114,102]⟩:ByteArray),St (⟨#[99,111]⟩:ByteArray),St (⟨#[102,114]⟩:ByteArray),St (⟨#[102,101,110,99,101]⟩:ByteArray),St (⟨#[119,114]⟩:ByteArray),St (⟨#[119,119]⟩:ByteArray),St (⟨#[105,100]⟩:ByteArray)]
theorem Ju:OW.length=10*1/\∀ i,i<10->(OW.drop (i*1)).take 1=cS (zL.getD i default):=⟨rfl,λi h=>by
 match i,h with
 | 0,_=>rfl
 | 1,_=>rfl
 | 2,_=>rfl
 | 3,_=>rfl
 | 4,_=>rfl
 | 5,_=>rfl
 | 6,_=>rfl
 | 7,_=>rfl
 | 8,_=>rfl
 | 9,_=>rfl
 | q+10,h=>exact absurd h (Nat.not_lt.2 (Nat.le_add_left 10 q))⟩
structure Px where
 Op:Int
 Loc:Int
 Reg:Int
 Val:Int
instance:Inhabited Px:=⟨⟨default,default,default,default⟩⟩
def Px.c (x:Px):List AV:=[I x.Op,I x.Loc,I x.Reg,I x.Val]
theorem Px.len (x:Px):(Px.c x).length=4:=rfl
theorem Px.isF (x:Px):(Px.c x).all (isF 9)=true:=rfl
structure Py where
 From:LI
 Order:LL
instance:Inhabited Py:=⟨⟨default,default⟩⟩
def Py.c (x:Py):List AV:=[eL cI x.From,eL (cL cI) x.Order]
theorem Py.len (x:Py):(Py.c x).length=2:=rfl
theorem Py.isF (x:Py):(Py.c x).all (isF 9)=true:=rfl
structure Pz where
 Thread:Int
 Index:Int
 Loc:Int
 Reads:Bool
 az:Bool
instance:Inhabited Pz:=⟨⟨default,default,default,default,default⟩⟩
def Pz.c (x:Pz):List AV:=[I x.Thread,I x.Index,I x.Loc,Bo x.Reads,Bo x.az]
theorem Pz.len (x:Pz):(Pz.c x).length=5:=rfl
theorem Pz.isF (x:Pz):(Pz.c x).all (isF 9)=true:=rfl
structure aB where
 p:List (List Px)
 x:Py
 events:List Pz
 values:LI
 busy:List Bool
structure XV_impl_valuer where
 p:List (List Px)
 x:Py
 events:List Pz
instance:Inhabited XV_impl_valuer:=⟨⟨default,default,default⟩⟩
def XV_impl_valuer.c (x:XV_impl_valuer):List AV:=[eL (cL Px.c) x.p,eL cI x.x.From,eL (cL cI) x.x.Order,eL Pz.c x.events]
theorem XV_impl_valuer.len (x:XV_impl_valuer):(XV_impl_valuer.c x).length=4:=rfl
theorem XV_impl_valuer.isF (x:XV_impl_valuer):(XV_impl_valuer.c x).all (isF 9)=true:=rfl
structure ak where
 Op:Int
 Loc:Int
 Reg:Int
 Val:Int
instance:Inhabited ak:=⟨⟨default,default,default,default⟩⟩
def ak.c (x:ak):List AV:=[I x.Op,I x.Loc,I x.Reg,I x.Val]
theorem ak.len (x:ak):(ak.c x).length=4:=rfl
theorem ak.isF (x:ak):(ak.c x).all (isF 9)=true:=rfl
structure jy where
 From:LI
 Order:LL
instance:Inhabited jy:=⟨⟨default,default⟩⟩
def jy.c (x:jy):List AV:=[eL cI x.From,eL (cL cI) x.Order]
theorem jy.len (x:jy):(jy.c x).length=2:=rfl
theorem jy.isF (x:jy):(jy.c x).all (isF 9)=true:=rfl
inductive TXlaws_RelExpr where
 | mk (Op:Int) (Name:ByteArray) (Kids:List TXlaws_RelExpr)
structure aj where
 Op:Int
 Name:ByteArray
 Kids:List TXlaws_RelExpr
instance:Inhabited TXlaws_RelExpr:=⟨.mk default default []⟩
instance:Inhabited aj:=⟨⟨default,default,[]⟩⟩
def TXlaws_RelExpr.out:TXlaws_RelExpr->aj
 | .mk a0 a1 a2=>⟨a0,a1,a2⟩
def aj.inn (x:aj):TXlaws_RelExpr := .mk x.Op x.Name x.Kids
mutual
def TXlaws_RelExpr.c:TXlaws_RelExpr->List AV
 | .mk a0 a1 a2=>[I a0,St a1,.sl a2.length (TXlaws_RelExpr.r a2)]
def TXlaws_RelExpr.r:List TXlaws_RelExpr->Nat->List AV
 | []=>λ_=>[.nil,.nil,.nil]
 | x::l=>λi=>match i with
  | 0=>TXlaws_RelExpr.c x
  | i+1=>TXlaws_RelExpr.r l i
end
theorem TXlaws_RelExpr.len (x:TXlaws_RelExpr):(TXlaws_RelExpr.c x).length=3:=by
 cases x;simp only [TXlaws_RelExpr.c];rfl
theorem TXlaws_RelExpr.isF (x:TXlaws_RelExpr):(TXlaws_RelExpr.c x).all (isF 9)=true:=by
 cases x;simp only [TXlaws_RelExpr.c];rfl
theorem TXlaws_RelExpr.r0 (x:TXlaws_RelExpr) (l:List TXlaws_RelExpr):TXlaws_RelExpr.r (x::l) 0=TXlaws_RelExpr.c x:=by simp only [TXlaws_RelExpr.r]
theorem TXlaws_RelExpr.r1 (x:TXlaws_RelExpr) (l:List TXlaws_RelExpr) (i:Nat):TXlaws_RelExpr.r (x::l) (i+1)=TXlaws_RelExpr.r l i:=by simp only [TXlaws_RelExpr.r]
def aj.c (x:aj):List AV:=[I x.Op,St x.Name,eL TXlaws_RelExpr.c x.Kids]
theorem aj.len (x:aj):(aj.c x).length=3:=rfl
theorem aj.isF (x:aj):(aj.c x).all (isF 9)=true:=rfl
theorem TXlaws_RelExpr.out_c (x:TXlaws_RelExpr):CJ (TXlaws_RelExpr.c x) (aj.c x.out):=by
 cases x;simp only [TXlaws_RelExpr.c];exact ⟨EqS.refl _,⟨EqS.refl _,⟨EqS.slr TXlaws_RelExpr.r0 TXlaws_RelExpr.r1 _,trivial⟩⟩⟩
structure ay where
 Kind:Int
 Expr:aj
instance:Inhabited ay:=⟨⟨default,default⟩⟩
def ay.c (x:ay):List AV:=[I x.Kind,I x.Expr.Op,St x.Expr.Name,eL TXlaws_RelExpr.c x.Expr.Kids]
theorem ay.len (x:ay):(ay.c x).length=4:=rfl
theorem ay.isF (x:ay):(ay.c x).all (isF 9)=true:=rfl
inductive TXimpl_RelExpr where
 | mk (Op:Int) (Name:ByteArray) (Kids:List TXimpl_RelExpr)
structure aa where
 Op:Int
 Name:ByteArray
 Kids:List TXimpl_RelExpr
instance:Inhabited TXimpl_RelExpr:=⟨.mk default default []⟩
instance:Inhabited aa:=⟨⟨default,default,[]⟩⟩
def TXimpl_RelExpr.out:TXimpl_RelExpr->aa
 | .mk a0 a1 a2=>⟨a0,a1,a2⟩
def aa.inn (x:aa):TXimpl_RelExpr := .mk x.Op x.Name x.Kids
mutual
def TXimpl_RelExpr.c:TXimpl_RelExpr->List AV
 | .mk a0 a1 a2=>[I a0,St a1,.sl a2.length (TXimpl_RelExpr.r a2)]
def TXimpl_RelExpr.r:List TXimpl_RelExpr->Nat->List AV
 | []=>λ_=>[.nil,.nil,.nil]
 | x::l=>λi=>match i with
  | 0=>TXimpl_RelExpr.c x
  | i+1=>TXimpl_RelExpr.r l i
end
theorem TXimpl_RelExpr.len (x:TXimpl_RelExpr):(TXimpl_RelExpr.c x).length=3:=by
 cases x;simp only [TXimpl_RelExpr.c];rfl
theorem TXimpl_RelExpr.isF (x:TXimpl_RelExpr):(TXimpl_RelExpr.c x).all (isF 9)=true:=by
 cases x;simp only [TXimpl_RelExpr.c];rfl
theorem TXimpl_RelExpr.r0 (x:TXimpl_RelExpr) (l:List TXimpl_RelExpr):TXimpl_RelExpr.r (x::l) 0=TXimpl_RelExpr.c x:=by simp only [TXimpl_RelExpr.r]
theorem TXimpl_RelExpr.r1 (x:TXimpl_RelExpr) (l:List TXimpl_RelExpr) (i:Nat):TXimpl_RelExpr.r (x::l) (i+1)=TXimpl_RelExpr.r l i:=by simp only [TXimpl_RelExpr.r]
def aa.c (x:aa):List AV:=[I x.Op,St x.Name,eL TXimpl_RelExpr.c x.Kids]
theorem aa.len (x:aa):(aa.c x).length=3:=rfl
theorem aa.isF (x:aa):(aa.c x).all (isF 9)=true:=rfl
theorem TXimpl_RelExpr.out_c (x:TXimpl_RelExpr):CJ (TXimpl_RelExpr.c x) (aa.c x.out):=by
 cases x;simp only [TXimpl_RelExpr.c];exact ⟨EqS.refl _,⟨EqS.refl _,⟨EqS.slr TXimpl_RelExpr.r0 TXimpl_RelExpr.r1 _,trivial⟩⟩⟩
theorem aa.inn_c (x:aa):CJ (aa.c x) (TXimpl_RelExpr.c x.inn):=by
 cases x;simp only [aa.inn,TXimpl_RelExpr.c];exact ⟨EqS.refl _,⟨EqS.refl _,⟨EqS.slr' TXimpl_RelExpr.r0 TXimpl_RelExpr.r1 _,trivial⟩⟩⟩
structure ah where
 Kind:Int
 Expr:aa
instance:Inhabited ah:=⟨⟨default,default⟩⟩
def ah.c (x:ah):List AV:=[I x.Kind,I x.Expr.Op,St x.Expr.Name,eL TXimpl_RelExpr.c x.Expr.Kids]
theorem ah.len (x:ah):(ah.c x).length=4:=rfl
theorem ah.isF (x:ah):(ah.c x).all (isF 9)=true:=rfl
structure Z3b where
 x0:Int
 x1:Int
 x2:Int
instance:Inhabited Z3b:=⟨⟨default,default,default⟩⟩
def Z3b.c (x:Z3b):List AV:=[Y x.x0,Y x.x1,Y x.x2]
theorem Z3b.len (x:Z3b):(Z3b.c x).length=3:=rfl
theorem Z3b.isF (x:Z3b):(Z3b.c x).all (isF 9)=true:=rfl
def Z3b.get (a:Z3b) (q:Int):Int:=if q=0 then a.x0 else if q=1 then a.x1 else a.x2
def Z3b.set (a:Z3b) (q:Int) (v:Int):Z3b:=if q=0 then ⟨v,a.x1,a.x2⟩ else if q=1 then ⟨a.x0,v,a.x2⟩ else ⟨a.x0,a.x1,v⟩
structure Z33 where
 x0:Z3b
 x1:Z3b
 x2:Z3b
instance:Inhabited Z33:=⟨⟨default,default,default⟩⟩
def Z33.c (x:Z33):List AV:=[Y x.x0.x0,Y x.x0.x1,Y x.x0.x2,Y x.x1.x0,Y x.x1.x1,Y x.x1.x2,Y x.x2.x0,Y x.x2.x1,Y x.x2.x2]
theorem Z33.len (x:Z33):(Z33.c x).length=9:=rfl
theorem Z33.isF (x:Z33):(Z33.c x).all (isF 9)=true:=rfl
def Z33.get (a:Z33) (q:Int):Z3b:=if q=0 then a.x0 else if q=1 then a.x1 else a.x2
def Z33.set (a:Z33) (q:Int) (v:Z3b):Z33:=if q=0 then ⟨v,a.x1,a.x2⟩ else if q=1 then ⟨a.x0,v,a.x2⟩ else ⟨a.x0,a.x1,v⟩
structure ZVa where
 p:List (List Px)
 pc:Z3b
 reg:Z33
 mem:Z3b
instance:Inhabited ZVa:=⟨⟨default,default,default,default⟩⟩
def ZVa.c (x:ZVa):List AV:=[eL (cL Px.c) x.p,Y x.pc.x0,Y x.pc.x1,Y x.pc.x2,Y x.reg.x0.x0,Y x.reg.x0.x1,Y x.reg.x0.x2,Y x.reg.x1.x0,Y x.reg.x1.x1,Y x.reg.x1.x2,Y x.reg.x2.x0,Y x.reg.x2.x1,Y x.reg.x2.x2,Y x.mem.x0,Y x.mem.x1,Y x.mem.x2]
theorem ZVa.len (x:ZVa):(ZVa.c x).length=16:=rfl
theorem ZVa.isF (x:ZVa):(ZVa.c x).all (isF 9)=true:=rfl
def jJ (l:List ByteArray) (sep:ByteArray):ByteArray:=⟨(Lib.join (l.map (·.data.toList)) sep.data.toList).toArray⟩
def fI (l:List ByteArray) (sep:ByteArray):Option ByteArray:=
 gd (decide (l.length<=140737488355328/\(jJ l sep).size<=140737488355328))<|some (jJ l sep)
def lu (x:Px):Ins:=⟨x.Op,x.Loc,x.Reg,x.Val⟩
theorem DG {α β:Type} (e:α->β) (p:List (List α)):total (p.map λr=>r.map e)=total p:=by
 unfold total;rw [List.map_map]
 congr 1
 exact SG λr _=>llm _
end
end Go.Proofs.YtpkhamajimidnaaGreatDoor
