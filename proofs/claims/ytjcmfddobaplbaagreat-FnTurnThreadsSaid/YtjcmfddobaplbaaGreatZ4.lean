/- Texts joined. No conditions. -/
import Derived.Below
import Derived.Laws.OwnMore
import Derived.Deep.Draws
import Derived.Laws.Rows
import Derived.Laws.MakeOwn
import Derived.Laws.Entries
import Derived.Lib.Hide
import Derived.Test.YtjcmfddobaplbaaGreatRows
import Derived.WalkKit
import Derived.ProofKit
import Derived.Deep.RegionHeld3
import Derived.Deep.DrawnRows
import Derived.Maps.AppendAt
import Derived.Deep.AppendLies
import Derived.RegionTactic
import Derived.OwnWalk
import Derived.Outline
import Derived.Deep.RegionLaw
import Derived.Test.YtjcmfddobaplbaaGreatZ3
namespace Go.Proofs.YtjcmfddobaplbaaGreat
noncomputable section
open _root_.List renaming replicate -> OX, getElem?_take -> O0, length_take -> O5, mem_of_getElem? -> O6, mem_replicate -> O7, flatMap_cons -> Pe, map_congr_left -> Ph, eq_nil_of_length_eq_zero -> Pj
open _root_.Nat renaming add_mul -> OY, ble -> OZ, le_refl -> O4, mul_le_mul_right -> O8, lt_or_ge -> O9, min_eq_left -> Pd
open _root_.Array renaming range -> O1, getElem?_toList -> Pb, getElem?_eq_none -> Pf, getElem?_append_left -> Pg
open _root_.Option renaming bind_eq_some_iff -> Pi
open Go.RowKit
set_option maxRecDepth 100000
section
variable {P:Program} {o:Oper} {ρ:Operand->AV} {H:AH} {x y:Operand} {t e:TypeId}
theorem wQ {lo co:Operand} {l k:Int} {z:Value} (ho:o.op = .makeSlice t lo co) (ht:P.underlying t=some (.slice e)) (hlo:ρ lo = .v (.int .i64 l)) (hco:ρ co = .v (.int .i64 k)) (hz:(P.info? e).bind (·.zero)=some z)
  (h0:0<=l) (h1:l<=k) (hb:k*(P.bytesOf e:Int)<=140737488355328) (hk:k<=140737488355328) (hs:0<P.cellsOf e) (hzs:(dC z).length=P.cellsOf e) (hz1:j4 z.cells=true) :
  DZ P o ρ H ⟨0,P.cellsOf e,e,OX k.toNat<|dC z⟩ (.hs H.length 0 (P.cellsOf e) 0 l.toNat):=by
 cases hi:P.info? e with
 | none=>simp_all
 | some i=>
  simp only [hi,Option.bind_some] at hz;have hby:P.bytesOf e=i.bytes:=by simp [Program.bytesOf,hi]
  have hce:P.cellsOf e=i.size:=by simp [Program.cellsOf,hi]
  have hzsz:z.cells.size=P.cellsOf e:=by simpa [dC] using hzs
  refine λc a hH hr hx=>?_;have hl1:=(eu<|hlo ▸ hx lo (by rw [ho];simp [Op.operands])).1;have hk1:=(eu<|hco ▸ hx co (by rw [ho];simp [Op.operands])).1;have hzc:=mM c hz1;have hsize:(sizeOf e).run P c.w = .ok (P.cellsOf e) c.w:=run_sizeOf c.w hi;have hzero:(zeroValue e).run P c.w = .ok z c.w:=by simp [zeroValue,typeInfo,hi,hz]
  refine ⟨(O1<|k.toNat*P.cellsOf e).map (z.cells[· % z.cells.size]!),.slice (some ⟨c.w.heap.size,0,none⟩) l.toNat k.toNat,?_,Cx.new_rel hr _ _ hs (by simp) (λq row h=>?_) λq row j a' h1' h2=>?_,?_⟩
  ·rw [execOp,ho];refine (?_:Sem.run P _ c.w=_);have hneg : ¬ ((((decide (k<0)||decide (i.bytes*k>2 ^ 48))||decide (l<0))||decide (l>k))=true):=by
    simp only [Bool.or_eq_true,dte,not_or];rw [hby,Int.mul_comm] at hb;omega
   have : (Instr.makeSlice t (a.eval lo)<|a.eval co).run P c.w = .ok (.slice (some ⟨c.w.heap.size,0,none⟩) l.toNat k.toNat) (c.w.alloc (.cells ((O1<|k.toNat*P.cellsOf e).map (z.cells[· % z.cells.size]!)) e)):=by
    rw [hl1,hk1];simp only [Instr.makeSlice,Sem.run_bind,az ht,Result.andThen_ok,asInt,asIntOf,Sem.run_pure,run_typeInfo c.w hi,yf (n:=l) h0 (by omega),yf (n:=k) (by omega) (by omega)];rw [if_neg hneg];simp only [Sem.run_bind,run_askRoom,Result.andThen_ok,hsize]
    by_cases h00:k.toNat*P.cellsOf e=0
    ·rw [if_pos h00,h00];have h00':∀ f:Nat->Value,Array.map f (O1 0) = #[]:=λf=>Array.eq_empty_of_size_eq_zero (by simp);simp [newRow,h00']
    rw [if_neg h00];simp [hzero,newRow]
   simp only [Sem.run_bind,this,Result.andThen_ok,Sem.run_pure]
   rfl
  ·grind
  ·have hq:q<k.toNat:=by
    have := (ges h1').1;simpa using this
   have := O6 h1';rw [O7] at this;rw [this.2] at h2;have hj:j<P.cellsOf e:=by
    have := (ges h2).1;omega
   have hfit:q*P.cellsOf e+j<k.toNat*P.cellsOf e:=by
    have : (q+1)*P.cellsOf e<=k.toNat*P.cellsOf e:=O8 _ (by omega);rw [OY] at this;omega
   simp only;rw [uI _ _ _ hfit (by omega),hzsz,Nat.mul_comm,Nat.mul_add_mod,Nat.mod_eq_of_lt hj];exact hzc.get h2
  subst hH;have := Cx.new_hs c ⟨0,P.cellsOf e,e,OX k.toNat<|dC z⟩ ((O1<|k.toNat*P.cellsOf e).map (z.cells[· % z.cells.size]!)) (n:=l.toNat) (cap:=k.toNat) (by simp;omega) (by omega) (by omega) (by simp);omega
theorem IY {ag:Bool} {w m:Nat} {zs:List AV} {a b:Int} (q:SlT P t e ag w zs m) (ho:o.op = .makeSlice t x y) (hx:ρ x = .v (.int .i64 a)) (hy:ρ y = .v (.int .i64 b)) (hq:0<=a/\a<=b/\b*(m:Int)<=140737488355328/\b<=140737488355328) :
  DZ P o ρ H ⟨0,w,e,OX b.toNat zs⟩ (.hs H.length 0 w 0 a.toNat):=by
 have hz:=q.z.z;have h1:=q.z.one
 cases hb:(P.info? e).bind (·.zero) with
 | none=>simp_all
 | some z=>
  rw [hb] at hz h1;simp only [Option.map_some,sie] at hz h1;have h:=wQ (P:=P) (o:=o) (ρ:=ρ) (H:=H) ho q.u hx hy hb hq.1 hq.2.1 (by rw [q.by_];omega) hq.2.2.2 (by rw [q.ty.cells];exact nlb q.pos) (by rw [hz,q.ty.cells];exact q.zl) h1;rw [hz,q.ty.cells] at h;exact h
theorem MF.msZ {α:Type} [Inhabited α] {f:α->List AV} {ag:Bool} {w m:Nat} {a b:Int} (q:SlT P t e ag w [.nil] m) (hx:ρ x = .v (.int .i64 a)) (hy:ρ y = .v (.int .i64 b)) (hq:0<=a/\a<=b/\b*(m:Int)<=140737488355328/\b<=140737488355328) (hab:a=b) :
  MF P ρ (.makeSlice t x y) (eL (cL f)<|OX a.toNat ([]:List α)):=by
 subst hab;refine .newF ⟨0,w,e,OX a.toNat [.nil]⟩ (λb => .hs b 0 w 0 a.toNat) (λo ho G=>IY q ho hx hy hq) λm G hG=>?_;show Fz _ _ _ (.sl (OX a.toNat ([]:List α)).length _);rw [List.length_replicate];refine .hs (k:=⟨0,w,e,OX a.toNat [.nil]⟩) (O4 _) (by simp_all) rfl rfl (by simp) (λi r hi hr=>?_) λi r j c d hi hr hc hd=>?_
 ·have := O6 hr;rw [O7] at this;rw [this.2]
  rfl
 have := O6 hr;rw [O7] at this;rw [this.2] at hc;have e0:(OX a.toNat ([]:List α)).getD i default=[]:=by simp [List.getElem?_replicate];simp_all
 rw [e0] at hd
 match j with
 | 0=>
  obtain rfl:=osl hc;obtain rfl:=osl hd;exact .nil0
 | j+1=>grind
end
section
variable {P:Program}
def OSQ (bs:List Nat) (K:AH) (r:AV):AV->AH->Prop:=λr0 G=>
 bs.Nodup/\bs.length=K.length/\(∀ (j b:Nat),bs[j]? = some b->∃ k,qJ k/\G[b]? = some (some k)/\K[j]? = some (some k))/\Ren (λi j=>bs[j]? = some i) r0 r
inductive Lies (G:AH):List Nat->AH->Prop
 | nil:Lies G [] []
 | cons {b:Nat} {k:ABlk} {bs:List Nat} {K:AH} (h:G[b]? = some (some k)) (hk:qJ k) (t:Lies G bs K):Lies G (b::bs) (some k::K)
theorem Lies.spec {G:AH} {bs:List Nat} {K:AH} (h:Lies G bs K):bs.length=K.length/\∀ (j b:Nat),bs[j]? = some b->∃ k,qJ k/\G[b]? = some (some k)/\K[j]? = some (some k):=by
 induction h with
 | nil=>simp_all
 | @cons b k bs K h hk t ih=>
  grind
theorem OSQ.mk {bs:List Nat} {K G:AH} {r r0:AV} (hnd:bs.Nodup) (hl:Lies G bs K) (hr:Ren (λi j=>bs[j]? = some i) r0 r):OSQ bs K r r0 G:=⟨hnd,hl.spec.1,hl.spec.2,hr⟩
inductive RowsF:AH->Prop
 | nil:RowsF []
 | cons {k:ABlk} {K:AH} (hk:qJ k) (t:RowsF K):RowsF (some k::K)
theorem RowsF.spec {K:AH} (h:RowsF K):∀ (j:Nat) (k:ABlk),K[j]? = some (some k)->qJ k:=by
 induction h with
 | nil=>simp_all
 | cons hk t ih=>
  grind
end
def ClL (ops:Array Oper) (listed:Array Bool):Prop:=∀ (j:Nat) (oj:Oper),ops[j]? = some oj->listed.getD j false=true->∀ ed∈oj.after,Region.binds .any ed=true->listed.getD ed.on false=true
theorem Eu {listed:Array Bool} {i j:Nat} (h:listed.getD i false=true):(listed.setIfInBounds j true).getD i false=true:=by
 by_cases e:j=i
 ·subst e;rcases O9 j listed.size with h' | h'
  ·simp [h']
  simp [Pf h'] at h
 simp_all
theorem ClL.up {ops:Array Oper} {listed:Array Bool} {j:Nat} (h:ClL ops listed) (hj:j∈Region.ready .any ops listed):ClL ops (listed.setIfInBounds j true):=by
 intro i oi hoi hl ed he hb
 by_cases e:j=i
 ·subst e;obtain ⟨_,oj,hoj,hall⟩:=mem_ready.1 hj;rw [hoi] at hoj;injection hoj with hoj;subst hoj;exact Eu<|hall ed he hb
 refine Eu<|h i oi hoi ?_ ed he hb
 simp_all
section
variable {P:Program}
variable {nt b0:Nat} {Q:Exit->Env->AH->Prop} {e:Env} {H:AH}
end
section
variable {P:Program} {ρ:Operand->AV} {H H':AH}
structure MethT (P:Program) (t:TypeId) (name:String) (g:FuncId) (off:Nat):Prop where
 ex:∃ i m e,P.info? t=some i/\i.methods.find? (·.name==name)=some m/\m.func=some (g,true)/\P.underlying t=some (.pointer e) /\
  ((m.path.toList=[]/\off=0)\/∃ s k fs fl u,m.path.toList=[⟨s,k,true⟩]/\P.underlying s=some (.struct fs)/\fs[k]? = some fl/\P.cellsOf fl.type≠0/\(P.info? fl.type).isSome=true/\fl.offset=off/\P.underlying fl.type=some u/\(∀ e,u ≠ .pointer e))
def Kc (P:Program) (t:TypeId) (name:String) (g:FuncId) (off:Nat):Bool:=
 match P.info? t,P.underlying t with
 | some i,some (.pointer _)=>(match i.methods.find? (·.name==name) with
  | some m=>m.func==some (g,true)&&(match m.path.toList with
   | []=>off==0
   | [⟨s,k,true⟩]=>(match P.underlying s with
    | some (.struct fs)=>(match fs[k]? with
     | some fl=>P.cellsOf fl.type != 0&&(P.info? fl.type).isSome&&fl.offset==off&&(match P.underlying fl.type with
      | some (.pointer _) | none=>false
      | some _=>true)
     | none=>false)
    | _=>false)
   | _=>false)
  | none=>false)
 | _,_=>false
theorem MethT.of {t:TypeId} {name:String} {g off:Nat} (h:Kc P t name g off=true):MethT P t name g off:=by
 unfold Kc at h
 split at h
 ·rename_i i e hi hu
  split at h
  ·rename_i m hm;simp only [bae,beq_iff_eq] at h;obtain ⟨hf,h⟩:=h;refine ⟨i,m,e,hi,hm,hf,hu,?_⟩
   split at h
   ·rename_i hp;exact .inl ⟨hp,by simpa using h⟩
   ·rename_i s k hp
    split at h
    ·rename_i fs hs
     split at h
     ·rename_i fl hfl;simp only [bae,beq_iff_eq,bne_iff_ne,ne_eq] at h;obtain ⟨⟨⟨h1,h2⟩,h3⟩,h4⟩:=h
      cases hfu:P.underlying fl.type with
      | none=>rw [hfu] at h4;cases h4
      | some u=>exact .inr ⟨s,k,fs,fl,u,hp,hs,hfl,h1,h2,h3,hfu,λe' he=>by subst he;rw [hfu] at h4;cases h4⟩
     cases h
    cases h
   cases h
  cases h
 grind
def My (off:Nat):AV->AV
 | .fp row j => .fp row (j+off)
 | .hp b v s i j => .hp b v s i (j+off)
 | a=>a
theorem CU {t:TypeId} {name:String} {g off:Nat} (hm:MethT P t name g off) (w:World) (n:Nat) {g0:Nat} {o0:Nat} (v:Value) (hv:v = .pointer (some ⟨g0,o0,none⟩)):(method (n+1) t v name).run P w = .ok (g,.pointer<|some ⟨g0,o0+off,none⟩) w:=by
 obtain ⟨i,m,e,hi,hf,hg,hu,hp⟩:=hm.ex;have e1:(typeInfo t).run P w = .ok i w:=run_typeInfo w hi;rcases hp with ⟨hp,rfl⟩ | ⟨s,k,fs,fl,u,hp,hs,hk,hc,_,rfl,hfu,hne⟩
 ·simp only [method,Sem.run_bind,e1,Result.andThen_ok,hf,hp,follow,Sem.run_pure,hg,receiverAt,az hu,Place.get,hv,Nat.add_zero]
 obtain ⟨i2,hi2⟩:=rz hc
 have e2 : (receiverAt fl.type (.var ⟨g0,o0 + fl.offset,none⟩) true (if m.path.isEmpty then some ((name.splitOn ".").getLastD name) else none)).run P w = .ok (.pointer (some ⟨g0,o0 + fl.offset,none⟩)) w := by
  unfold receiverAt;simp only [Sem.run_bind,az hfu,Result.andThen_ok]
  cases u <;> simp_all
 simp only [method,Sem.run_bind,e1,Result.andThen_ok,hf,hp,follow,Sem.run_pure,hg,az hs,hk,Place.get,hv,asAddr,fieldPlace,run_sizeOf w hi2,hc,if_false,if_true,add0,e2]
theorem wR {t:TypeId} {name:String} {g off:Nat} (hm:MethT P t name g off) (hcl:eG P g=true) (w:World) {g0 o0:Nat} (args:Array Value) :
  (callMethod (.iface t<|.pointer<|some ⟨g0,o0,none⟩) name args).run P w = .ok (.enter g<|#[.pointer (some ⟨g0,o0+off,none⟩)]++args) w:=by
 have h0:0<Made.depth:=by decide
 obtain ⟨n,hn⟩:∃ n,P.types.size+Made.depth=n+1:=⟨P.types.size+Made.depth-1,by omega⟩;have h1:=CU hm w n (g0:=g0) (o0:=o0) _ rfl;have h2:=oL hcl (#[.pointer (some ⟨g0,o0+off,none⟩)]++args) w;have hp:(program:Sem Program).run P w = .ok P w:=rfl;simp only [callMethod,Sem.run_bind,hp,Result.andThen_ok,hn,h1];exact h2
theorem xz {o:Oper} {cl:Call} {x:Operand} {name:String} {t:TypeId} {row:List AV} {j:Nat} {g:FuncId} {off:Nat} {r:AV} (ho:o.op = .call cl) (hc:cl.callee = .invoke x name) (hx:ρ x = .ifc t (.fp row j)) (hm:MethT P t name g off)
  (h:eX P g (.fp row (j+off)::cl.args.toList.map ρ) H r H'):MB P o ρ H r H':=by
 intro c a K Q hH hr hxs hK;have hf1:=hx ▸ hxs x (by rw [ho];simp [Op.operands,Call.operands,hc]);obtain ⟨y,he,hrel⟩:=sG hf1;have hfp:=oJ hrel;have key:∃ g0 o0,y = .pointer (some ⟨g0,o0,none⟩)/\c.rel (.fp row<|j+off) (.pointer<|some ⟨g0,o0+off,none⟩):=by
  cases hfp with
  | fp us hg hlt hu h1 h=>
   refine ⟨_,_,rfl,?_⟩;rw [Nat.add_assoc];exact .fr<|.fp us hg hlt hu h1 h
 obtain ⟨g0,o0,hy,hrec⟩:=key;have hargs:zf c (.fp row (j+off)::cl.args.toList.map ρ) (#[.pointer (some ⟨g0,o0+off,none⟩)]++cl.args.map a.eval):=by
  refine ⟨by simp;omega,λi q v hq hv=>?_⟩
  match i with
  | 0=>
   simp only [List.getElem?_cons_zero,sie] at hq;have : (#[Value.pointer (some ⟨g0,o0+off,none⟩)]++cl.args.map a.eval)[0]? = some (Value.pointer<|some ⟨g0,o0+off,none⟩):=by
    rw [Pg (show 0<1 by decide)]
    rfl
   rw [this] at hv;injection hv with hv;subst hq hv;exact hrec
  | i+1=>
   simp only [List.getElem?_cons_succ,List.getElem?_map,Pb] at hq;have e:(#[Value.pointer (some ⟨g0,o0+off,none⟩)]++cl.args.map a.eval)[i+1]? = (cl.args.map a.eval)[i]? := by
    rw [Array.getElem?_append_right (by simp)];simp
   rw [e,Array.getElem?_map] at hv
   cases ha:cl.args[i]? with
   | none=>rw [ha] at hq;cases hq
   | some z=>
    rw [ha] at hq hv;injection hq with hq;injection hv with hv;subst hq hv;refine hxs z ?_;rw [ho];have hz:=Array.mem_of_getElem? ha;simp [Op.operands,Call.operands,hz]
 have hrun:(execOp a.eval o).run P c.w = .ok (.enter g<|#[.pointer (some ⟨g0,o0+off,none⟩)]++cl.args.map a.eval) c.w:=by
  have h3:=wR hm h.1 c.w (g0:=g0) (o0:=o0)<|cl.args.map a.eval;rw [execOp,ho];simp only [resolve,hc,he,hy,Sem.run_bind,Sem.run_pure,Result.andThen_ok,invoke];have e1:((#[Value.iface t (.pointer<|some ⟨g0,o0,none⟩)]++cl.args.map a.eval)[0]? : Option Value)=some (Value.iface t<|.pointer<|some ⟨g0,o0,none⟩):=by
   rw [Pg (show 0<1 by decide)]
   rfl
  have e2:(#[Value.iface t (.pointer<|some ⟨g0,o0,none⟩)]++cl.args.map a.eval).extract 1 (#[Value.iface t (.pointer<|some ⟨g0,o0,none⟩)]++cl.args.map a.eval).size=cl.args.map a.eval:=by
   apply Array.ext';simp;exact List.take_of_length_le (by simp)
  rw [e1,e2];exact h3
 unfold Oper.wp;rw [hrun,Oper.upon_enter];refine (h.2 c _ hH hr hargs).mono λe w' ⟨v,c',he,hw,hH',hr',hx,hv⟩ => ?_
 grind
theorem MF.inv {cl:Call} {x:Operand} {name:String} {t:TypeId} {row:List AV} {j:Nat} {g:FuncId} {off:Nat} {ars:List AV} {r:AV} (hc:cl.callee = .invoke x name) (hx:ρ x = .ifc t (.fp row j)) (hm:MethT P t name g off) (ha:cl.args.toList.map ρ=ars)
  (h:aW P g (.fp row (j+off)::ars) r) (hF:ars.all (isF 9)=true):MF P ρ (.call cl) r:=λo ho G=>by
 subst ha;refine xz ho hc hx hm<|h.acall ?_ G;simp only [List.all_cons,hF,Bool.and_true]
 rfl
end
structure A3 (α:Type) where
 x0:α
 x1:α
 x2:α
section
variable {α:Type}
instance [Inhabited α]:Inhabited (A3 α):=⟨⟨default,default,default⟩⟩
def A3.get (a:A3 α) (q:Int):α:=if q=0 then a.x0 else if q=1 then a.x1 else a.x2
def A3.set (a:A3 α) (q:Int) (v:α):A3 α:=if q=0 then ⟨v,a.x1,a.x2⟩ else if q=1 then ⟨a.x0,v,a.x2⟩ else ⟨a.x0,a.x1,v⟩
theorem BG {P:Int->Prop} {q:Int} (g:0<=q/\q<3) (h0:P 0) (h1:P 1) (h2:P 2):P q:=by
 grind
end
section
variable {P:Program} {ρ:Operand->AV} {H H':AH} {x y:Operand} {t e:TypeId}
theorem MF.ixafp {ag:Bool} {n w:Nat} {row:List AV} {j:Nat} {k:IntKind} {q:Int} (hu:P.underlying t=some (.array n e)) (ty:TyF P e ag w) (hx:ρ x = .fp row j) (hy:ρ y = .v (.int k q)) (hq:0<=q/\q<n):MF P ρ (.indexAddr t x y) (.fp row<|j+q.toNat*w) := .mk λK hK=>by
 show eY P t (ρ x) (ρ y) K;simp only [eY,hu,hx,hy,ty.cells];exact ⟨hq,Ck.intro ty.info hK⟩
theorem MF.ixahp {ag:Bool} {n w:Nat} {b ver s i j:Nat} {k:IntKind} {q:Int} (hu:P.underlying t=some (.array n e)) (ty:TyF P e ag w) (hx:ρ x = .hp b ver s i j) (hy:ρ y = .v (.int k q)) (hq:0<=q/\q<n):MF P ρ (.indexAddr t x y) (.hp b ver s i<|j+q.toNat*w) := .mk λK hK=>by
 show eY P t (ρ x) (ρ y) K;simp only [eY,hu,hx,hy,ty.cells];exact ⟨hq,Ck.intro ty.info hK⟩
theorem MF.ixag {ag:Bool} {n w:Nat} {cs:List AV} {k:IntKind} {q:Int} (a:AV) (hu:P.underlying t=some (.array n e)) (ty:TyF P e ag w) (hx:ρ x = .agg cs) (hy:ρ y = .v (.int k q)) (hq:0<=q/\q<n) (hp:iF ag w cs (q.toNat*w)=some a):MF P ρ (.index t x y) a := .mk λK hK=>by
 show uY P t (ρ x) (ρ y) K;simp only [uY,hu,hx,hy,ty.cells];exact ⟨hq,Ck.intro ty.info<|uK ty hp hK⟩
theorem MF.mkifc {u:TypeDesc} (a:AV) (hu:P.underlying t=some u) (hn:∀ m,u ≠ .interface m) (hx:ρ x=a):MF P ρ (.makeInterface t x) (.ifc t a) := .mk λK hK=>by
 show tY P ρ (.makeInterface t x) K;simp only [tY,hu,hx]
 cases u <;> first | exact absurd rfl (hn _) | (rw [AV.force_iff];exact hK)
end
def up (m:Nat) (gh:NG):NG:=λi=>((gh i).1,(gh i).2.1+m,(gh i).2.2)
section
variable {α:Type}
def nrs (m:Nat) (gh:NG) (w:Nat) (l:List<|List α):List (List AV):=cT (up m gh) w l
structure NN (K:AH) (gh:NG) (w:Nat) (ty:TypeId) (f:α->List AV) (l:List (List α)):Prop where
 nk:NK 0 K gh w ty f l
 kf:KF K
variable {K:AH} {gh:NG} {w:Nat} {ty:TypeId} {f:α->List AV} {l:List (List α)}
theorem NN.at_ (h:NN K gh w ty f l) {i:Nat} (hi:i<l.length):K[(gh i).2.1]? = some (bE (gh i).1 (gh i).2.2 w ty<|(l.getD i []).map f):=(h.nk.at_ i hi).2
theorem NN.lt (h:NN K gh w ty f l) {i:Nat} (hi:i<l.length):(gh i).2.1<K.length:=(ges<|h.at_ hi).1
theorem NN.uW (h:NN K gh w ty f l) {i:Nat} (hi:i<l.length):(gh i).1=true->l.getD i []=[]:=h.nk.uW i hi
theorem KF.set {k:Nat} {x:Option ABlk} (h:KF K) (hx:∀ b,x=some b->qJ b):KF (K.set k x):=λi b hb=>by
 by_cases e:k=i
 ·grind
 rw [List.getElem?_set_ne e] at hb;exact h i b hb
theorem KF.cons {x:Option ABlk} (h:KF K) (hx:∀ b,x=some b->qJ b):KF (x::K):=λi b hb=>by
 match i,hb with
 | 0,hb=>exact hx b (osl hb)
 | i+1,hb=>exact h i b hb
theorem Gf {g:Bool} {v:Nat} {l:List α} (hf:∀ x,(f x).all (isF 9)=true):∀ b,bE g v w ty (l.map f)=some b->qJ b:=λb hb=>by
 cases g with
 | true=>cases hb
 | false=>
  obtain rfl:=osl hb;exact λr hr a ha=>gp hf r hr a ha
theorem NN.set (h:NN K gh w ty f l) {i:Nat} (hi:i<l.length) {g:Bool} {ver:Nat} {r:List α} (hg:g=true->r=[]) (hf:∀ x,(f x).all (isF 9)=true):NN (K.set (gh i).2.1<|bE g ver w ty<|r.map f) (gh.put i (g,(gh i).2.1,ver)) w ty f (l.set i r):=
 ⟨h.nk.set hi hg,h.kf.set<|Gf hf⟩
theorem NN.nil:NN ([]:AH) gh w ty f []:=⟨⟨λi hi=>by grind,λi hi=>by grind,λi j hi=>by grind⟩,λi k hk=>by grind⟩
theorem NN.fz [Inhabited α] (h:NN K gh w ty f l) (S:AH) {b ver n:Nat} {to:TypeId} (hb:(S++K)[b]? = some (bE false ver 1 to<|nrs S.length gh w l)) (hn:n=l.length) (hf:∀ x,(f x).all (isF 9)=true):Fz 0 (S++K) (hS false b ver 1 n) (eL (cL f) l):=by
 have hk:NK 0 (S++K) (up S.length gh) w ty f l:=⟨λi hi=>⟨Nat.zero_le _,by
  show (S++K)[(gh i).2.1+S.length]? = _;rw [gar (by omega),Nat.add_sub_cancel];exact h.at_ hi⟩,λi hi=>h.uW hi,λi j hi hj hne he=>h.nk.sep i j hi hj hne (by simpa [up] using he)⟩
 exact hk.fz hb hn hf
end
def Rot (m N:Nat) (i j:Nat):Prop:=(i<m/\j=i)\/(m<=i/\i<N+m/\j=i+1)\/(i=N+m/\j=m)
theorem Rot.up {m N k:Nat} (h:k<N):Rot m N (k+m) (k+(m+1)) := .inr<|.inl ⟨by omega,by omega,rfl⟩
theorem Rot.new {m N:Nat}:Rot m N (N+m) m := .inr<|.inr ⟨rfl,rfl⟩
inductive RenHL (S:Nat->Nat->Prop):AH->AH->Prop
 | nil:RenHL S [] []
 | none {l l':AH} (t:RenHL S l l'):RenHL S (none::l) (none::l')
 | some {k k':ABlk} {l l':AH} (h:RenK S k k') (t:RenHL S l l'):RenHL S (some k::l) (some k'::l')
theorem RenHL.bE {S:Nat->Nat->Prop} {α:Type} {g:Bool} {v w:Nat} {ty:TypeId} {f:α->List AV} {x:List α} {l l':AH} (hf:∀ x,(f x).all (isF 9)=true) (t:RenHL S l l'):RenHL S (bE g v w ty (x.map f)::l) (Go.Proofs.YtjcmfddobaplbaaGreat.bE g v w ty (x.map f)::l'):=by
 cases g with
 | true=>exact .none t
 | false=>exact .some (.ofF λr hr a ha=>gp hf r hr a ha) t
theorem RenHL.spec {S:Nat->Nat->Prop} {l l':AH} (h:RenHL S l l'):l.length=l'.length/\(∀ (i:Nat) (k:ABlk),l[i]? = Option.some (Option.some k)->∃ k',l'[i]? = Option.some (Option.some k')/\RenK S k k')/\∀ (i:Nat) (k':ABlk),l'[i]? = Option.some (Option.some k')->∃ k,l[i]? = Option.some (Option.some k)/\RenK S k k':=by
 induction h with
 | nil=>simp_all
 | none t ih=>
  grind
 | some h t ih=>
  grind
theorem kR {S:Nat->Nat->Prop} {g:Bool} {i j v w n:Nat} (h:S i j):Ren S (hS g i v w n) (hS g j v w n):=by
 cases g with
 | true=>exact .nil
 | false=>exact .hs h
theorem xB {c:Cx} {row row2:List AV} {j n:Nat} {v:Value} (hs:(row.drop j).take n=row2) (h:c.rel (.fp row j) v):c.rel (.fp row2 0) v:=by
 have h:=oJ h
 cases h with
 | @fp _ _ g o us hg hlt hu h1 hr=>
  subst hs;have key:∀ (q:Nat) (a:AV),((row.drop j).take n)[q]? = some a->row[j+q]? = some a:=λq a hq=>by
   grind
  exact .fr<|.fp (g:=g) (o:=o+j) (j:=0) (λq=>us<|j+q) hg hlt (λq a hq=>by grind) (λq a hq=>h1 _ _<|key q a hq) λq a hq=>hr _ _<|key q a hq
section
variable {P:Program} {ρ:Operand->AV} {H H':AH} {x y:Operand} {t e:TypeId}
theorem MF.fafpS (n:Nat) {fs:Array Field} {f:Nat} {fl:Field} {row row2:List AV} {j:Nat} (hu:P.underlying t=some (.struct fs)) (hf:fs[f]? = some fl) (hc:(P.cellsOf fl.type != 0)=true) (hx:ρ x = .fp row j) (hs:(row.drop<|j+fl.offset).take n=row2):MF P ρ (.fieldAddr t x f) (.fp row2 0):=
 (MF.fafp hu hf hc hx).res λ_ _ h=>xB hs h
theorem eX.argw {g:FuncId} {as' as2:List AV} {r:AV} (h:eX P g as2 H r H') (hl:as2.length=as'.length) (hw:∀ c:Cx,∀ (i:Nat) (a b:AV) (v:Value),as'[i]? = some a->as2[i]? = some b->c.rel a v->c.rel b v):eX P g as' H r H':=
 ⟨h.1,λc vs hH hr hall=>h.2 c vs hH hr ⟨by rw [hall.1,hl],λi q v hq hv=>by
  obtain ⟨a,ha⟩:=cm hl hq;exact hw c i a q v ha hq (hall.2 i a v ha hv)⟩⟩
theorem MF.invS (n:Nat) {cl:Call} {name:String} {t:TypeId} {row row2:List AV} {j:Nat} {g:FuncId} {off:Nat} {ars:List AV} {r:AV} (hc:cl.callee = .invoke x name) (hx:ρ x = .ifc t (.fp row j)) (hm:MethT P t name g off) (ha:cl.args.toList.map ρ=ars)
  (hs:(row.drop<|j+off).take n=row2) (h:aW P g (.fp row2 0::ars) r) (hF:ars.all (isF 9)=true):MF P ρ (.call cl) r:=λo ho G=>by
 subst ha;refine xz ho hc hx hm<|(h.acall ?_ G).argw rfl λc i a b v h1 h2 hr=>?_
 ·simp only [List.all_cons,hF,Bool.and_true]
  rfl
 match i with
 | 0=>
  obtain rfl:=osl h1;obtain rfl:=osl h2;exact xB hs hr
 | i+1=>
  grind
variable {nt b0:Nat} {Q:Exit->Env->AH->Prop} {en:Env} {ops:Array Oper}
end
inductive RenRows (S:Nat->Nat->Prop):List (List AV)->List (List AV)->Prop
 | nil:RenRows S [] []
 | cons {a b:List AV} {l k:List (List AV)} (h:RenL S a b) (t:RenRows S l k):RenRows S (a::l) (b::k)
theorem RenRows.spec {S:Nat->Nat->Prop} {l k:List (List AV)} (h:RenRows S l k):l.length=k.length/\∀ (i:Nat) (c d:List AV),l[i]? = some c->k[i]? = some d->RenL S c d:=by
 induction h with
 | nil=>simp_all
 | cons h t ih=>
  grind
section
variable {α:Type} {K:AH} {gh:NG} {w:Nat} {ty:TypeId} {f:α->List AV} {l:List (List α)}
def Tk (a:Nat) (i j:Nat):Prop:=(i<=a/\j=i)\/(a+2<=i/\j+1=i)
theorem Tk.up {a k:Nat}:Tk a (k+(a+2)) (k+1+a) := .inr ⟨by omega,by omega⟩
theorem Reid.take {b0 a:Nat} {S S' K:AH} {x2 x2' x3:Option ABlk} (hm:S.length=a) (hb:OZ b0 a=true) (hS:RenHL (Tk a) S S') (hK:KF K) (hx:RenHL (Tk a) [x2] [x2']):Reid b0 (Tk a) (S++x2::x3::K) (S'++x2'::K):=by
 have hb:=nlb hb;obtain ⟨h1,h2,h3⟩:=hS.spec;obtain ⟨_,h5,h6⟩:=hx.spec;have hm':S'.length=a:=h1.symm.trans hm;have a1:∀ i,i<a->(S++x2::x3::K)[i]? = S[i]? := λi hi=>gal (by omega);have a2:(S++x2::x3::K)[a]? = some x2:=by
  rw [gar (by omega)];have : a-S.length=0:=by omega
  rw [this]
  rfl
 have a3:∀ k,(S++x2::x3::K)[k+a+2]? = K[k]? := λk=>by
  grind
 have c1:∀ i,i<a->(S'++x2'::K)[i]? = S'[i]? := λi hi=>gal (by omega);have c2:(S'++x2'::K)[a]? = some x2':=by
  rw [gar (by omega)];have : a-S'.length=0:=by omega
  rw [this]
  rfl
 have c3:∀ k,(S'++x2'::K)[k+a+1]? = K[k]? := λk=>by
  grind
 refine ⟨λi j j' e1 e2=>?_,λi i' j e1 e2=>?_,λi hi => .inl ⟨by omega,rfl⟩,by grind,λj k0 hk=>?_,λi j k hS hk=>?_⟩
 ·rcases e1 with ⟨_,rfl⟩ | ⟨_,e1⟩ <;> rcases e2 with ⟨_,rfl⟩ | ⟨_,e2⟩ <;> omega
 ·rcases e1 with ⟨_,e1⟩ | ⟨_,e1⟩ <;> rcases e2 with ⟨_,e2⟩ | ⟨_,e2⟩ <;> omega
 ·rcases Nat.lt_trichotomy j a with hj | hj | hj
  ·rw [c1 j hj] at hk;obtain ⟨k,g1,g2⟩:=h3 j k0 hk;exact ⟨j,k,.inl ⟨by omega,rfl⟩,by simp_all,g2⟩
  ·subst hj;rw [c2] at hk;obtain rfl:=osl hk;obtain ⟨k,g1,g2⟩:=h6 0 k0 rfl;obtain rfl:=osl g1;exact ⟨_,k,.inl ⟨by omega,rfl⟩,a2,g2⟩
  obtain ⟨q,rfl⟩:∃ q,j=q+a+1:=⟨j-a-1,by omega⟩;rw [c3 q] at hk;exact ⟨q+a+2,k0,.inr ⟨by omega,by omega⟩,by simp_all,.ofF<|hK q k0 hk⟩
 rcases hS with ⟨e1,rfl⟩ | ⟨e1,e2⟩
 ·rcases O9 j a with hj | hj
  ·grind
  obtain rfl:j=a:=by omega
  rw [a2] at hk;obtain rfl:=osl hk;obtain ⟨k',g1,_⟩:=h5 0 k rfl
  simp_all
 obtain ⟨q,rfl⟩:∃ q,i=q+a+2:=⟨i-a-2,by omega⟩
 simp_all
end
section
variable {P:Program} {H:AH} {s:Nat}
def JW (P:Program) (H:AH) (s:Nat) (a:AV) (news:List<|List AV):Prop:=∀ (c:Cx) (u:Value),c.H=H->HRel c->c.rel a u ->
 (∀ w,(Builtin.lenOf u).run P w = .ok news.length w)/\(∀ (i:Nat) (row:List AV),news[i]? = some row->row.length=s) /\
 ∀ n,n<=news.length->∃ vs:List Value,(∀ w,w.heap=c.w.heap->(Builtin.firstCells s n u).run P w = .ok vs.toArray w)/\xk c s (news.take n) vs
theorem JW.of {a:AV} {news:List (List AV)} (len:Nat) (hl:news.length=len) (h:∀ (c:Cx) (u:Value),c.H=H->HRel c->c.rel a u->∃ A cap,u = .slice A len cap/\∀ n,n<=len->∃ vs,SrcIs P c s (.slice A n cap) (news.take n) vs):JW P H s a news:=λc u hH hr hu=>by
 obtain ⟨A,cap,rfl,h1⟩:=h c u hH hr hu;refine ⟨λw=>by rw [hl];simp [Builtin.lenOf],λi row hi=>?_,λn hn=>?_⟩
 ·obtain ⟨vs,h2⟩:=h1 len<|O4 _;refine h2.rows i row ?_
  grind
 obtain ⟨vs,h2⟩:=h1 n (by omega);refine ⟨vs,λw hw=>?_,h2.is⟩;have h3:=h2.cells w hw;rw [O5,Pd hn] at h3;rw [<- h3]
 cases A <;> rfl
theorem JW.own {b ver off len:Nat} {k:ABlk} (hk:H[b]? = some (some k)) (hv:k.ver=ver) (hs:k.s=s) (hn:off+len<=k.rows.length):JW P H s (.hs b ver s off len) ((k.rows.drop off).take len):=
 .of len (by grind) λc u hH hr hu=>by
  cases hu with
  | fr h=>cases h
  | @hs _ _ _ _ _ cap A hb hc hm h0 hx=>
   refine ⟨A,cap,rfl,λn hn' => ?_⟩;rw [List.take_take,Pd hn'];exact bF.own hk hv hs (by omega) rfl c _ hH hr<|.hs hb (by omega) hm h0 λx hx'=>⟨(hx x hx').1,by grind,(hx x hx').2.2.1,(hx x hx').2.2.2⟩
theorem JW.fz {α:Type} [Inhabited α] {f:α->List AV} {l:List α} (hf:∀ x,(f x).length=s):JW P H s (eL f l) (l.map f):=
 .of l.length (by simp) λc u hH hr hu=>by
  have h:=nT hu
  cases h with
  | @sl _ cap sz g o _ a us hc hm ha hs hu2 h1 h=>
   refine ⟨a,cap,rfl,λn hn=>?_⟩;have e:(l.map f).take n=(List.range n).map λi=>f (l.getD i default):=by
    rw [<- List.map_take,<- qy f (l.take n),O5,Pd hn];apply Ph;intro i hi;have hi':i<n:=by simpa using hi
    simp [O0,hi']
   rw [e];refine bF.sl (H:=c.H) (n:=n) (row:=λi=>f<|l.getD i default) (λi _=>hf _) c _ rfl hr<|.fr<|.sl (s:=sz) (g:=g) (o:=o) us (by omega) hm (λh0=>ha<|by omega) (λi hi=>hs i<|by omega) (λi j a hi=>hu2 i j a<|by omega) (λi j a hi=>h1 i j a<|by omega) λi j a hi=>h i j a (by omega)
variable {o:Oper} {ρ:Operand->AV}
variable {α:Type} {c:α->List AV} {l k:List α} {x y:Operand} {t u e:TypeId} {ag:Bool} {w m b ver off len:Nat} {zs:List AV}
def cpy (l:List α) (off:Nat) (k:List α) (len:Nat):List α:=if off+len<=l.length then l.take off++k.take (min k.length len)++l.drop (off+min k.length len) else l
theorem CV (l:List α) (off:Nat) (k:List α) (len:Nat):(cpy l off k len).length=l.length:=by
 unfold cpy
 grind
theorem Ke {lo hi:Int} {n:Nat} (h:0<=lo/\lo<=hi/\hi<=(n:Int)) (hn:n=l.length):(0+lo.toNat)+(hi.toNat-lo.toNat)<=l.length:=by omega
end
def sM (s:ByteArray):List Value:=[.string s]
theorem vI (k:ByteArray):∀ (es:List MapEntry) (ks:List ByteArray) (i:Nat),es.map (·.key)=ks.map (λk=>mkv<|sM k) ->
  Instr.findNow .string (.string k) es i=some ((ks.findIdx? λx=>decide<|x=k).bind λj=>es[j]?.map λe=>(i+j,e.val))
 | [],[],_,_=>rfl
 | [],_::_,_,h=>by grind
 | _::_,[],_,h=>by grind
 | e::es,s::ks,i,h=>by
  simp only [List.map_cons,List.cons.injEq] at h;obtain ⟨h1,h2⟩:=h;have h1:e.key = .string s:=h1;have ih:=vI k es ks (i+1) h2
  by_cases hs:s=k
  ·subst hs;have hb:(s==s)=true:=(MapKept.bytes_beq s s).2 rfl;simp [Instr.findNow,Instr.sameNow,h1,hb,List.findIdx?_cons]
  have hb:(k==s)=false:=by
   cases hc:k==s with
   | false=>rfl
   | true=>exact absurd ((MapKept.bytes_beq k s).1 hc).symm hs
  have hn:Instr.findNow .string (.string k) (e::es) i=Instr.findNow .string (.string k) es (i+1):=by simp [Instr.findNow,Instr.sameNow,h1,hb]
  rw [hn,ih,List.findIdx?_cons,decide_eq_false hs];simp only [Bool.false_eq_true,if_false]
  cases ks.findIdx? λx=>decide (x=k) with
  | none=>rfl
  | some j=>
   grind
theorem Kg {P:Program} {oF:TypeId} (ht:P.underlying oF=some .string):KeyA P oF 1 sM where
 len:=λ_=>rfl
 plain:=λk x hx=>by
  obtain rfl:=List.mem_singleton.1 hx
  rfl
 check:=λw em k=>MapKept.run_checkKey ht (show MapKept.IsKey .string (.string k) from trivial) em 9999
 find:=λw k es ks h=>by
  refine MapKept.run_findKey ht (?_:Instr.findNow .string (.string k) es 0=_);rw [vI k es ks 0 h]
  simp_all
 stays:=λw k=>MapKept.run_keyThatStays (d:=.string) (show MapKept.IsKey .string (.string k) from trivial)
section
variable {P:Program} {K V:Type} [DecidableEq K] {kn vn:Nat} {kc:K->List Value} {cv:V->List AV} {oF t e:TypeId} {l:List (K×V)} {ρ:Operand->AV} {H:AH} {x y z:Operand} {b:Nat}
theorem EvA.look (q:KeyA P oF kn kc) (hv:∀ v,(cv v).length=vn) (d:V) {zv:Value} {ok:Bool} (ht:P.underlying t=some (.map oF e)) (hz:∀ w,(zeroValue e).run P w = .ok zv w) (hzr:∀ c:Cx,c.rel (mkA<|cv d) zv) (k:K)
 (hx:ρ x = .mp b (kn+vn)) (hy:ρ y=mkA ((kc k).map AV.v)) (hb:H[b]? = some (some<|mB kn vn kc cv l)) :
 EvA P ρ (.lookup t x y ok) H (bif ok then .tup [mkA (cv<|(zm l k).getD d),.v (.bool (zm l k).isSome)] else mkA (cv<|(zm l k).getD d)) H:=λ_ ho=>CN q hv d ho ht hz hzr k hx hy hb
theorem EvA.mset (q:KeyA P oF kn kc) (hv:∀ v,(cv v).length=vn) (ht:P.underlying t=some (.map oF e)) (hs:0<kn+vn) (k:K) (v:V)
 (hx:ρ x = .mp b (kn+vn)) (hy:ρ y=mkA ((kc k).map AV.v)) (hz:(ρ z).cells=some (cv v)) (hzm:mkA (cv v)=ρ z) (hb:H[b]? = some (some<|mB kn vn kc cv l)) :
 EvA P ρ (.mapUpdate t x y z) H .top (H.set b<|some<|mB kn vn kc cv<|um l k v):=λ_ ho=>rH q hv (.inl ho) ht hs k v hx hy hz hzm hb
theorem EvA.mins (q:KeyA P oF kn kc) (hv:∀ v,(cv v).length=vn) (ht:P.underlying t=some (.map oF e)) (hs:0<kn+vn) (k:K) (v:V)
 (hx:ρ x = .mp b (kn+vn)) (hy:ρ y=mkA ((kc k).map AV.v)) (hz:(ρ z).cells=some (cv v)) (hzm:mkA (cv v)=ρ z) (hb:H[b]? = some (some<|mB kn vn kc cv l)) :
 EvA P ρ (.insert t x y z) H .top (H.set b<|some<|mB kn vn kc cv<|um l k v):=λ_ ho=>rH q hv (.inr ho) ht hs k v hx hy hz hzm hb
end
section
variable {K V:Type} {kn vn:Nat} {kc:K->List Value} {cv:V->List AV} {l:List (K×V)} {H:AH}
theorem StayB.mp {m:Nat} (hv:∀ v,(cv v).all (isF 9)=true):StayB m H (some<|mB kn vn kc cv l) (some<|mB kn vn kc cv l) := .keep λr hr a ha=>by
 obtain ⟨p,_,rfl⟩:=List.mem_map.1 hr;rcases List.mem_append.1 ha with ha | ha
 ·obtain ⟨x,_,rfl⟩:=List.mem_map.1 ha
  rfl
 exact sK 9 m a<|List.all_eq_true.1 (hv p.2) a ha
end
section
variable {P:Program} {K V:Type} {kn vn:Nat} {kc:K->List Value} {cv:V->List AV} {oF t e:TypeId} {l:List (K×V)} {ρ:Operand->AV} {H:AH} {x:Operand} {b:Nat}
theorem EvA.mlen (ht:P.underlying t=some (.map oF e)) (hx:ρ x = .mp b (kn+vn)) (hb:H[b]? = some (some<|mB kn vn kc cv l)):EvA P ρ (.call ⟨.builtin .len,#[x],#[t]⟩) H (.v<|.int .i64 l.length) H:=λ_ ho=>Gb ho ht hx hb
end
section
variable {P:Program} {kn:Nat} {t:TypeId} {ρ:Operand->AV} {H:AH}
theorem EvA.mmk {s:Nat} (hs:0<s):EvA P ρ (.makeMap t none) H (.mp H.length s) (H++[some ⟨0,s,kn,[]⟩]):=λ_ ho=>Ap ho hs
end
section
variable {P:Program} {oF e:TypeId} {i:TypeInfo}
end
theorem Cx.trim {c:Cx} {b ver s off n:Nat} {ty:TypeId} {rows:List (List AV)} (hr:HRel c) (hb:c.H[b]? = some (some ⟨ver,s,ty,rows⟩)) (hle:off+n<=rows.length) {v:Value} (hv:c.rel (.hs b ver s off n) v) :
  ∃ c':Cx,c'.w=c.w/\c'.H=c.H.set b (some ⟨ver+1,s,ty,(rows.drop off).take n⟩)/\HRel c'/\Ext c c'/\c'.rel (.hs b (ver+1) s 0 n) v:=by
 have hlv:c.live b ⟨ver,s,ty,rows⟩:=hb;have hblt:b<c.H.length:=(ges hb).1;obtain ⟨cs,fr,hB⟩:=hr.blk b _ hlv
 cases hv with
 | fr h=>cases h
 | @hs _ _ _ _ _ cap A hbn hc hm h0 hh=>
  obtain ⟨fr,rfl,hat,hd⟩:=hB.cells hlv λx hx=>(hh x hx).1;obtain ⟨_,hn,hA,hcap⟩:=hh _ hd;let c':Cx:={ w:=c.w,fz:=c.fz,H:=c.H.set b (some ⟨ver+1,s,ty,(rows.drop off).take n⟩),φ:=λj=>if j=b then ((c.φ b).1,(c.φ b).2+off*s) else c.φ j };have φb:c'.φ b=((c.φ b).1,(c.φ b).2+off*s):=if_pos rfl;have φo:∀ {j},j≠b->c'.φ j=c.φ j:=λ{j} hj=>if_neg hj;have φ1:∀ j,(c'.φ j).1=(c.φ j).1:=λj=>by
   grind
  have Hb:c'.H[b]? = some (some ⟨ver+1,s,ty,(rows.drop off).take n⟩):=by
   show (c.H.set b _)[b]? = _
   simp_all
  have Ho:∀ {j},j≠b->c'.H[j]? = c.H[j]? := λ{j} hj=>by
   grind
  have lv:∀ {j k},c'.live j k->(j=b/\k=⟨ver+1,s,ty,(rows.drop off).take n⟩)\/(j≠b/\c.live j k):=λ{j k} hl=>by
   by_cases hj:j=b
   ·subst hj;have hl':c'.H[j]? = some (some k):=hl
    simp_all
   have hl':c'.H[j]? = some (some k):=hl;rw [Ho hj] at hl';exact .inr ⟨hj,hl'⟩
  have hx:Ext c c':=by
   refine ⟨rfl,rfl,rfl,O4 _,λ_ _ _=>rfl,λ_ h=>h,λ_ h => .inl h,by grind,λj q hj=>?_,λj q x hj hx=>?_,λj k hl => .inr ?_⟩
   ·by_cases e:j=b
    ·subst e;unfold Cx.born at hj ⊢
     grind
    unfold Cx.born at hj ⊢
    simp_all
   ·by_cases e:j=b
    ·subst e;unfold Cx.born at hj;rw [hb] at hj;unfold Cx.hd at hx
     grind
    unfold Cx.hd at hx ⊢
    grind
   grind
  have hlen:((rows.drop off).take n).length=n:=by rw [O5,List.length_drop];omega
  have hfit:=hB.fits;simp only at hfit;refine ⟨c',rfl,rfl,⟨hr.lt,λj k hl=>?_,λj j' k k' hl hl' hne=>?_,hr.glx hx⟩,hx,?_⟩
  ·rcases lv hl with ⟨rfl,rfl⟩ | ⟨hj,h⟩
   ·refine ⟨cs,some fr,⟨?_,?_,hB.pos,hB.free,?_,λi r hi=>?_,λi r q a hi ha=>?_⟩⟩
    ·show c.w.heap[(c'.φ j).1]? = _;rw [φ1,hat]
     rfl
    ·rw [φ1];exact hB.nf
    ·rw [φb];show (c.φ j).2+off*s+((rows.drop off).take n).length*s<=cs.size;rw [hlen];have : off*s+n*s<=rows.length*s:=by rw [<- OY];exact O8 s hle
     omega
    ·have hi':((rows.drop off).take n)[i]? = some r:=hi;rw [O0] at hi'
     split at hi'
     ·rw [List.getElem?_drop] at hi';exact hB.len _ r hi'
     simp_all
    have hi':((rows.drop off).take n)[i]? = some r:=hi;rw [O0] at hi'
    split at hi'
    ·rw [List.getElem?_drop] at hi';obtain ⟨u,g1,g2,g3⟩:=hB.rel _ r q a hi' ha;refine ⟨u,?_,g2,g3.ext hr hx⟩;rw [φb];show cs[(c.φ j).2+off*s+i*s+q]? = some u;rw [<- g1]
     congr 1
     show (c.φ j).2+off*s+i*s+q=(c.φ j).2+(off+i)*s+q;rw [OY];omega
    simp_all
   obtain ⟨cs',fr',hB'⟩:=hr.blk j k h;exact ⟨cs',fr',⟨by rw [φo hj];exact hB'.at_,by rw [φo hj];exact hB'.nf,hB'.pos,hB'.free,by rw [φo hj];exact hB'.fits,hB'.len,λi r q a hi ha=>by
    obtain ⟨u,g1,g2,g3⟩:=hB'.rel i r q a hi ha;exact ⟨u,by simp_all,g2,g3.ext hr hx⟩⟩⟩
  ·have old:∀ {j k},c'.live j k->∃ k0,c.live j k0:=λ{j k} hl=>by
    grind
   obtain ⟨_,h1⟩:=old hl;obtain ⟨_,h2⟩:=old hl';rw [φ1,φ1];exact hr.inj j j' _ _ h1 h2 hne
  refine .hs ?_ hc hm h0 λx hx=>?_
  ·unfold Cx.born
   simp_all
  have hat':c'.w.heap[(c'.φ b).1]? = some (.cells cs ty fr):=by rw [φ1];exact hat
  have := Cx.hd_of (c:=c') (b:=b) (k:=⟨ver+1,s,ty,(rows.drop off).take n⟩) Hb hat';have he:=hx.symm.trans this;simp only [hdo,sie] at he
  simp_all
section
variable {P:Program} {ρ:Operand->AV} {H:AH}
theorem EvA.trim {op:Op} {b ver s off n:Nat} {ty:TypeId} {rows:List (List AV)} (h:MF P ρ op<|.hs b ver s off n) (hb:H[b]? = some (some ⟨ver,s,ty,rows⟩)) (hle:off+n<=rows.length) :
  EvA P ρ op H (.hs b (ver+1) s 0 n) (H.set b<|some ⟨ver+1,s,ty,(rows.drop off).take n⟩):=λo ho c a K Q hH hr hxs hK=>
 h o ho H c a K Q hH hr hxs λv c1 hH1 hr1 hx1 hv1=>by
  obtain ⟨c2,e1,e2,e3,e4,e5⟩:=Cx.trim hr1 (by rw [hH1];exact hb) hle hv1;rw [<- e1];exact hK v c2 (by simp_all) e3 (hx1.trans e4) e5
theorem EvA.cutO {α:Type} {f:α->List AV} {op:Op} {b ver w n:Nat} {ty:TypeId} (l:List α) {zl zh:Int} (h:MF P ρ op<|.hs b ver w (0+zl.toNat)<|zh.toNat-zl.toNat) (hb:H[b]? = some (bE false ver w ty<|l.map f)) (hn:n=l.length)
  (g:0<=zl/\zl<=zh/\zh<=(n:Int)) :
  EvA P ρ op H (hS false b (ver+1) w ((l.drop zl.toNat).take<|zh.toNat-zl.toNat).length) (H.set b<|bE false (ver+1) w ty<|((l.drop zl.toNat).take<|zh.toNat-zl.toNat).map f):=by
 obtain ⟨g1,g2,g3⟩:=g;have hl:((l.drop zl.toNat).take<|zh.toNat-zl.toNat).length=zh.toNat-zl.toNat:=by rw [O5,List.length_drop];omega
 have := EvA.trim h (rows:=l.map f) hb (by grind);rw [hl,List.map_take,List.map_drop];rw [Nat.zero_add] at this;exact this
inductive FzP (H:AH):AV->AV->Prop
 | fz {a a':AV} (h:Fz 0 H a a'):FzP H a a'
 | hp {b ver s j:Nat} {ty:TypeId} {r x row':List AV} (hk:H[b]? = some (some ⟨ver,s,ty,[r++x]⟩)) (h:FzL 0 H r row'):FzP H (.hp b ver s 0 j) (.fp row' j)
inductive FzPL (H:AH):List AV->List AV->Prop
 | nil:FzPL H [] []
 | cons {a b:AV} {l k:List AV} (h:FzP H a b) (t:FzPL H l k):FzPL H (a::l) (b::k)
theorem FzPL.spec {l k:List AV} (h:FzPL H l k):l.length=k.length/\∀ (i:Nat) (c d:AV),l[i]? = some c->k[i]? = some d->FzP H c d:=by
 induction h with
 | nil=>simp_all
 | cons h t ih=>
  grind
end
inductive OutAt (S:Nat->Nat->Prop) (H:AH):List Nat->AH->Prop
 | nil:OutAt S H [] []
 | cons {b:Nat} {k k0:ABlk} {bs:List Nat} {G:AH} (hb:H[b]? = some (some k)) (hk:RenK S k k0) (t:OutAt S H bs G):OutAt S H (b::bs) (some k0::G)
 | none {b:Nat} {bs:List Nat} {G:AH} (hb:H[b]? = some Option.none) (t:OutAt S H bs G):OutAt S H (b::bs) (Option.none::G)
theorem OutAt.bE {S:Nat->Nat->Prop} {H:AH} {α:Type} {g:Bool} {v w b:Nat} {ty:TypeId} {f:α->List AV} {x:List α} {bs:List Nat} {G:AH} (hb:H[b]? = some (bE g v w ty<|x.map f)) (hf:∀ x,(f x).all (isF 9)=true) (t:OutAt S H bs G):OutAt S H (b::bs) (Go.Proofs.YtjcmfddobaplbaaGreat.bE g v w ty (x.map f)::G):=by
 cases g with
 | true=>exact .none hb t
 | false=>exact .cons hb (.ofF λr hr a ha=>gp hf r hr a ha) t
theorem OutAt.spec {S:Nat->Nat->Prop} {H:AH} {ids:List Nat} {G:AH} (h:OutAt S H ids G):ids.length=G.length/\∀ (i b:Nat),ids[i]? = some b->(H[b]? = some Option.none/\G[i]? = some Option.none)\/∃ k k0:ABlk,H[b]? = some (some k)/\G[i]? = some (some k0)/\RenK S k k0:=by
 induction h with
 | nil=>simp_all
 | @none b bs G hb t ih=>
  grind
 | @cons b k k0 bs G hb hk t ih=>
  grind
section
variable {P:Program}
end
section
variable {P:Program} {nt b0:Nat} {Q:Exit->Env->AH->Prop} {en:List (Nat×AV)} {H:AH} {ops:Array Oper} {l:List Oper} {d:Tmp} {t:TypeId} {pos:String} {af:Array Edge}
end
section
variable {P:Program} {K:Type} [DecidableEq K] {kn:Nat} {kc:K->List Value} {oF t e:TypeId} {l:List (K×Bool)} {ρ:Operand->AV} {H:AH} {x y z:Operand} {b:Nat}
theorem Gg {zv:Value} (hz:(P.info? e).bind (·.zero)=some zv) (w:World):(zeroValue e).run P w = .ok zv w:=by
 cases hi:P.info? e with
 | none=>simp_all
 | some i=>
  rw [hi] at hz;have hz':i.zero=some zv:=hz;simp [zeroValue,typeInfo,hi,hz']
theorem EvA.lookB (q:KeyA P oF kn kc) (ht:P.underlying t=some (.map oF e)) (hz:(P.info? e).bind (·.zero)=some (.bool false)) (k:K)
  (hx:ρ x = .mp b (kn+1)) (hy:ρ y=mkA ((kc k).map AV.v)) (hb:H[b]? = some (some<|mB kn 1 kc cB l)) :
  EvA P ρ (.lookup t x y false) H (Bo<|(zm l k).getD false) H:=
 EvA.look (vn:=1) (cv:=cB) (ok:=false) q (λ_=>rfl) false ht (Gg hz) (λ_ => .fr<|.v rfl) k hx hy hb
theorem EvA.msetB (q:KeyA P oF kn kc) (ht:P.underlying t=some (.map oF e)) (k:K) (v:Bool)
  (hx:ρ x = .mp b (kn+1)) (hy:ρ y=mkA ((kc k).map AV.v)) (hz:ρ z=Bo v) (hb:H[b]? = some (some<|mB kn 1 kc cB l)) :
  EvA P ρ (.mapUpdate t x y z) H .top (H.set b<|some<|mB kn 1 kc cB<|um l k v):=
 EvA.mset (vn:=1) (cv:=cB) q (λ_=>rfl) ht (Nat.succ_pos kn) k v hx hy (by rw [hz];rfl) (by rw [hz];rfl) hb
omit [DecidableEq K] in
theorem EvA.mmkB (kc:K->List Value) {n:Nat} (hn:H.length=n):EvA P ρ (.makeMap t none) H (.mp n<|kn+1) (H++[some (mB kn 1 kc cB ([]:List<|K×Bool))]):=by
 subst hn;exact EvA.mmk (kn:=kn)<|Nat.succ_pos kn
end
section
variable {P:Program}
theorem cQ.mkS {f:FuncId} {fn:Func} {body:Code} {MU:List AV} {H:AH} {R:AV->AH->Prop} (hf:P.funcs[f]? = some fn) (hb:fn.body=some body) (hcall:eG P f=true) (hn:OZ MU.length fn.ntmps=true)
 (hok:codeOk fn.ntmps body=true) {e0:Env} (hw:wL (Ed MU) e0) (h:T P fn.ntmps H.length body (SQ H.length<|Fin P fn R) e0 H):cQ P f MU H R:=cQ.mkT hf hb hcall hn hok hw h.leaf
end
section
variable {P:Program} {ρ:Operand->AV} {H:AH}
end
section
variable {c:Cx} {b:Nat} {k:ABlk}
end
section
variable {P:Program} {ρ:Operand->AV} {H:AH}
end
section
variable {P:Program} {ρ:Operand->AV} {t e:TypeId}
end
section
variable {P:Program} {nt b0:Nat} {Q:Exit->Env->AH->Prop} {e:Env} {H:AH}
theorem T.ifH {α:Type} {q:Bool} {x:Operand} {t f:Code} {X Y:Option α} {r:α} (hc:rho e x = .v (.bool q)) (h:(bif q then X else Y)=some r) (h1:q=true->X=some r->T P nt b0 t Q e H) (h2:q=false->Y=some r->T P nt b0 f Q e H):T P nt b0 (.cond x t f) Q e H:=
 T.cond hc (λhq=>h1 hq<|Ar hq h) λhq=>h2 hq (Au hq h)
end
theorem MH {α:Type} {a b:α} (h:some a=some b):a=b:=osl h
def Lx (e:Env):List (Nat×AV)->List (Nat×AV)
 | []=>[]
 | p::l=>(p.1,e p.1)::Lx e l
theorem wk {e:Env}:∀ {en:List (Nat×AV)},Lx e en=en->wL e (ax en)
 | [],_=>MC
 | (t,a)::l,h=>by
  injection h with h1 h2;injection h1 with _ h1;exact ME h1<|wk h2
theorem kw {b0:Nat} {e:Env} {H H0:AH} {en:List (Nat×AV)} (hH:H0=H) (h:Lx e en=en):fe b0 e H (ax en) H0:=CP hH<|wk h
def JX:Nat->List AV->List (Nat×AV)
 | _,[]=>[]
 | i,a::l=>(i,a)::JX (i+1) l
theorem Ev:∀ (l:List AV) (i t:Nat),ax (JX i l) t=if t<i then .top else l.getD (t-i) .top
 | [],i,t=>by
  show AV.top=_
  simp_all
 | a::l,i,t=>by
  show (bif Nat.beq t i then a else ax (JX (i+1) l) t)=_
  cases hb:Nat.beq t i with
  | true=>
   simp_all
  | false=>
   have hne:t≠i:=λh=>by rw [h,show Nat.beq i i=true from Nat.beq_refl i] at hb;cases hb
   rw [cond_false,Ev l (i+1) t]
   grind
theorem BH (l:List AV):wL (Ed l) (ax<|JX 0 l):=λt => .inr (by rw [Ev,if_neg (by omega)];rfl)
section
variable {P:Program} {f:FuncId} {fn:Func} {body:Code} {MU:List AV} {r:AV} {H H':AH}
def okF (P:Program) (f:FuncId) (fn:Func) (body:Code):Bool:=eG P f&&codeOk fn.ntmps body
theorem BI (h:okF P f fn body=true):eG P f=true/\codeOk fn.ntmps body=true:=by
 unfold okF at h
 simp_all
theorem pM (hf:P.funcs[f]? = some fn) (hb:fn.body=some body) (hk:okF P f fn body=true) (hn:OZ MU.length fn.ntmps=true) (h:T P fn.ntmps 0 body (Fin P fn λr0 G=>Fz 0 G r0 r) (ax<|JX 0 MU) []):aW P f MU r:=
 aW.mkT hf hb (BI hk).1 hn (BI hk).2 (BH MU) h
theorem aM (hf:P.funcs[f]? = some fn) (hb:fn.body=some body) (hk:okF P f fn body=true) (hn:OZ MU.length fn.ntmps=true) (h:T P fn.ntmps H.length body (SQ H.length<|Fin P fn λr0 G=>r0=r/\G=H') (ax<|JX 0 MU) H):eX P f MU H r H':=
 eX.mkT hf hb (BI hk).1 hn (BI hk).2 (BH MU) h
end
section
variable {α β:Type} {G:Prop} {r:β} {x:Option β}
theorem jW {k:IntKind} {n:Int} (h:gd (MG k n) x=some r) (K:k.wrap n=n->x=some r->G):G:=K (gdW h).1 (gdW h).2
theorem jD {A:Prop} [Decidable A] (h:gd (decide A) x=some r) (K:A->x=some r->G):G:=K (gdD h).1 (gdD h).2
theorem jL {b:Bool} (h:gd b x=some r) (K:b=true->x=some r->G):G:=K (gdL h).1 (gdL h).2
theorem jB {o:Option α} {k:α->Option β} (h:o.bind k=some r) (K:∀ v,o=some v->k v=some r->G):G:=(Aq h).elim λv h=>K v h.1 h.2
end
section
variable {P:Program} {nt b0:Nat} {Q:Exit->Env->AH->Prop} {e e0:Env} {H H' H0:AH} {ops:Array Oper} {l:List Oper} {W:Type} {w:W}
theorem T.sr {i:Nat} {y:Code} (h:TO P nt b0 ops ops.toList (Ek (T P nt b0 y Q) Q) e H):T P nt b0 (.seq (.region i ops false) y) Q e H := .seq<|.region h
theorem T.jU {S:Type} {A:Option S} {K:S->Option W} {x y:Code} (h:A.bind K=some w) (slots:S->List (Nat×AV)) (heap:S->AH)
  (J:∀ s,K s=some w->T P nt b0 y Q (ax<|slots s) (heap s)) (k:∀ s,A=some s->T P nt b0 x (Ek (Ls b0 (λ_:Unit=>True) (λ_=>slots s) λ_=>heap s) Q) e H):T P nt b0 (.seq x y) Q e H:=
 jB h λs h1 h2=>T.joinF (λ_:Unit=>True) (λ_=>slots s) (λ_=>heap s) (λ_ _=>J s h2) (k s h1)
theorem T.jF {S G:Type} {A:Option S} {K:S->Option W} {x y:Code} (h:A.bind K=some w) (inv:S->G->Prop) (slots:S->G->List (Nat×AV)) (heap:S->G->AH)
  (J:∀ s g,K s=some w->inv s g->T P nt b0 y Q (ax<|slots s g) (heap s g)) (k:∀ s,A=some s->T P nt b0 x (Ek (Ls b0 (inv s) (slots s)<|heap s) Q) e H):T P nt b0 (.seq x y) Q e H:=
 jB h λs h1 h2=>T.joinF (inv s) (slots s) (heap s) (λg hg=>J s g h2 hg) (k s h1)
theorem T.lU {S E:Type} {body:Code} {x:E} {step:S->Option (S ⊕ E)} {s0:S} (h:bA step s0=some x) (slots:S->List (Nat×AV)) (heap:S->AH) (hs:fe b0 e H (ax<|slots s0)<|heap s0)
  (round:∀ s z,step s=some z->T P nt b0 body (Ek (Gc b0 (λ_ (_:Unit)=>True) (λs _=>slots s) (λs _=>heap s) z)<|Leave Q x z) (ax<|slots s) (heap s)):T P nt b0 (.loop body) Q e H:=
 T.loop step (λ_ (_:Unit)=>True) (λs _=>slots s) (λs _=>heap s) () h trivial hs λs _ z hz _=>round s z hz
theorem lE {S E:Type} {slots:S->List (Nat×AV)} {heap:S->AH} {a:S} {z:S ⊕ E} (h:some (Sum.inl a)=some z) (c:fe b0 e H (ax<|slots a)<|heap a):Gc b0 (λ_ (_:Unit)=>True) (λs _=>slots s) (λs _=>heap s) z e H:=
 ⟨a,(),(osl h).symm,trivial,c⟩
theorem lX {S E:Type} {x y:E} {z:S ⊕ E} {ex:Exit} (h:some (Sum.inr y)=some z) (K:some y=some x->Q ex e H):Leave Q x z ex e H:=⟨y,(osl h).symm,λh=>K<|congrArg some h⟩
theorem TO.jB {S:Type} {q:Bool} {A B:Option S} {K:S->Option W} (h:(bif q then A else B).bind K=some w) (n:Nat) (slots:S->List (Nat×AV)) (heap:S->AH)
  (h1:∀ s,q=true->A=some s->(∀ e H,fe b0 e H (ax<|slots s) (heap s)->TO P nt b0 ops (l.drop n) Q e H)->TO P nt b0 ops l Q e H)
  (h2:∀ s,q=false->B=some s->(∀ e H,fe b0 e H (ax<|slots s) (heap s)->TO P nt b0 ops (l.drop n) Q e H)->TO P nt b0 ops l Q e H)
  (J:∀ s,K s=some w->TO P nt b0 ops (l.drop n) Q (ax<|slots s) (heap s)):TO P nt b0 ops l Q e H:=by
 obtain ⟨s,ha,hk⟩:=Aq h;have key:∀ e H,fe b0 e H (ax<|slots s) (heap s)->TO P nt b0 ops (l.drop n) Q e H:=λe H c=>(J s hk).cut c
 grind
end
section
variable {P:Program} {ρ:Operand->AV} {H H':AH} {x y:Operand} {a:AV} {t:TypeId} {ag:Bool} {n:Nat}
theorem mv:MF P ρ (.move x) (ρ x):=MF.mv _ rfl
theorem as':MF P ρ (.assign x) (ρ x):=MF.asg _ rfl
def Mi:AV->Bool
 | .fp _ _=>true
 | .hp _ _ _ _ _=>true
 | _=>false
theorem nl (h:Mi (ρ x)=true):MF P ρ (.nilCheck x) (ρ x):=by
 cases e:ρ x with
 | fp row j=>exact MF.nilfp e
 | hp b v s i j=>exact MF.nilhp e
 | _=>rw [e] at h;cases h
def ldE (ag:Bool) (n:Nat):AV->Option AV
 | .fp row j=>iF ag n row j
 | _=>none
theorem lf (a:AV) (ty:TyF P t ag n) (h:ldE ag n (ρ x)=some a):MF P ρ (.load t x) a:=by
 cases e:ρ x with
 | fp row j=>rw [e] at h;exact MF.loadfp a ty e h
 | _=>rw [e] at h;cases h
def faE (pl:List<|Nat×Nat) (i:Nat) (v:AV):Option AV:=match pl[i]? with
 | some (o,k+1)=>(match v with
  | .fp row j=>some (.fp row<|j+o)
  | .hp b u s q j=>some (.hp b u s q<|j+o)
  | _=>none)
 | _=>none
theorem BJ {α β:Type} {f:α->Option β}:∀ {l:List α} {k:List β},l.mapM f=some k->∀ {i:Nat} {b:β},k[i]? = some b->∃ a,l[i]? = some a/\f a=some b
 | [],k,h,i,b,hb=>by
  simp_all
 | c::l,k,h,i,b,hb=>by
  simp only [List.mapM_cons] at h;obtain ⟨d,hd,h⟩:=Pi.1 h;obtain ⟨k',hk',h⟩:=Pi.1 h;obtain rfl:=osl h
  cases i with
  | zero=>
   simp_all
  | succ i=>exact BJ hk' (by simp_all)
theorem fa {pl:List (Nat×Nat)} {i:Nat} (q:TyS P t pl) (h:faE pl i (ρ x)=some a):MF P ρ (.fieldAddr t x i) a:=by
 have hs:=q.s
 split at hs
 ·rename_i fs hu;unfold faE at h
  split at h
  ·rename_i o k hk;obtain ⟨fl,h1,h2⟩:=BJ hs hk;rw [Pb] at h1;obtain ⟨inf,h3,h4⟩:=Option.map_eq_some_iff.1 h2;injection h4 with h4 h5;have hc:(P.cellsOf fl.type != 0)=true:=by
    unfold Program.cellsOf;rw [h3];simp [h5]
   subst h4
   cases e:ρ x with
   | fp row j=>rw [e] at h;obtain rfl:=osl h;exact MF.fafp hu h1 hc e
   | hp b u s w j=>rw [e] at h;obtain rfl:=osl h;exact MF.fahp hu h1 hc e
   | _=>rw [e] at h;cases h
  cases h
 simp_all
theorem lh (a:AV) (ty:TyF P t ag n) {b ver s j:Nat} {ty':TypeId} {row:List AV} (h:ρ x = .hp b ver s 0 j) (hk:H[b]? = some (some ⟨ver,s,ty',[row]⟩)) (hp:iF ag n row j=some a):EvA P ρ (.load t x) H a H:=EvA.loadhp a ty h hk rfl rfl rfl hp
def srE (n s j:Nat) (row cs:List AV):Option (List AV):=bif Nat.beq cs.length n&&OZ (j+n) s then some (splice row j cs) else none
theorem sr (row':List AV) (ty:TyF P t ag n) {b ver s j:Nat} {ty':TypeId} {row cs:List AV} (hx:ρ x = .hp b ver s 0 j) (hy:(ρ y).cells=some cs) (hk:H[b]? = some (some ⟨ver,s,ty',[row]⟩)) (hr:srE n s j row cs=some row'):EvA P ρ (.store t x y) H .top (H.set b<|some ⟨ver,s,ty',[row']⟩):=by
 unfold srE at hr
 cases hb:(Nat.beq cs.length n&&OZ (j+n) s) with
 | false=>simp_all
 | true=>
  rw [hb] at hr;obtain rfl:=osl hr;rw [bae] at hb;exact EvA.st (k:=⟨ver,s,ty',[row]⟩) _ ty hx hy hk rfl rfl rfl (Nat.eq_of_beq_eq_true hb.1) hb.2 rfl
end
section
variable {P:Program} {nt b0:Nat} {Q:Exit->Env->AH->Prop} {H H':AH} {ops:Array Oper} {l:List Oper} {d:Tmp} {ty:TypeId} {pos:String} {af:Array Edge} {en:List (Nat×AV)} {fp:Nat->Fp} {i:Nat} {K:Env->AH->Prop} {S W:Type} {r:W} {A:Option S} {k:S->Option W} {v:S->AV} {cl:Call} {f:Operand} {g:FuncId} {kE MU:List AV}
theorem oC (h:A.bind k=some r) (hp:∀ s,A=some s->aW P g MU (v s)) (hc:cl.callee = .value f) (hf:rho (ax en) f = .fn (.func g) kE) (ha:cl.args.toList.map (rho<|ax en)++kE=MU) (hF:MU.all (isF 9)=true)
  (J:∀ s,A=some s->k s=some r->TO P nt b0 ops l Q (ax ((d,v s)::en)) H):TO P nt b0 ops (⟨some d,.call cl,ty,pos,af,none⟩::l) Q (ax en) H:=
 jB h λs h1 h2=>oN (MF.call hc hf ha (hp s h1) hF) (J s h1 h2)
theorem fC (h:A.bind k=some r) (hp:∀ s,A=some s->aW P g MU (v s)) (hc:cl.callee = .value f) (hf:rho (ax en) f = .fn (.func g) kE) (ha:cl.args.toList.map (rho<|ax en)++kE=MU) (hF:MU.all (isF 9)=true) (h0:fp i=([],false))
  (J:∀ s,A=some s->k s=some r->TF P fp (i+1) l K (ax ((d,v s)::en)) H):TF P fp i (⟨some d,.call cl,ty,pos,af,none⟩::l) K (ax en) H:=
 jB h λs h1 h2=>fN h0 (MF.call hc hf ha (hp s h1) hF) (J s h1 h2)
end
section
variable {P:Program} {fn:Func} {e:Env} {G:AH} {a:AV} {t:Tmp} {m:Nat}
theorem fg (h:fn.results.toList=[.tmp t]) (h1:e t=a) (h2:isF 9 a=true):Fin P fn (λr0 G=>Fz m G r0 a) .ret e G:=Fin.ret (vs:=[a]) (by rw [h];exact .cons (.tmp h1) .nil)<|.of_isF 9 _ h2
end
section
variable {P:Program} {ρ:Operand->AV} {H:AH} {x y:Operand} {t:TypeId} {ag:Bool} {n j w:Nat} {q:Int}
theorem lf1 (V:Int->AV) (g:0<=q/\q<3) (ty:TyF P t ag n) {row:List AV} (h:ρ x = .fp row (j+q.toNat*w)) (h0:iF ag n row (j+0*w)=some (V 0)) (h1:iF ag n row (j+1*w)=some (V 1)) (h2:iF ag n row (j+2*w)=some (V 2)):MF P ρ (.load t x) (V q):=
 MF.loadfp _ ty h (BG (P:=λz=>iF ag n row (j+z.toNat*w)=some (V z)) g h0 h1 h2)
theorem lh1 (V:Int->AV) (g:0<=q/\q<3) (ty:TyF P t ag n) {b ver s:Nat} {ty':TypeId} {row:List AV} (h:ρ x = .hp b ver s 0 (j+q.toNat*w)) (hk:H[b]? = some (some ⟨ver,s,ty',[row]⟩)) (h0:iF ag n row (j+0*w)=some (V 0)) (h1:iF ag n row (j+1*w)=some (V 1)) (h2:iF ag n row (j+2*w)=some (V 2)):EvA P ρ (.load t x) H (V q) H:=
 EvA.loadhp _ ty h hk rfl rfl rfl (BG (P:=λz=>iF ag n row (j+z.toNat*w)=some (V z)) g h0 h1 h2)
theorem sr1 (R:Int->List AV) (g:0<=q/\q<3) (ty:TyF P t ag n) {b ver s:Nat} {ty':TypeId} {row cs:List AV} (hx:ρ x = .hp b ver s 0 (j+q.toNat*w)) (hy:(ρ y).cells=some cs) (hk:H[b]? = some (some ⟨ver,s,ty',[row]⟩)) (h0:srE n s (j+0*w) row cs=some (R 0)) (h1:srE n s (j+1*w) row cs=some (R 1)) (h2:srE n s (j+2*w) row cs=some (R 2)):EvA P ρ (.store t x y) H .top (H.set b<|some ⟨ver,s,ty',[R q]⟩):=
 sr _ ty hx hy hk (BG (P:=λz=>srE n s (j+z.toNat*w) row cs=some (R z)) g h0 h1 h2)
variable {v:Nat} {u:Int}
theorem LX {Q:Int->Int->Prop} (g:0<=q/\q<3) (g':0<=u/\u<3) (h:Q 0 0/\Q 0 1/\Q 0 2/\Q 1 0/\Q 1 1/\Q 1 2/\Q 2 0/\Q 2 1/\Q 2 2):Q q u:=
 by grind
def P9 (Q:Nat->Nat->Int->Int->Prop):Prop:=Q 0 0 0 0/\Q 0 1 0 1/\Q 0 2 0 2/\Q 1 0 1 0/\Q 1 1 1 1/\Q 1 2 1 2/\Q 2 0 2 0/\Q 2 1 2 1/\Q 2 2 2 2
theorem lf2 (V:Int->Int->AV) (g:0<=q/\q<3) (g':0<=u/\u<3) (ty:TyF P t ag n) {row:List AV} (h:ρ x = .fp row ((j+q.toNat*w)+u.toNat*v)) (h9:P9 λa b y z=>iF ag n row ((j+a*w)+b*v)=some (V y z)):MF P ρ (.load t x) (V q u):=
 MF.loadfp _ ty h (LX (Q:=λy z=>iF ag n row ((j+y.toNat*w)+z.toNat*v)=some (V y z)) g g' h9)
theorem sr2 (R:Int->Int->List AV) (g:0<=q/\q<3) (g':0<=u/\u<3) (ty:TyF P t ag n) {b ver s:Nat} {ty':TypeId} {row cs:List AV} (hx:ρ x = .hp b ver s 0 ((j+q.toNat*w)+u.toNat*v)) (hy:(ρ y).cells=some cs) (hk:H[b]? = some (some ⟨ver,s,ty',[row]⟩)) (h9:P9 λa b y z=>srE n s ((j+a*w)+b*v) row cs=some (R y z)):EvA P ρ (.store t x y) H .top (H.set b<|some ⟨ver,s,ty',[R q u]⟩):=
 sr _ ty hx hy hk (LX (Q:=λy z=>srE n s ((j+y.toNat*w)+z.toNat*v) row cs=some (R y z)) g g' h9)
end
structure MI where
 Op:Int
 Loc:Int
 Reg:Int
 Val:Int
instance:Inhabited MI:=⟨⟨default,default,default,default⟩⟩
def MI.c (x:MI):List AV:=[I x.Op,I x.Loc,I x.Reg,I x.Val]
theorem MI.len (x:MI):(MI.c x).length=4:=rfl
theorem MI.isF (x:MI):(MI.c x).all (isF 9)=true:=rfl
structure fI where
 Op:Int
 Loc:Int
 Reg:Int
 Val:Int
instance:Inhabited fI:=⟨⟨default,default,default,default⟩⟩
def fI.c (x:fI):List AV:=[I x.Op,I x.Loc,I x.Reg,I x.Val]
theorem fI.len (x:fI):(fI.c x).length=4:=rfl
theorem fI.isF (x:fI):(fI.c x).all (isF 9)=true:=rfl
structure ak where
 b:LI
 p:Int
instance:Inhabited ak:=⟨⟨default,default⟩⟩
def ak.c (x:ak):List AV:=[eL cY x.b,I x.p]
theorem ak.len (x:ak):(ak.c x).length=2:=rfl
theorem ak.isF (x:ak):(ak.c x).all (isF 9)=true:=rfl
structure Z3b where
 x0:Int
 x1:Int
 x2:Int
instance:Inhabited Z3b:=⟨⟨default,default,default⟩⟩
def Z3b.c (x:Z3b):List AV:=[Y x.x0,Y x.x1,Y x.x2]
theorem Z3b.len (x:Z3b):(Z3b.c x).length=3:=rfl
theorem Z3b.isF (x:Z3b):(Z3b.c x).all (isF 9)=true:=rfl
def Z3b.get (a:Z3b) (q:Int):Int:=if q=0 then a.x0 else if q=1 then a.x1 else a.x2
def Z3b.set (a:Z3b) (q:Int) (v:Int):Z3b:=if q=0 then ⟨v,a.x1,a.x2⟩ else if q=1 then ⟨a.x0,v,a.x2⟩ else ⟨a.x0,a.x1,v⟩
structure Z33 where
 x0:Z3b
 x1:Z3b
 x2:Z3b
instance:Inhabited Z33:=⟨⟨default,default,default⟩⟩
def Z33.c (x:Z33):List AV:=[Y x.x0.x0,Y x.x0.x1,Y x.x0.x2,Y x.x1.x0,Y x.x1.x1,Y x.x1.x2,Y x.x2.x0,Y x.x2.x1,Y x.x2.x2]
theorem Z33.len (x:Z33):(Z33.c x).length=9:=rfl
theorem Z33.isF (x:Z33):(Z33.c x).all (isF 9)=true:=rfl
def Z33.get (a:Z33) (q:Int):Z3b:=if q=0 then a.x0 else if q=1 then a.x1 else a.x2
def Z33.set (a:Z33) (q:Int) (v:Z3b):Z33:=if q=0 then ⟨v,a.x1,a.x2⟩ else if q=1 then ⟨a.x0,v,a.x2⟩ else ⟨a.x0,a.x1,v⟩
structure MJ where
 p:List (List MI)
 pc:Z3b
 reg:Z33
 mem:Z3b
instance:Inhabited MJ:=⟨⟨default,default,default,default⟩⟩
def MJ.c (x:MJ):List AV:=[eL (cL MI.c) x.p,Y x.pc.x0,Y x.pc.x1,Y x.pc.x2,Y x.reg.x0.x0,Y x.reg.x0.x1,Y x.reg.x0.x2,Y x.reg.x1.x0,Y x.reg.x1.x1,Y x.reg.x1.x2,Y x.reg.x2.x0,Y x.reg.x2.x1,Y x.reg.x2.x2,Y x.mem.x0,Y x.mem.x1,Y x.mem.x2]
theorem MJ.len (x:MJ):(MJ.c x).length=16:=rfl
theorem MJ.isF (x:MJ):(MJ.c x).all (isF 9)=true:=rfl
structure MK where
 values:MJ
instance:Inhabited MK:=⟨⟨default⟩⟩
def MK.c (x:MK):List AV:=[eL (cL MI.c) x.values.p,Y x.values.pc.x0,Y x.values.pc.x1,Y x.values.pc.x2,Y x.values.reg.x0.x0,Y x.values.reg.x0.x1,Y x.values.reg.x0.x2,Y x.values.reg.x1.x0,Y x.values.reg.x1.x1,Y x.values.reg.x1.x2,Y x.values.reg.x2.x0,Y x.values.reg.x2.x1,Y x.values.reg.x2.x2,Y x.values.mem.x0,Y x.values.mem.x1,Y x.values.mem.x2]
theorem MK.len (x:MK):(MK.c x).length=16:=rfl
theorem MK.isF (x:MK):(MK.c x).all (isF 9)=true:=rfl
structure ah where
 x0:Int
 x1:Int
 x2:Int
instance:Inhabited ah:=⟨⟨default,default,default⟩⟩
def ah.c (x:ah):List AV:=[Y x.x0,Y x.x1,Y x.x2]
theorem ah.len (x:ah):(ah.c x).length=3:=rfl
theorem ah.isF (x:ah):(ah.c x).all (isF 9)=true:=rfl
def ah.get (a:ah) (q:Int):Int:=if q=0 then a.x0 else if q=1 then a.x1 else a.x2
def ah.set (a:ah) (q:Int) (v:Int):ah:=if q=0 then ⟨v,a.x1,a.x2⟩ else if q=1 then ⟨a.x0,v,a.x2⟩ else ⟨a.x0,a.x1,v⟩
structure ai where
 value:Int
 taken:Bool
 view:ah
instance:Inhabited ai:=⟨⟨default,default,default⟩⟩
def ai.c (x:ai):List AV:=[Y x.value,Bo x.taken,Y x.view.x0,Y x.view.x1,Y x.view.x2]
theorem ai.len (x:ai):(ai.c x).length=5:=rfl
theorem ai.isF (x:ai):(ai.c x).all (isF 9)=true:=rfl
structure ae where
 x0:List ai
 x1:List ai
 x2:List ai
instance:Inhabited ae:=⟨⟨default,default,default⟩⟩
def ae.c (x:ae):List AV:=[eL ai.c x.x0,eL ai.c x.x1,eL ai.c x.x2]
theorem ae.len (x:ae):(ae.c x).length=3:=rfl
theorem ae.isF (x:ae):(ae.c x).all (isF 9)=true:=rfl
def ae.get (a:ae) (q:Int):List ai:=if q=0 then a.x0 else if q=1 then a.x1 else a.x2
def ae.set (a:ae) (q:Int) (v:List ai):ae:=if q=0 then ⟨v,a.x1,a.x2⟩ else if q=1 then ⟨a.x0,v,a.x2⟩ else ⟨a.x0,a.x1,v⟩
structure aa where
 x0:ah
 x1:ah
 x2:ah
instance:Inhabited aa:=⟨⟨default,default,default⟩⟩
def aa.c (x:aa):List AV:=[Y x.x0.x0,Y x.x0.x1,Y x.x0.x2,Y x.x1.x0,Y x.x1.x1,Y x.x1.x2,Y x.x2.x0,Y x.x2.x1,Y x.x2.x2]
theorem aa.len (x:aa):(aa.c x).length=9:=rfl
theorem aa.isF (x:aa):(aa.c x).all (isF 9)=true:=rfl
def aa.get (a:aa) (q:Int):ah:=if q=0 then a.x0 else if q=1 then a.x1 else a.x2
def aa.set (a:aa) (q:Int) (v:ah):aa:=if q=0 then ⟨v,a.x1,a.x2⟩ else if q=1 then ⟨a.x0,v,a.x2⟩ else ⟨a.x0,a.x1,v⟩
structure au where
 values:MJ
 lists:ae
 own:aa
instance:Inhabited au:=⟨⟨default,default,default⟩⟩
def au.c (x:au):List AV:=[eL (cL MI.c) x.values.p,Y x.values.pc.x0,Y x.values.pc.x1,Y x.values.pc.x2,Y x.values.reg.x0.x0,Y x.values.reg.x0.x1,Y x.values.reg.x0.x2,Y x.values.reg.x1.x0,Y x.values.reg.x1.x1,Y x.values.reg.x1.x2,Y x.values.reg.x2.x0,Y x.values.reg.x2.x1,Y x.values.reg.x2.x2,Y x.values.mem.x0,Y x.values.mem.x1,Y x.values.mem.x2,eL ai.c x.lists.x0,eL ai.c x.lists.x1,eL ai.c x.lists.x2,Y x.own.x0.x0,Y x.own.x0.x1,Y x.own.x0.x2,Y x.own.x1.x0,Y x.own.x1.x1,Y x.own.x1.x2,Y x.own.x2.x0,Y x.own.x2.x1,Y x.own.x2.x2]
theorem au.len (x:au):(au.c x).length=28:=rfl
theorem au.isF (x:au):(au.c x).all (isF 9)=true:=rfl
structure db where
 states:Int
 outcomes:LL
instance:Inhabited db:=⟨⟨default,default⟩⟩
def db.c (x:db):List AV:=[I x.states,eL (cL cI) x.outcomes]
theorem db.len (x:db):(db.c x).length=2:=rfl
theorem db.isF (x:db):(db.c x).all (isF 9)=true:=rfl
structure aj where
 values:MJ
 split:Bool
 waits:LL
instance:Inhabited aj:=⟨⟨default,default,default⟩⟩
def aj.c (x:aj):List AV:=[eL (cL MI.c) x.values.p,Y x.values.pc.x0,Y x.values.pc.x1,Y x.values.pc.x2,Y x.values.reg.x0.x0,Y x.values.reg.x0.x1,Y x.values.reg.x0.x2,Y x.values.reg.x1.x0,Y x.values.reg.x1.x1,Y x.values.reg.x1.x2,Y x.values.reg.x2.x0,Y x.values.reg.x2.x1,Y x.values.reg.x2.x2,Y x.values.mem.x0,Y x.values.mem.x1,Y x.values.mem.x2,Bo x.split,eL (cL cY) x.waits]
theorem aj.len (x:aj):(aj.c x).length=18:=rfl
theorem aj.isF (x:aj):(aj.c x).all (isF 9)=true:=rfl
structure ZSt where
 at_:LI
 regs:LI
 mem:LI
 buf:LL
instance:Inhabited ZSt:=⟨⟨default,default,default,default⟩⟩
def ZSt.c (x:ZSt):List AV:=[eL cI x.at_,eL cI x.regs,eL cI x.mem,eL (cL cI) x.buf]
theorem ZSt.len (x:ZSt):(ZSt.c x).length=4:=rfl
theorem ZSt.isF (x:ZSt):(ZSt.c x).all (isF 9)=true:=rfl
structure bK where
 val:Int
 lock:Bool
 view:LI
instance:Inhabited bK:=⟨⟨default,default,default⟩⟩
def bK.c (x:bK):List AV:=[I x.val,Bo x.lock,eL cI x.view]
theorem bK.len (x:bK):(bK.c x).length=3:=rfl
theorem bK.isF (x:bK):(bK.c x).all (isF 9)=true:=rfl
structure dJ where
 at_:LI
 regs:LI
 view:LL
 list:List (List bK)
instance:Inhabited dJ:=⟨⟨default,default,default,default⟩⟩
def dJ.c (x:dJ):List AV:=[eL cI x.at_,eL cI x.regs,eL (cL cI) x.view,eL (cL bK.c) x.list]
theorem dJ.len (x:dJ):(dJ.c x).length=4:=rfl
theorem dJ.isF (x:dJ):(dJ.c x).all (isF 9)=true:=rfl
def gB (split:Bool) (t loc:Int):Int:=bif split then 3*t+loc else t
def sO (w:LI) (loc z:Int):Int:=match w.reverse.find? λb=>b.tdiv 16==loc with
 | some b=>b.tmod 16
 | none=>z
def Kh (b:Int):Bool:=decide<|0<=b/\b<=255
def dR (s:aj) (t loc:Int):Option Int:=
 gd (decide<|(0<=t/\t<3)/\0<=loc/\loc<3) <|
 gd (decide<|gB s.split t loc<(s.waits.length:Int)) <|
 gd ((s.waits.getD (gB s.split t loc).toNat default).all Kh) <|
 some (sO (s.waits.getD (gB s.split t loc).toNat default) loc<|Z3b.get s.values.mem loc)
def ML (w:World) (g:Nat) (t:TypeId) (cs:Array Value):Prop:=w.heap[g]? = some (.cells cs t (0,0))
section
variable {w w':World} {g:Nat} {t:TypeId} {cs:Array Value}
theorem ML.lt (h:ML w g t cs):g<w.heap.size:=by
 rcases O9 g w.heap.size with hlt | hge
 ·exact hlt
 unfold ML at h;rw [Pf hge] at h;cases h
theorem ML.cell (h:ML w g t cs) (i:Nat):w.cell? ⟨g,i,none⟩=cs[i]? := cell_of_row w g i cs t (0,0) h
theorem ML.frozen (h:ML w g t cs) (i:Nat):w.frozen? ⟨g,i,none⟩=false:=by
 unfold ML at h;simp [World.frozen?,h]
theorem ML.new (w:World) (t:TypeId) (cs:Array Value):ML (w.alloc<|.cells cs t) w.heap.size t cs:=heap_alloc_new w _
theorem ML.at_ {n:Nat} (h:w.heap.size=n):ML (w.alloc<|.cells cs t) n t cs:=h ▸ ML.new _ _ _
theorem ML.drew (h:ML w g t cs):ML w.drew g t cs:=h
theorem ML.alloc (h:ML w g t cs) (o:Obj):ML (w.alloc o) g t cs:=(Below.heap_alloc w o g h.lt).trans h
theorem ML.set_ (h:ML w g t cs) (i:Nat) (u:Value):ML (w.setCell ⟨g,i,none⟩ u) g t (cs.setIfInBounds i u):=by
 unfold ML at h ⊢;simp [World.setCell,Array.getElem?_modify,h]
theorem ML.far (h:ML w g t cs) {p:Addr} (hp:g≠p.block) (u:Value):ML (w.setCell p u) g t cs:=(Below.heap_setCell w p u g hp).trans h
theorem ML.below {B:Nat} (h:ML w g t cs) (hb:Below B w w') (hg:g<B):ML w' g t cs:=(hb.block g hg).trans h
theorem ML.inj {t':TypeId} {cs':Array Value} (h:ML w g t cs) (h':ML w g t' cs'):t=t'/\cs=cs':=by
 unfold ML at h h';rw [h] at h';injection h' with h';injection h' with h1 h2;exact ⟨h2,h1⟩
end
structure Fr (lo hi:Nat) (w w':World):Prop where
 os:w'.os=w.os
 tape:w'.tape=w.tape
 output:w'.output=w.output
 size:w.heap.size<=w'.heap.size
 block:∀ k,k<w.heap.size->(k<lo\/hi<=k)->w'.heap[k]? = w.heap[k]?
section
variable {a w w':World} {lo hi l h B:Nat}
theorem Fr.refl (lo hi:Nat) (w:World):Fr lo hi w w:=⟨rfl,rfl,rfl,O4 _,λ_ _ _=>rfl⟩
theorem Fr.trans {b c:World} (h:Fr lo hi a b) (k:Fr lo hi b c):Fr lo hi a c:=
 ⟨k.os.trans h.os,k.tape.trans h.tape,k.output.trans h.output,Nat.le_trans h.size k.size,λi hi hn=>(k.block i (Nat.lt_of_lt_of_le hi h.size) hn).trans<|h.block i hi hn⟩
theorem Fr.drew (f:Fr lo hi a w):Fr lo hi a w.drew:=⟨f.os,f.tape,f.output,f.size,f.block⟩
theorem Fr.alloc (f:Fr lo hi a w) (o:Obj):Fr lo hi a (w.alloc o):=
 f.trans ⟨rfl,rfl,rfl,by simp,λk hk _=>Below.heap_alloc _ _ _ hk⟩
theorem ML.fr {g:Nat} {t:TypeId} {cs:Array Value} (b:ML w g t cs) (f:Fr lo hi w w') (hg:g<lo\/hi<=g):ML w' g t cs:=(f.block g b.lt hg).trans b
end
section
variable {α:Type} (f:α->List Value) (s:Nat)
def Sl (w:World) (lo hi:Nat) (v:Value) (xs:List α):Prop:=
 ∃ A c,v = .slice A xs.length c/\xs.length<=c/\c<=9223372036854775807/\(0<xs.length->∃ b o,A=some ⟨b,o,none⟩/\lo<=b/\b<hi/\b<w.heap.size /\
  ∀ (k:Nat) (h:k<xs.length) (j:Nat) (u:Value),(f xs[k])[j]? = some u->w.cell? ⟨b,o+k*s+j,none⟩=some u)
def Ow (t:TypeId) (w:World) (lo hi:Nat) (v:Value) (xs:List α):Prop:=
 ∃ A c,v = .slice A xs.length c/\xs.length<=c/\c<=9223372036854775807/\(0<xs.length->∃ g cur,A=some ⟨g,0,none⟩/\lo<=g/\g<hi/\ML w g t cur/\cur.size=c*s /\
  ∀ (k:Nat) (h:k<xs.length) (j:Nat) (u:Value),(f xs[k])[j]? = some u->cur[k*s+j]? = some u)
end
section
variable {α:Type} {f:α->List Value} {s:Nat} {t:TypeId} {w w':World} {lo hi l h B:Nat} {v:Value} {xs:List α}
theorem Sl.uW (c:Nat) (A:Option Addr) (hc:c<=9223372036854775807):Sl f s w lo hi (.slice A 0 c) []:=⟨A,c,rfl,by simp,hc,λh=>absurd h<|by simp⟩
theorem Ow.uW (c:Nat) (A:Option Addr) (hc:c<=9223372036854775807):Ow f s t w lo hi (.slice A 0 c) []:=⟨A,c,rfl,by simp,hc,λh=>absurd h<|by simp⟩
theorem Ow.mono (x:Ow f s t w lo hi v xs) (h1:l<=lo) (h2:hi<=h):Ow f s t w l h v xs:=by
 obtain ⟨A,c,e,hc,hm,r⟩:=x;refine ⟨A,c,e,hc,hm,λhn=>?_⟩;obtain ⟨b,o,e2,hb1,hb2,hx⟩:=r hn;exact ⟨b,o,e2,by omega,by omega,hx⟩
theorem Sl.keep (x:Sl f s w lo hi v xs) (hs:w.heap.size<=w'.heap.size) (hk:∀ k,k<w.heap.size->lo<=k->k<hi->w'.heap[k]? = w.heap[k]?):Sl f s w' lo hi v xs:=by
 obtain ⟨A,c,e,hc,hm,r⟩:=x;refine ⟨A,c,e,hc,hm,λhn=>?_⟩;obtain ⟨b,o,e2,hb1,hb2,hb3,hx⟩:=r hn;refine ⟨b,o,e2,hb1,hb2,by omega,λk hk' j u hu=>?_⟩;rw [World.cell?_of_block (hk b hb3 hb1 hb2)];exact hx k hk' j u hu
theorem Ow.keep (x:Ow f s t w lo hi v xs) (hk:∀ k,k<w.heap.size->lo<=k->k<hi->w'.heap[k]? = w.heap[k]?):Ow f s t w' lo hi v xs:=by
 obtain ⟨A,c,e,hc,hm,r⟩:=x;refine ⟨A,c,e,hc,hm,λhn=>?_⟩;obtain ⟨g,cur,e2,hb1,hb2,hb3,hx⟩:=r hn;exact ⟨g,cur,e2,hb1,hb2,(hk g hb3.lt hb1 hb2).trans hb3,hx⟩
theorem Sl.below (x:Sl f s w lo hi v xs) (b:Below B w w') (hB:hi<=B):Sl f s w' lo hi v xs:=x.keep b.size λk _ _ h2=>b.block k (by omega)
theorem Ow.below (x:Ow f s t w lo hi v xs) (b:Below B w w') (hB:hi<=B):Ow f s t w' lo hi v xs:=x.keep λk _ _ h2=>b.block k (by omega)
theorem Sl.fr (x:Sl f s w lo hi v xs) (b:Fr l h w w') (hB:hi<=l\/h<=lo):Sl f s w' lo hi v xs:=x.keep b.size λk hk h1 h2=>b.block k hk (by omega)
theorem Ow.fr (x:Ow f s t w lo hi v xs) (b:Fr l h w w') (hB:hi<=l\/h<=lo):Ow f s t w' lo hi v xs:=x.keep λk hk h1 h2=>b.block k hk (by omega)
theorem Ow.sl (x:Ow f s t w lo hi v xs):Sl f s w lo hi v xs:=by
 obtain ⟨A,c,e,hc,hm,r⟩:=x;refine ⟨A,c,e,hc,hm,λhn=>?_⟩;obtain ⟨g,cur,e2,hb1,hb2,hb3,_,hx⟩:=r hn;refine ⟨g,0,e2,hb1,hb2,hb3.lt,λk hk j u hu=>?_⟩;rw [Nat.zero_add,hb3.cell];exact hx k hk j u hu
end
def Gh (v:Value):List Value:=[v]
def Ki (n:Int):List Value:=[.int .i64 n]
def AA (n:Int):List Value:=[.int .u8 n]
section
variable {α:Type} {g:α->Value} {f:α->List Value} {s:Nat} {w:World} {lo hi:Nat} {v:Value}
theorem Sl.one_ {xs:List α} (hf:∀ x,f x=[g x]) (x:Sl f 1 w lo hi v xs):∃ A c,v = .slice A xs.length c/\xs.length<=c/\c<=9223372036854775807/\(0<xs.length->∃ b o,A=some ⟨b,o,none⟩/\lo<=b/\b<hi/\b<w.heap.size /\
  ∀ (k:Nat) (h:k<xs.length),w.cell? ⟨b,o+k,none⟩=some (g xs[k])):=by
 obtain ⟨A,c,e,hc,hm,r⟩:=x;refine ⟨A,c,e,hc,hm,λhn=>?_⟩;obtain ⟨b,o,e2,hb1,hb2,hb3,hx⟩:=r hn;refine ⟨b,o,e2,hb1,hb2,hb3,λk hk=>?_⟩;have := hx k hk 0 (g xs[k]) (by rw [hf];rfl);simpa using this
theorem Sl.vals {xs:List Value} (x:Sl Gh 1 w lo hi v xs):∃ A c,v = .slice A xs.length c/\xs.length<=c/\c<=9223372036854775807/\(0<xs.length->∃ b o,A=some ⟨b,o,none⟩/\lo<=b/\b<hi/\b<w.heap.size /\
 ∀ (k:Nat) (h:k<xs.length),w.cell? ⟨b,o+k,none⟩=some xs[k]):=Sl.one_ (g:=λv=>v) (λ_=>rfl) x
theorem Sl.ints {xs:LI} (x:Sl Ki 1 w lo hi v xs):∃ A c,v = .slice A xs.length c/\xs.length<=c/\c<=9223372036854775807/\(0<xs.length->∃ b o,A=some ⟨b,o,none⟩/\lo<=b/\b<hi/\b<w.heap.size /\
 ∀ (k:Nat) (h:k<xs.length),w.cell? ⟨b,o+k,none⟩=some (.int .i64 xs[k])):=Sl.one_ (g:=λv => .int .i64 v) (λ_=>rfl) x
end
structure Ins where
 op:Int
 loc:Int
 reg:Int
 val:Int
 deriving DecidableEq,Inhabited
def Ins.v (x:Ins):Value := .agg #[.int .i64 x.op,.int .i64 x.loc,.int .i64 x.reg,.int .i64 x.val]
def Ins.cells (x:Ins):List Value:=[.int .i64 x.op,.int .i64 x.loc,.int .i64 x.reg,.int .i64 x.val]
def Ew (w:World) (b o:Nat) (x:Ins):Prop:=
 w.cell? ⟨b,o,none⟩=some (.int .i64 x.op)/\w.cell? ⟨b,o+1,none⟩=some (.int .i64 x.loc)/\w.cell? ⟨b,o+2,none⟩=some (.int .i64 x.reg)/\w.cell? ⟨b,o+3,none⟩=some (.int .i64 x.val)
def H5 (cs:Array Value) (o:Nat) (x:Ins):Prop:=cs[o]? = some (.int .i64 x.op)/\cs[o+1]? = some (.int .i64 x.loc)/\cs[o+2]? = some (.int .i64 x.reg)/\cs[o+3]? = some (.int .i64 x.val)
section
variable {w w':World} {b o p:Nat} {x y:Ins} {cs:Array Value} {t:TypeId} {g B lo hi:Nat} {v:Value} {xs:List Ins}
theorem Ew.below (h:Ew w b o x) (hb:Below B w w') (hlt:b<B):Ew w' b o x:=by
 unfold Ew at *;rw [hb.cell (by exact hlt),hb.cell (by exact hlt),hb.cell (by exact hlt),hb.cell (by exact hlt)];exact h
theorem H5.cells {k:Nat} (h:H5 cs k x):∀ (j:Nat) (u:Value),x.cells[j]? = some u->cs[k+j]? = some u:=by
 intro j u hu
 match j,hu with
 | 0,hu=>simp [Ins.cells] at hu;subst hu;exact h.1
 | 1,hu=>simp [Ins.cells] at hu;subst hu;exact h.2.1
 | 2,hu=>simp [Ins.cells] at hu;subst hu;exact h.2.2.1
 | 3,hu=>simp [Ins.cells] at hu;subst hu;exact h.2.2.2
 | n+4,hu=>simp [Ins.cells] at hu
theorem Sl.inss (x:Sl Ins.cells 4 w lo hi v xs):∃ A c,v = .slice A xs.length c/\xs.length<=c/\c<=9223372036854775807/\(0<xs.length->∃ b o,A=some ⟨b,o,none⟩/\lo<=b/\b<hi/\b<w.heap.size /\
  ∀ (k:Nat) (h:k<xs.length),Ew w b (o+k*4) xs[k]):=by
 obtain ⟨A,c,e,hc,hm,r⟩:=x;refine ⟨A,c,e,hc,hm,λhn=>?_⟩;obtain ⟨b,o,e2,hb1,hb2,hb3,hx⟩:=r hn;exact ⟨b,o,e2,hb1,hb2,hb3,λk hk=>⟨hx k hk 0 _ rfl,hx k hk 1 _ rfl,hx k hk 2 _ rfl,hx k hk 3 _ rfl⟩⟩
end
section
variable {α:Type} (f:α->List Value) (s:Nat)
def sj (w:World) (lo hi:Nat) (v:Value) (p:List<|List α):Prop:=
 ∃ vs:List Value,Sl Gh 1 w lo hi v vs/\vs.length=p.length/\∀ (k:Nat) (h:k<vs.length) (h':k<p.length),Sl f s w lo hi vs[k] p[k]
def sP (to ti:TypeId) (w:World) (lo hi:Nat) (v:Value) (p:List<|List α):Prop:=
 ∃ vs:List Value,Ow Gh 1 to w lo hi v vs/\vs.length=p.length/\(∀ (k:Nat) (h:k<vs.length) (h':k<p.length),Ow f s ti w lo hi vs[k] p[k]) /\
  ∀ (i j:Nat) (hi:i<vs.length) (hj:j<vs.length) (hi':i<p.length) (hj':j<p.length),i≠j->0<p[i].length->0<p[j].length->vs[i].ownBlock≠vs[j].ownBlock
end
section
variable {α:Type} {f:α->List Value} {s:Nat} {to ti:TypeId} {w w':World} {lo hi l h B:Nat} {v:Value} {p:List (List α)}
theorem sj.keep (x:sj f s w lo hi v p) (hs:w.heap.size<=w'.heap.size) (hk:∀ k,k<w.heap.size->lo<=k->k<hi->w'.heap[k]? = w.heap[k]?):sj f s w' lo hi v p:=by
 obtain ⟨vs,h1,h2,h3⟩:=x;exact ⟨vs,h1.keep hs hk,h2,λk a b=>(h3 k a b).keep hs hk⟩
theorem sP.keep (x:sP f s to ti w lo hi v p) (hk:∀ k,k<w.heap.size->lo<=k->k<hi->w'.heap[k]? = w.heap[k]?):sP f s to ti w' lo hi v p:=by
 obtain ⟨vs,h1,h2,h3,h4⟩:=x;exact ⟨vs,h1.keep hk,h2,λk a b=>(h3 k a b).keep hk,h4⟩
theorem sP.mono (x:sP f s to ti w lo hi v p) (h1:l<=lo) (h2:hi<=h):sP f s to ti w l h v p:=by
 obtain ⟨vs,g1,g2,g3,g4⟩:=x;exact ⟨vs,g1.mono h1 h2,g2,λk a b=>(g3 k a b).mono h1 h2,g4⟩
theorem sj.below (x:sj f s w lo hi v p) (b:Below B w w') (hB:hi<=B):sj f s w' lo hi v p:=x.keep b.size λk _ _ h2=>b.block k (by omega)
theorem sj.fr (x:sj f s w lo hi v p) (b:Fr l h w w') (hB:hi<=l\/h<=lo):sj f s w' lo hi v p:=x.keep b.size λk hk h1 h2=>b.block k hk (by omega)
theorem sP.fr (x:sP f s to ti w lo hi v p) (b:Fr l h w w') (hB:hi<=l\/h<=lo):sP f s to ti w' lo hi v p:=x.keep λk hk h1 h2=>b.block k hk (by omega)
theorem sP.sl (x:sP f s to ti w lo hi v p):sj f s w lo hi v p:=by
 obtain ⟨vs,h1,h2,h3,_⟩:=x;exact ⟨vs,h1.sl,h2,λk a b=>(h3 k a b).sl⟩
end
theorem yn {P:Program} (t e:TypeId) (i:TypeInfo) (z:Value) (ht:P.underlying t=some (.slice e)) (hi:P.info? e=some i) (hz:i.zero=some z)
  (kl kc:IntKind) (n c:Nat) (hnc:n<=c) (hbytes:i.bytes*c<=281474976710656) (h63:c<=9223372036854775807) (w:World) :
  (Instr.makeSlice t (.int kl (n:Int))<|.int kc (c:Int)).run P w = .ok (.slice (some ⟨w.heap.size,0,none⟩) n c) (w.alloc<|.cells (madeCells z.cells<|c*i.size) e):=by
 have hb:(i.bytes:Int)*(c:Int)<=281474976710656:=by
  have h:((i.bytes*c:Nat):Int)<=281474976710656:=by omega
  rwa [Int.natCast_mul] at h
 have hr:=run_make (P:=P) w t e i z ht hi hz kl kc n c (by omega) (by omega) hb (by omega);simp only [tnn] at hr;exact hr
theorem nE {α:Type} (xs:List α) (k:Nat) (h:k<xs.length):xs.take (k+1)=xs.take k++[xs[k]]:=by
 rw [List.take_succ_eq_append_getElem h]
def upd {α:Type} (G:Nat->α) (k:Nat) (v:α):Nat->α:=λj=>if j=k then v else G j
theorem upd_same {α:Type} (G:Nat->α) (k:Nat) (v:α):upd G k v k=v:=if_pos rfl
theorem upd_ne {α:Type} (G:Nat->α) {k j:Nat} (v:α) (h:j≠k):upd G k v j=G j:=if_neg h
theorem oU {cs:Array Value} {i:Nat} {u:Value} (h:i<cs.size):(cs.setIfInBounds i u)[i]? = some u:=by simp [h]
theorem sS {cs:Array Value} {i j:Nat} {u:Value} (h:i≠j):(cs.setIfInBounds i u)[j]? = cs[j]? := by rw [Array.getElem?_setIfInBounds_ne h]
theorem aZ {a b:Bool} (h:a=b):Ending.returned (.bool a)=Ending.returned (.bool b):=by rw [h]
theorem sU {k:IntKind} {a b:Int} (h:a=b):Ending.returned (.int k a) = .returned (.int k b):=by rw [h]
open Go.ChangeShapes Go.WideShapes Go.ChangeAt Go.RowKit
theorem Tryz.infoIns:(Tryz.prog.info? 69).map (λi=>(i.zero,i.size,i.bytes))=some (some<|.agg #[.int .i64 0,.int .i64 0,.int .i64 0,.int .i64 0],4,32):=by kernel_rfl
theorem Tryz.infoInsS:(Tryz.prog.info? 66).map (λi=>(i.zero,i.size,i.bytes))=some (some<|.slice none 0 0,1,24):=by kernel_rfl
def total {α:Type} (p:List<|List α):Nat:=(p.map List.length).sum
theorem oW {α:Type} (p:List<|List α) (k:Nat) (h:k<p.length):total (p.take<|k+1)=total (p.take k)+p[k].length:=by
 unfold total;rw [nE _ _ h,List.map_append,List.sum_append];simp
theorem rL {α:Type} (p:List<|List α) (k:Nat):total (p.take k)<=total p:=by
 unfold total
 conv=>rhs;rw [<- List.take_append_drop k p,List.map_append,List.sum_append]
 omega
theorem uf {α:Type} (p:List<|List α) (k:Nat) (h:k<p.length):p[k].length<=total p:=by
 have h1:=oW p k h;have h2:=rL p<|k+1;omega
section
variable {α:Type} {f:α->List Value} {s:Nat} {t:TypeId} {w w':World} {lo hi:Nat} {v:Value} {xs:List α} {row:Option Nat}
theorem Ow.grown (x:Ow f s t w lo hi v xs) (hg:w.grownBy w' row) (hne:0<xs.length->v.ownBlock≠row):Ow f s t w' lo hi v xs:=by
 obtain ⟨A,c,rfl,hc,hm,r⟩:=x;refine ⟨A,c,rfl,hc,hm,λhn=>?_⟩;obtain ⟨g,cur,rfl,hb1,hb2,hb3,hx⟩:=r hn;have hq:some g≠row:=by simpa [Value.ownBlock] using hne hn
 exact ⟨g,cur,rfl,hb1,hb2,(hg.block g hb3.lt hq).trans hb3,hx⟩
theorem Ow.block (x:Ow f s t w lo hi v xs) (hn:0<xs.length):∃ g cur,v.ownBlock=some g/\lo<=g/\g<hi/\ML w g t cur:=by
 obtain ⟨A,c,rfl,hc,hm,r⟩:=x;obtain ⟨g,cur,rfl,hb1,hb2,hb3,hx⟩:=r hn;exact ⟨g,cur,rfl,hb1,hb2,hb3⟩
end
section
variable {P:Program} (w:World)
def Src (w:World) (A:Option Addr) (m:Nat) (news:List Value):Prop:=0<m->∃ ad,A=some ad/\∀ j u,news[j]? = some u->w.cell? (ad.add j)=some u
theorem sV (base:Nat) (t ty e:TypeId) (i:TypeInfo) (size:Nat) (ht:P.underlying t=some (.slice e)) (hi:P.info? e=some i)
  (v:Value) (n:Nat) (xs:List Value) (hown:w.ownsRow base e size v n xs) (c:Nat):(Builtin.append_ #[t,t] ty #[v,.slice none 0 c]).run P w = .ok v w:=by
 rcases hown.2 with ⟨rfl,rfl⟩ | ⟨g,cap,cur,rfl,_,_,hnc,_⟩
 ·simp [Builtin.append_,run_underlying ht,sizeOf,typeInfo,hi,Builtin.lenOf,Builtin.firstCells]
 simp [Builtin.append_,run_underlying ht,sizeOf,typeInfo,hi,Builtin.lenOf,Builtin.firstCells,hnc,storeCells]
theorem wS (base:Nat) (t ty e:TypeId) (i:TypeInfo) (z:Value) (size bytes:Nat) (ht:P.underlying t=some (.slice e)) (hi:P.info? e=some i) (hz:i.zero=some z)
  (hsize:i.size=size) (hby:i.bytes=bytes) (hzs:z.cells.size=size) (hsz:0<size)
  (v:Value) (n:Nat) (xs:List Value) (hown:w.ownsRow base e size v n xs)
  (A:Option Addr) (m c:Nat) (news:List Value) (hl:news.length=m*size) (hr:Src w A m news) (h1:∀ u∈news,u.oneCell'=true)
  (h63:n+m<=maxLen) (hbytes:(n+m)*bytes<=140737488355328) (hbase:base<=w.heap.size) :
  ∃ v' w',(Builtin.append_ #[t,t] ty #[v,.slice A m c]).run P w = .ok v' w'/\w'.ownsRow base e size v' (n+m) (xs++news)/\w.grownBy w' v.ownBlock /\
   (v'.ownBlock=v.ownBlock\/v'.ownBlock=some w.heap.size):=by
 rcases A with _ | ad
 ·have hm:m=0:=by
   rcases Nat.eq_zero_or_pos m with h0 | h0
   ·exact h0
   obtain ⟨ad,h,_⟩:=hr h0
   cases h
  subst hm;have hn:news=[]:=Pj (by simpa using hl);subst hn;exact ⟨v,w,sV w base t ty e i size ht hi v n xs hown c,by simpa using hown,World.grownBy.refl w _,.inl rfl⟩
 have hcells:∀ j u,news[j]? = some u->w.cell? (ad.add j)=some u:=by
  intro j u hu;rcases Nat.eq_zero_or_pos m with h0 | h0
  ·subst h0;have hn:news=[]:=Pj (by simpa using hl);subst hn;simp at hu
  obtain ⟨ad',h,hc⟩:=hr h0;injection h with h;subst h;exact hc j u hu
 obtain ⟨v',w',hrun,h2,h3,_,h5⟩:=run_append_own_at (P:=P) w base t ty e i z size bytes ht hi hz hsize hby hzs hsz v n xs hown ad m c news hl hcells h1 h63 hbytes hbase;exact ⟨v',w',hrun,h2,h3,h5⟩
theorem yp {o:Oper} {a:Act} {K:Act->World->Prop} {Q:Exit->Act->World->Prop} (s x:Operand) (t:TypeId)
  (ho:o.op = .call { callee := .builtin .append,args := #[s,x],argTypes := #[t,t] })
  (base:Nat) (e:TypeId) (i:TypeInfo) (z:Value) (size bytes:Nat) (ht:P.underlying t=some (.slice e)) (hi:P.info? e=some i) (hz:i.zero=some z)
  (hsize:i.size=size) (hby:i.bytes=bytes) (hzs:z.cells.size=size) (hsz:0<size)
  (v:Value) (n:Nat) (xs:List Value) (hs:a.eval s=v) (hown:w.ownsRow base e size v n xs)
  (A:Option Addr) (m c:Nat) (news:List Value) (hx:a.eval x = .slice A m c) (hl:news.length=m*size) (hr:Src w A m news) (h1:∀ u∈news,u.oneCell'=true)
  (h63:n+m<=maxLen) (hbytes:(n+m)*bytes<=140737488355328) (hbase:base<=w.heap.size)
  (h:∀ v' w',w'.ownsRow base e size v' (n+m) (xs++news)->w.grownBy w' v.ownBlock->(v'.ownBlock=v.ownBlock\/v'.ownBlock=some w.heap.size)->K (a.put o.dst v') w'):o.wp P a w K Q:=by
 obtain ⟨v',w',hrun,h2,h3,h4⟩:=wS (P:=P) w base t o.type e i z size bytes ht hi hz hsize hby hzs hsz v n xs hown A m c news hl hr h1 h63 hbytes hbase;unfold Oper.wp execOp;simp only [ho,resolve,invoke,builtin,Sem.run_bind,Sem.run_pure,Result.andThen_ok,List.map_toArray,List.map_cons,List.map_nil,hs,hx,hrun];exact h v' w' h2 h3 h4
theorem j6 {ops:Array Oper} {rest:List Oper} {o:Oper} {a:Act} {Q:Exit->Act->World->Prop} (hgd:o.guard=none) (s x:Operand) (t:TypeId)
  (ho:o.op = .call { callee := .builtin .append,args := #[s,x],argTypes := #[t,t] })
  (base:Nat) (e:TypeId) (i:TypeInfo) (z:Value) (size bytes:Nat) (ht:P.underlying t=some (.slice e)) (hi:P.info? e=some i) (hz:i.zero=some z)
  (hsize:i.size=size) (hby:i.bytes=bytes) (hzs:z.cells.size=size) (hsz:0<size)
  (v:Value) (n:Nat) (xs:List Value) (hs:a.eval s=v) (hown:w.ownsRow base e size v n xs)
  (A:Option Addr) (m c:Nat) (news:List Value) (hx:a.eval x = .slice A m c) (hl:news.length=m*size) (hr:Src w A m news) (h1:∀ u∈news,u.oneCell'=true)
  (h63:n+m<=maxLen) (hbytes:(n+m)*bytes<=140737488355328) (hbase:base<=w.heap.size)
  (h:∀ v' w',w'.ownsRow base e size v' (n+m) (xs++news)->w.grownBy w' v.ownBlock->(v'.ownBlock=v.ownBlock\/v'.ownBlock=some w.heap.size)->wpList P ops Q rest (a.put o.dst v') w'):wpList P ops Q (o::rest) a w:=
 wpList_plain hgd λ_ hK=>yp w s x t ho base e i z size bytes ht hi hz hsize hby hzs hsz v n xs hs hown A m c news hx hl hr h1 h63 hbytes hbase λv' w' h2 h3 h4=>hK _ _ (h v' w' h2 h3 h4)
theorem ma {ops:Array Oper} {rest:List Oper} {o:Oper} {a:Act} {Q:Exit->Act->World->Prop} (hgd:o.guard=none) (s x:Operand) (t:TypeId)
  (ho:o.op = .call { callee := .builtin .append,args := #[s,x],argTypes := #[t,t] })
  (base:Nat) (e:TypeId) (i:TypeInfo) (z:Value) (size bytes:Nat) (ht:P.underlying t=some (.slice e)) (hi:P.info? e=some i) (hz:i.zero=some z)
  (hsize:i.size=size) (hby:i.bytes=bytes) (hzs:z.cells.size=size) (hsz:0<size)
  (v:Value) (n:Nat) (xs:List Value) (hs:a.eval s=v) (hown:w.ownsRow base e size v n xs)
  (A:Option Addr) (m c:Nat) (news:List Value) (hx:a.eval x = .slice A m c) (hl:news.length=m*size) (hr:Src w A m news) (h1:∀ u∈news,u.oneCell'=true)
  (h63:n+m<=maxLen) (hbytes:(n+m)*bytes<=140737488355328) (hbase:base<=w.heap.size)
  (hpos:0<n+m)
  (h:∀ g cap w',w'.ownsRow base e size (.slice (some ⟨g,0,none⟩) (n+m) cap) (n+m) (xs++news)->w.grownBy w' v.ownBlock->(v.ownBlock=some g\/g=w.heap.size)->g<w'.heap.size->wpList P ops Q rest (a.put o.dst<|.slice (some ⟨g,0,none⟩) (n+m) cap) w'):wpList P ops Q (o::rest) a w:=by
 refine j6 w hgd s x t ho base e i z size bytes ht hi hz hsize hby hzs hsz v n xs hs hown A m c news hx hl hr h1 h63 hbytes hbase λv' w' h2 h3 h4=>?_;obtain ⟨g,cap,rfl,_,hlt⟩:=h2.form hpos;refine h g cap w' h2 h3 ?_ hlt;rcases h4 with h4 | h4
 ·exact .inl h4.symm
 exact .inr (by simpa [Value.ownBlock] using h4)
end
theorem mO (b o j:Nat):(⟨b,o,none⟩:Addr).add j=⟨b,o+j,none⟩:=by
 unfold Addr.add
 by_cases h:j=0 <;> simp [h]
section
variable {α:Type} {f:α->List Value} {s:Nat} {t:TypeId} {w w':World} {lo hi:Nat} {v:Value} {xs:List α}
theorem flat_get (hf:∀ x,(f x).length=s) (xs:List α) (k:Nat) (h:k<xs.length) (j:Nat) (hj:j<s):(xs.flatMap f)[k*s+j]? = (f xs[k])[j]? := by
 induction xs generalizing k with
 | nil=>simp at h
 | cons x r ih=>
  rw [Pe]
  match k,h with
  | 0,_=>
   rw [gal (by rw [hf];omega)];simp
  | k+1,h=>
   have h2:k<r.length:=by simpa using h
   rw [gar (by rw [hf,OY];omega)];have := ih k h2;rw [hf,show (k+1)*s+j-s=k*s+j from by rw [OY];omega];simpa using this
theorem pW (hf:∀ x,(f x).length=s) (xs:List α):(xs.flatMap f).length=xs.length*s:=by
 induction xs with
 | nil=>simp
 | cons x r ih=>rw [Pe,lla,hf,ih,llc,OY];omega
theorem xC (hs:0<s) {n q:Nat} (h:q<n*s):q / s<n/\q % s<s/\q=q / s*s+q % s:=
 ⟨(Nat.div_lt_iff_lt_mul hs).2 h,Nat.mod_lt _ hs,by rw [Nat.mul_comm];exact (Nat.div_add_mod q s).symm⟩
theorem Sl.src (hf:∀ x,(f x).length=s) (hs:0<s) (x:Sl f s w lo hi v xs):∃ A c,v = .slice A xs.length c/\Src w A xs.length (xs.flatMap f):=by
 obtain ⟨A,c,rfl,hc,hm,r⟩:=x;refine ⟨A,c,rfl,λhn=>?_⟩;obtain ⟨b,o,rfl,_,_,_,hx⟩:=r hn;refine ⟨_,rfl,λq u hu=>?_⟩;have hq:q<(xs.flatMap f).length:=(ges hu).1;rw [pW hf] at hq;obtain ⟨h1,h2,h3⟩:=xC hs hq;rw [h3,flat_get hf xs _ h1 _ h2] at hu;have := hx _ h1 _ _ hu;rw [mO,h3,<- Nat.add_assoc];exact this
theorem Ow.of_row (hf:∀ x,(f x).length=s) {n:Nat} {cells:List Value} (h:w.ownsRow lo t s v n cells) (hn:n=xs.length) (hc:cells=xs.flatMap f):Ow f s t w lo w.heap.size v xs:=by
 subst hn hc;rcases h.2 with ⟨rfl,h0⟩ | ⟨g,cap,cur,rfl,hb,hg,hle,hm,hsz,htake⟩
 ·refine ⟨none,0,by rw [h0],by omega,by omega,λhn=>absurd hn<|by omega⟩
 simp only [maxLen] at hm;refine ⟨_,cap,rfl,hle,by omega,λ_=>⟨g,cur,rfl,hb,(Array.getElem?_eq_some_iff.1 hg).1,hg,hsz,λk hk j u hu=>?_⟩⟩;have hj:j<s:=by
  have := (ges hu).1
  rwa [hf] at this
 rw [<- flat_get hf xs k hk j hj,<- htake,O0] at hu
 split at hu
 ·simpa using hu
 cases hu
theorem Ow.row (hf:∀ x,(f x).length=s) (hs:0<s) (h:Ow f s t w lo hi v xs) (hn:0<xs.length):w.ownsRow lo t s v xs.length (xs.flatMap f):=by
 obtain ⟨A,c,rfl,hc,hm,r⟩:=h;obtain ⟨g,cur,rfl,hg1,hg2,hB,hsz,hx⟩:=r hn;refine ⟨pW hf xs,.inr ⟨g,c,cur,rfl,hg1,hB,hc,by simp only [maxLen];omega,hsz,?_⟩⟩;have hle:xs.length*s<=c*s:=O8 s hc;apply List.ext_getElem?;intro q
 by_cases hq:q<xs.length*s
 ·obtain ⟨h1,h2,h3⟩:=xC hs hq;rw [O0,if_pos hq];have hlt:q % s<(f xs[q / s]).length:=by rw [hf];exact h2
  have := hx _ h1 _ _<|geq hlt;rw [<- h3] at this;rw [Pb,this,<- geq hlt,<- flat_get hf xs _ h1 _ h2,<- h3]
 rw [gen (Nat.le_trans (List.length_take_le _ _)<|by omega),gen (by rw [pW hf];omega)]
end
theorem sZ (x:Ins):x.cells.length=4:=rfl
theorem AC (xs:List Ins):∀ u∈xs.flatMap Ins.cells,u.oneCell'=true:=by
 intro u hu;rw [List.mem_flatMap] at hu;obtain ⟨x,_,hx⟩:=hu;simp [Ins.cells] at hx;rcases hx with rfl | rfl | rfl | rfl <;> rfl
theorem IZ (x:Value):(Gh x).length=1:=rfl
theorem Ex (xs:List Value):xs.flatMap Gh=xs:=by
 induction xs with
 | nil=>rfl
 | cons x r ih=>rw [Pe,ih];rfl
theorem dO (x lo hi:Int) (b:Bool) (hb:(decide (lo<=x)&&decide (x<=hi))=b) (w:World) :
  Calls Tryz.prog 47 #[.int .i64 x,.int .i64 lo,.int .i64 hi] w λe w'=>e = .returned (.bool b)/\w=w':=by
 subst hb
 by_cases h1:lo<=x
 ·by_cases h2:x<=hi
  ·go_enter Tryz.func47,Tryz.ntmps47
   go_wp2
   all_goals (go_ret;exact ⟨aZ (by simp [h1,h2]),rfl⟩)
  go_enter Tryz.func47,Tryz.ntmps47
  go_wp2
  all_goals (go_ret;exact ⟨aZ (by simp;omega),rfl⟩)
 go_enter Tryz.func47,Tryz.ntmps47
 go_wp2
 all_goals (go_ret;exact ⟨aZ (by simp;omega),rfl⟩)
theorem sP.uW {α:Type} {f:α->List Value} {s:Nat} {to ti:TypeId} {w:World} {lo hi:Nat} (A:Option Addr) (c:Nat) (hc:c<=9223372036854775807):sP f s to ti w lo hi (.slice A 0 c) []:=
 ⟨[],⟨A,c,rfl,by simp,hc,λh=>absurd h<|by simp⟩,rfl,λk h=>absurd h (by simp),λi j h=>absurd h<|by simp⟩
def gq (x:MI):Ins:=⟨x.Op,x.Loc,x.Reg,x.Val⟩
theorem rM {α β:Type} (e:α->β) (p:List<|List α):total (p.map λr=>r.map e)=total p:=by
 unfold total;rw [List.map_map]
 congr 1
 exact Ph λr _=>llm _
end
end Go.Proofs.YtjcmfddobaplbaaGreat
