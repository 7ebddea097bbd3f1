/- Texts joined. No conditions. -/
import Derived.Lib.Bytealg
import Derived.Laws.Externs
import Derived.Below
import Derived.Laws.OwnMore
import Derived.Deep.Draws
import Derived.Laws.Rows
import Derived.Laws.MakeOwn
import Derived.Laws.Entries
import Derived.Lib.Hide
import Derived.Test.YtdmahcaohkplcaaGreatDoorRows
import Derived.WalkKit
import Derived.ProofKit
import Derived.Deep.RegionHeld3
import Derived.Deep.DrawnRows
import Derived.Maps.AppendAt
import Derived.Deep.AppendLies
import Derived.RegionTactic
import Derived.OwnWalk
import Derived.Outline
import Derived.Deep.RegionLaw
import Derived.Deep.RegionWith
import Derived.ChangeAlike
import Derived.Test.YtdmahcaohkplcaaGreatDoorC4
namespace Go.Proofs.YtdmahcaohkplcaaGreatDoor
noncomputable section
open _root_.Inhabited renaming default -> Uo
open _root_.Bool renaming true -> Uq
open _root_.Bool renaming false -> Ur
open _root_.Option renaming some -> Us
open _root_.Option renaming none -> Ut
open _root_.Decidable renaming decide -> Uu
open _root_.Go.Proofs.Tryz
open _root_.Go.Proofs.Tryz renaming prog -> Uv
open _root_.Nat renaming le_refl -> W8, zero_le -> W9, mul_assoc -> Xb, le_trans -> Xd, mul_pos -> Xe, le_add_left -> Xg, le_mul_of_pos_right -> Xj
open _root_.List renaming take_of_length_le -> Xa, pairwise_cons -> Xf, map_append -> Xh, sum_append -> Xi, countP_le_length -> Xl, getElem_of_mem -> Xm
open _root_.Int renaming mul_nonneg -> Xk
open Go.RowKit
def EqS (a b:AV):Prop:=∀ (w:World) (fz:Nat->Prop) (v:Value),FRel w fz a v->FRel w fz b v
def GH:List AV->List AV->Prop
 | [],[]=>True
 | a::r,b::q=>EqS a b/\GH r q
 | _,_=>False
theorem EqS.refl (a:AV):EqS a a:=λ_ _ _ h=>h
theorem GH.refl:∀ r:List AV,GH r r
 | []=>trivial
 | a::r=>⟨EqS.refl a,GH.refl r⟩
theorem GH.len:∀ {r q:List AV},GH r q->r.length=q.length
 | [],[],_=>rfl
 | a::r,b::q,h=>by rw [llc,llc,GH.len h.2]
 | [],_::_,h=>h.elim
 | _::_,[],h=>h.elim
theorem GH.get:∀ {r q:List AV},GH r q->∀ {j:Nat} {b:AV},q[j]? = Us b->∃ a,r[j]? = Us a/\EqS a b
 | [],[],_,j,b,h=>by simp at h
 | a::r,b::q,h,0,c,hc=>by
  simp only [List.getElem?_cons_zero,sie] at hc;subst hc;exact ⟨a,rfl,h.1⟩
 | a::r,b::q,h,j+1,c,hc=>by
  simp only [List.getElem?_cons_succ] at hc ⊢;exact h.2.get hc
 | [],_::_,h,_,_,_=>h.elim
 | _::_,[],h,_,_,_=>h.elim
theorem EqS.sl {n:Nat} {row row':Nat->List AV} (he:∀ i,i<n->GH (row i) (row' i)):EqS (.sl n row) (.sl n row'):=λw fz v h=>by
 cases h with
 | @sl _ cap s g o _ a us hc hm ha hs hu h1 h3=>
  refine .sl (s:=s) (g:=g) (o:=o) us hc hm ha (λi hi=>?_) (λi j b hi hj=>?_) (λi j b hi hj=>?_) λi j b hi hj=>?_
  ·rw [<- (he i hi).len];exact hs i hi
  ·obtain ⟨a',ha',_⟩:=(he i hi).get hj;exact hu i j a' hi ha'
  ·obtain ⟨a',ha',_⟩:=(he i hi).get hj;exact h1 i j a' hi ha'
  obtain ⟨a',ha',e⟩:=(he i hi).get hj;exact e _ _ _<|h3 i j a' hi ha'
theorem EqS.fp {row row':List AV} (he:GH row row') {j:Nat}:EqS (.fp row j) (.fp row' j):=λw fz v h=>by
 cases h with
 | fp us hg hlt hu h1 h3=>
  refine .fp us hg hlt (λj b hj=>?_) (λj b hj=>?_) λj b hj=>?_
  ·obtain ⟨a',ha',_⟩:=he.get hj;exact hu j a' ha'
  ·obtain ⟨a',ha',_⟩:=he.get hj;exact h1 j a' ha'
  obtain ⟨a',ha',e⟩:=he.get hj;exact e _ _ _<|h3 j a' ha'
theorem Qe {c:Cx} {n:Nat} {row:Nat->List AV} {b:AV} {v:Value} (he:EqS (.sl n row) b) (h:c.rel (.sl n row) v):c.rel b v := .fr<|he _ _ _<|wY h
theorem BF {c:Cx} {row row':List AV} {v:Value} {j:Nat} (he:GH row row') (h:c.rel (.fp row j) v):c.rel (.fp row' j) v := .fr<|EqS.fp he _ _ _<|wZ h
theorem EqS.eL {α β:Type} [Inhabited α] [Inhabited β] {f:α->List AV} {g:β->List AV} {i:α->β} (h:∀ x,GH (f x)<|g<|i x) (l:List α):EqS (eL f l) (eL g<|l.map i):=by
 unfold Go.Proofs.YtdmahcaohkplcaaGreatDoor.eL;rw [llm];refine .sl λk hk=>?_;have e1:l.getD k Uo=l[k]:=by rw [gdq,geq hk];rfl
 have e2:(l.map i).getD k Uo=i l[k]:=by rw [gdq,List.getElem?_map,geq hk];rfl
 rw [e1,e2];exact h _
theorem IU {α β:Type} [Inhabited α] [Inhabited β] {f:α->List AV} {g:β->List AV} {i:α->β} {c:Cx} {v:Value} (h:∀ x,GH (f x)<|g<|i x) {l:List α} (hv:c.rel (eL f l) v):c.rel (eL g<|l.map i) v:=Qe (EqS.eL h l) hv
theorem row_in {α:Type} [Inhabited α] {f:α->List AV} {r:List α->Nat->List AV} (h0:∀ x l,r (x::l) 0=f x) (h1:∀ x l i,r (x::l) (i+1)=r l i):∀ (l:List α) (i:Nat),i<l.length->r l i=f (l.getD i Uo)
 | [],i,h=>by simp at h
 | x::l,0,_=>h0 x l
 | x::l,i+1,h=>by
  rw [h1,row_in h0 h1 l i (by simpa using h)]
  rfl
theorem EqS.slr {α:Type} [Inhabited α] {f:α->List AV} {r:List α->Nat->List AV} (h0:∀ x l,r (x::l) 0=f x) (h1:∀ x l i,r (x::l) (i+1)=r l i) (l:List α):EqS (.sl l.length<|r l) (Go.Proofs.YtdmahcaohkplcaaGreatDoor.eL f l):=
 .sl λi hi=>by rw [row_in h0 h1 l i hi];exact GH.refl _
theorem EqS.slr' {α:Type} [Inhabited α] {f:α->List AV} {r:List α->Nat->List AV} (h0:∀ x l,r (x::l) 0=f x) (h1:∀ x l i,r (x::l) (i+1)=r l i) (l:List α):EqS (Go.Proofs.YtdmahcaohkplcaaGreatDoor.eL f l) (.sl l.length<|r l):=
 .sl λi hi=>by rw [row_in h0 h1 l i hi];exact GH.refl _
theorem zrC {a a':AV} {zs zr:List AV} (h:∀ (cx:Cx) (v:Value),cx.rel a v->cx.rel a' v) (t:ZrR zs zr):ZrR (a::zs) (a'::zr):=⟨by rw [llc,llc,t.1],λcx j b b' v hb hb' hr=>by
 match j with
 | 0=>
  obtain rfl:=osl hb;obtain rfl:=osl hb';exact h cx v hr
 | j+1=>exact t.2 cx j b b' v (by simpa using hb) (by simpa using hb') hr⟩
section
variable {P:Program} {ρ:Operand->AV} {x:Operand} {t e:TypeId} {ag:Bool}
theorem TS.slG {α:Type} [Inhabited α] {c:α->List AV} (l:List α) {n w:Nat} {row:List AV} (hu:P.underlying t=Us (.array n e)) (ty:TyF P e ag w) (hx:ρ x = .fp row 0) (hl:l.length=n) (hn:(Nat.ble n 16777216)=Uq) (hr:row.length=n*w/\∀ i,i<n->(row.drop<|i*w).take w=c (l.getD i Uo)) :
  TS P ρ (.slice t x Ut Ut Ut) (eL c l):=by
 have hn':=nlb hn;have key:TS P ρ (.slice t x Ut Ut Ut) (.sl n λi=>(row.drop<|0+i*w).take w) := .mk λK hK=>by
  show Aa P ρ (.slice t x Ut Ut Ut) K;simp only [Aa,zg,hu,hx,Option.map_none];show (0<=(0:Int)/\(0:Int)<=(n:Int)/\(n:Int)<=(n:Int)/\0+n*P.cellsOf e<=row.length/\(P.info? e).isSome=Uq/\n<=9223372036854775807)/\_;rw [ty.cells];exact ⟨⟨by omega,by omega,by omega,by omega,ty.info,by omega⟩,hK⟩
 refine key.res λC v hv=>?_;unfold Go.Proofs.YtdmahcaohkplcaaGreatDoor.eL;rw [hl];exact G7 (λi hi=>by rw [Nat.zero_add];exact hr.2 i hi) hv
theorem TS.ldG {α:Type} [Inhabited α] {c:α->List AV} {l:List α} (a:AV) {row:List AV} {q:Nat} (tt:TyF P t ag 1) (hx:ρ x = .fp row (0+q*1)) (hr:∀ q,q<l.length->[row.getD q .top]=c (l.getD q Uo)/\q<row.length) (hq:q<l.length) (ha:c (l.getD q Uo)=[a]) (hag:ag=Ur):TS P ρ (.load t x) a:=by
 subst hag;refine TS.loadfp a tt hx ?_;obtain ⟨h1,h2⟩:=hr q hq;show row[0+q*1]? = Us a;rw [Nat.zero_add,Nat.mul_one,geq h2];rw [ha,gdq,geq h2] at h1;injection h1 with h1;exact congrArg Us h1
end
section
variable {P:Program} {ρ:Operand->AV} {H:AH}
theorem TS.extB {cl:Call} {f x y:Operand} {g:FuncId} {fn:Func} {e:Array Value->Sem Value} {s:BA} {c n:Int} (hc:cl.callee = .value f) (hf:ρ f = .fn (.func g) []) (ha:cl.args = #[x,y]) (hx:ρ x=St s) (hy:ρ y=Y c)
  (h1 : P.funcs[g]? = some fn) (h2 : (fn.name == "runtime.NumGoroutine") = false) (h3 : fn.body.isNone = true) (h4 : Extern.findNext fn = none) (h5 : Extern.find fn = some e)
  (hr:∀ w:World,(e #[.string s,.int .u8 c]).run P w = .ok (.int .i64 n) w):TS P ρ (.call cl) (I n):=λo ho G=>by
 intro C a K Q hH hrel hxs hK;have hf1:=hf ▸ hxs f (by rw [ho];simp [Op.operands,Call.operands,hc]);obtain ⟨vs,he,hl,_⟩:=Af hf1;obtain rfl:vs = #[]:=by
  cases vs with
  | mk l=>cases l with
   | nil=>rfl
   | cons a l=>simp at hl
 have hx1:=hx ▸ hxs x (by rw [ho];simp [Op.operands,Call.operands,ha]);have hy1:=hy ▸ hxs y (by rw [ho];simp [Op.operands,Call.operands,ha]);obtain ⟨ex,_⟩:=gL hx1;obtain ⟨ey,_⟩:=gL hy1;have hrun:(execOp a.eval o).run P C.w = .ok (.value<|.int .i64 n) C.w:=by
  rw [execOp,ho];simp only [resolve,hc,he,Deferred.ofValue,Sem.run_bind,Sem.run_pure,Result.andThen_ok,invoke];have := run_callFunc_extern h1 h2 h3 h4 h5 (cl.args.map a.eval ++ #[]) C.w;have e2:cl.args.map a.eval ++ #[] = #[.string s,.int .u8 c]:=by rw [ha];simp [ex,ey]
  rw [e2] at this;rw [show #[]++Array.map a.eval cl.args ++ #[] = #[.string s,.int .u8 c] by rw [ha];simp [ex,ey],this,hr]
  rfl
 unfold Oper.wp;rw [hrun,Oper.upon_value];exact hK _ C hH hrel (Ext.refl C)<|.fr<|.v rfl
def SC (s:BA) (c:Int):Int:=((Lib.countByte s.data.toList c.toNat.toUInt8:Nat):Int)
def SD (s:BA) (c:Int):Int:=Lib.indexByte s.data.toList c.toNat.toUInt8
theorem TS.extCount {cl:Call} {f x y:Operand} {g:FuncId} {fn:Func} {s:BA} {c:Int} (hc:cl.callee = .value f) (hf:ρ f = .fn (.func g) []) (ha:cl.args = #[x,y]) (hx:ρ x=St s) (hy:ρ y=Y c)
  (h1 : P.funcs[g]? = some fn) (h2 : (fn.name == "runtime.NumGoroutine") = false) (h3 : fn.body.isNone = true) (h4 : Extern.findNext fn = none) (h5 : Extern.find fn = some Extern.BytealgCount.count) : TS P ρ (.call cl) (I (SC s c)) :=
 TS.extB hc hf ha hx hy h1 h2 h3 h4 h5 λw=>Lib.run_countString s c w
theorem TS.extIndex {cl:Call} {f x y:Operand} {g:FuncId} {fn:Func} {s:BA} {c:Int} (hc:cl.callee = .value f) (hf:ρ f = .fn (.func g) []) (ha:cl.args = #[x,y]) (hx:ρ x=St s) (hy:ρ y=Y c)
  (h1 : P.funcs[g]? = some fn) (h2 : (fn.name == "runtime.NumGoroutine") = false) (h3 : fn.body.isNone = true) (h4 : Extern.findNext fn = none) (h5 : Extern.find fn = some Extern.BytealgIndexByte.indexByte) : TS P ρ (.call cl) (I (SD s c)) :=
 TS.extB hc hf ha hx hy h1 h2 h3 h4 h5 λw=>Lib.run_indexByteString s c w
end
set_option maxRecDepth 100000
def ER:List BA:=[(⟨#[]⟩:BA),(⟨#[97,99,121,99,108,105,99]⟩:BA),(⟨#[105,114,114,101,102]⟩:BA),(⟨#[101,109,112,116,121]⟩:BA)]
def Si:List AV:=[St (⟨#[]⟩:BA),St (⟨#[97,99,121,99,108,105,99]⟩:BA),St (⟨#[105,114,114,101,102]⟩:BA),St (⟨#[101,109,112,116,121]⟩:BA)]
theorem Qf:∀ q,q<ER.length->[Si.getD q .top]=cS (ER.getD q Uo)/\q<Si.length
 | 0,_=>⟨rfl,by decide⟩
 | 1,_=>⟨rfl,by decide⟩
 | 2,_=>⟨rfl,by decide⟩
 | 3,_=>⟨rfl,by decide⟩
 | q+4,h=>absurd h (Nat.not_lt.2<|Xg 4 q)
theorem Og:Si.length=4*1/\∀ i,i<4->(Si.drop (i*1)).take 1=cS (ER.getD i Uo):=⟨rfl,λi h=>by
 match i,h with
 | 0,_=>rfl
 | 1,_=>rfl
 | 2,_=>rfl
 | 3,_=>rfl
 | q+4,h=>exact absurd h (Nat.not_lt.2 (Xg 4 q))⟩
def He:List BA:=[(⟨#[112,111]⟩:BA),(⟨#[108,111,99]⟩:BA),(⟨#[101,120,116]⟩:BA),(⟨#[114,102]⟩:BA),(⟨#[99,111]⟩:BA),(⟨#[102,114]⟩:BA),(⟨#[102,101,110,99,101]⟩:BA),(⟨#[119,114]⟩:BA),(⟨#[119,119]⟩:BA),(⟨#[105,100]⟩:BA)]
def Tj:List AV:=[St (⟨#[112,111]⟩:BA),St (⟨#[108,111,99]⟩:BA),St (⟨#[101,120,116]⟩:BA),St (⟨#[114,102]⟩:BA),St (⟨#[99,111]⟩:BA),St (⟨#[102,114]⟩:BA),St (⟨#[102,101,110,99,101]⟩:BA),St (⟨#[119,114]⟩:BA),St (⟨#[119,119]⟩:BA),St (⟨#[105,100]⟩:BA)]
theorem Oh:Tj.length=10*1/\∀ i,i<10->(Tj.drop (i*1)).take 1=cS (He.getD i Uo):=⟨rfl,λi h=>by
 match i,h with
 | 0,_=>rfl
 | 1,_=>rfl
 | 2,_=>rfl
 | 3,_=>rfl
 | 4,_=>rfl
 | 5,_=>rfl
 | 6,_=>rfl
 | 7,_=>rfl
 | 8,_=>rfl
 | 9,_=>rfl
 | q+10,h=>exact absurd h (Nat.not_lt.2 (Xg 10 q))⟩
structure TW where
 Op:Int
 Loc:Int
 Reg:Int
 Val:Int
instance:Inhabited TW:=⟨⟨Uo,Uo,Uo,Uo⟩⟩
def TW.c (x:TW):List AV:=[I x.Op,I x.Loc,I x.Reg,I x.Val]
theorem TW.isF (x:TW):(TW.c x).all (isF 9)=Uq:=rfl
structure TY where
 From:LI
 Order:LL
instance:Inhabited TY:=⟨⟨Uo,Uo⟩⟩
def TY.c (x:TY):List AV:=[eL cI x.From,eL (cL cI) x.Order]
theorem TY.isF (x:TY):(TY.c x).all (isF 9)=Uq:=rfl
structure ZTr where
 p:List (List TW)
 x:TY
 number:LL
 schedule:LI
 failed:List ((Int×Int×Int)×Bool)
structure ZTv where
 p:List (List TW)
 x:TY
 number:LL
instance:Inhabited ZTv:=⟨⟨Uo,Uo,Uo⟩⟩
def ZTv.c (x:ZTv):List AV:=[eL (cL TW.c) x.p,eL cI x.x.From,eL (cL cI) x.x.Order,eL (cL cI) x.number]
structure TZ where
 Thread:Int
 Index:Int
 Loc:Int
 Reads:Bool
 bq:Bool
instance:Inhabited TZ:=⟨⟨Uo,Uo,Uo,Uo,Uo⟩⟩
def TZ.c (x:TZ):List AV:=[I x.Thread,I x.Index,I x.Loc,Bo x.Reads,Bo x.bq]
theorem TZ.isF (x:TZ):(TZ.c x).all (isF 9)=Uq:=rfl
structure aD where
 p:List (List TW)
 x:TY
 events:List TZ
 values:LI
 busy:List Bool
structure XV_impl_valuer where
 p:List (List TW)
 x:TY
 events:List TZ
instance:Inhabited XV_impl_valuer:=⟨⟨Uo,Uo,Uo⟩⟩
def XV_impl_valuer.c (x:XV_impl_valuer):List AV:=[eL (cL TW.c) x.p,eL cI x.x.From,eL (cL cI) x.x.Order,eL TZ.c x.events]
inductive ZTE where
 | mk (Op:Int) (Name:BA) (Kids:List ZTE)
structure ae where
 Op:Int
 Name:BA
 Kids:List ZTE
instance:Inhabited ZTE:=⟨.mk Uo Uo []⟩
instance:Inhabited ae:=⟨⟨Uo,Uo,[]⟩⟩
def ZTE.out:ZTE->ae
 | .mk a0 a1 a2=>⟨a0,a1,a2⟩
def ae.inn (x:ae):ZTE := .mk x.Op x.Name x.Kids
mutual
def ZTE.c:ZTE->List AV
 | .mk a0 a1 a2=>[I a0,St a1,.sl a2.length (ZTE.r a2)]
def ZTE.r:List ZTE->Nat->List AV
 | []=>λ_=>[.nil,.nil,.nil]
 | x::l=>λi=>match i with
  | 0=>ZTE.c x
  | i+1=>ZTE.r l i
end
theorem ZTE.len (x:ZTE):(ZTE.c x).length=3:=by
 cases x;simp only [ZTE.c];rfl
theorem ZTE.r0 (x:ZTE) (l:List ZTE):ZTE.r (x::l) 0=ZTE.c x:=by simp only [ZTE.r]
theorem ZTE.r1 (x:ZTE) (l:List ZTE) (i:Nat):ZTE.r (x::l) (i+1)=ZTE.r l i:=by simp only [ZTE.r]
def ae.c (x:ae):List AV:=[I x.Op,St x.Name,eL ZTE.c x.Kids]
theorem ae.isF (x:ae):(ae.c x).all (isF 9)=Uq:=rfl
theorem ZTE.out_c (x:ZTE):GH (ZTE.c x) (ae.c x.out):=by
 cases x;simp only [ZTE.c];exact ⟨EqS.refl _,⟨EqS.refl _,⟨EqS.slr ZTE.r0 ZTE.r1 _,trivial⟩⟩⟩
theorem ae.inn_c (x:ae):GH (ae.c x) (ZTE.c x.inn):=by
 cases x;simp only [ae.inn,ZTE.c];exact ⟨EqS.refl _,⟨EqS.refl _,⟨EqS.slr' ZTE.r0 ZTE.r1 _,trivial⟩⟩⟩
structure aj where
 Kind:Int
 Expr:ae
instance:Inhabited aj:=⟨⟨Uo,Uo⟩⟩
def aj.c (x:aj):List AV:=[I x.Kind,I x.Expr.Op,St x.Expr.Name,eL ZTE.c x.Expr.Kids]
theorem aj.isF (x:aj):(aj.c x).all (isF 9)=Uq:=rfl
structure ah where
 b:LI
 p:Int
instance:Inhabited ah:=⟨⟨Uo,Uo⟩⟩
def ah.c (x:ah):List AV:=[eL cY x.b,I x.p]
structure Z3i where
 x0:Int
 x1:Int
 x2:Int
instance:Inhabited Z3i:=⟨⟨Uo,Uo,Uo⟩⟩
def Z3i.c (x:Z3i):List AV:=[I x.x0,I x.x1,I x.x2]
def Z3i.get (a:Z3i) (q:Int):Int:=if q=0 then a.x0 else if q=1 then a.x1 else a.x2
def Z3i.set (a:Z3i) (q:Int) (v:Int):Z3i:=if q=0 then ⟨v,a.x1,a.x2⟩ else if q=1 then ⟨a.x0,v,a.x2⟩ else ⟨a.x0,a.x1,v⟩
structure aa where
 rest:BA
 failed:Bool
instance:Inhabited aa:=⟨⟨Uo,Uo⟩⟩
def aa.c (x:aa):List AV:=[St x.rest,Bo x.failed]
structure Z3b where
 x0:Int
 x1:Int
 x2:Int
instance:Inhabited Z3b:=⟨⟨Uo,Uo,Uo⟩⟩
def Z3b.c (x:Z3b):List AV:=[Y x.x0,Y x.x1,Y x.x2]
def Z3b.get (a:Z3b) (q:Int):Int:=if q=0 then a.x0 else if q=1 then a.x1 else a.x2
def Z3b.set (a:Z3b) (q:Int) (v:Int):Z3b:=if q=0 then ⟨v,a.x1,a.x2⟩ else if q=1 then ⟨a.x0,v,a.x2⟩ else ⟨a.x0,a.x1,v⟩
structure Z33 where
 x0:Z3b
 x1:Z3b
 x2:Z3b
instance:Inhabited Z33:=⟨⟨Uo,Uo,Uo⟩⟩
def Z33.c (x:Z33):List AV:=[Y x.x0.x0,Y x.x0.x1,Y x.x0.x2,Y x.x1.x0,Y x.x1.x1,Y x.x1.x2,Y x.x2.x0,Y x.x2.x1,Y x.x2.x2]
def Z33.get (a:Z33) (q:Int):Z3b:=if q=0 then a.x0 else if q=1 then a.x1 else a.x2
def Z33.set (a:Z33) (q:Int) (v:Z3b):Z33:=if q=0 then ⟨v,a.x1,a.x2⟩ else if q=1 then ⟨a.x0,v,a.x2⟩ else ⟨a.x0,a.x1,v⟩
structure T9 where
 p:List (List TW)
 pc:Z3b
 reg:Z33
 mem:Z3b
instance:Inhabited T9:=⟨⟨Uo,Uo,Uo,Uo⟩⟩
def T9.c (x:T9):List AV:=[eL (cL TW.c) x.p,Y x.pc.x0,Y x.pc.x1,Y x.pc.x2,Y x.reg.x0.x0,Y x.reg.x0.x1,Y x.reg.x0.x2,Y x.reg.x1.x0,Y x.reg.x1.x1,Y x.reg.x1.x2,Y x.reg.x2.x0,Y x.reg.x2.x1,Y x.reg.x2.x2,Y x.mem.x0,Y x.mem.x1,Y x.mem.x2]
structure Ua where
 values:T9
instance:Inhabited Ua:=⟨⟨Uo⟩⟩
def Ua.c (x:Ua):List AV:=[eL (cL TW.c) x.values.p,Y x.values.pc.x0,Y x.values.pc.x1,Y x.values.pc.x2,Y x.values.reg.x0.x0,Y x.values.reg.x0.x1,Y x.values.reg.x0.x2,Y x.values.reg.x1.x0,Y x.values.reg.x1.x1,Y x.values.reg.x1.x2,Y x.values.reg.x2.x0,Y x.values.reg.x2.x1,Y x.values.reg.x2.x2,Y x.values.mem.x0,Y x.values.mem.x1,Y x.values.mem.x2]
structure Xutf8_acceptRange where
 lo:Int
 hi:Int
instance:Inhabited Xutf8_acceptRange:=⟨⟨Uo,Uo⟩⟩
def Xutf8_acceptRange.c (x:Xutf8_acceptRange):List AV:=[Y x.lo,Y x.hi]
def Blk (w:World) (g:Nat) (t:TypeId) (cs:Array Value):Prop:=w.heap[g]? = Us (.cells cs t (0,0))
section
variable {w w':World} {g:Nat} {t:TypeId} {cs:Array Value}
theorem Blk.lt (h:Blk w g t cs):g<w.heap.size:=by
 rcases Nat.lt_or_ge g w.heap.size with hlt | hge
 ·exact hlt
 unfold Blk at h;rw [Array.getElem?_eq_none hge] at h;cases h
theorem Blk.cell (h:Blk w g t cs) (i:Nat):w.cell? ⟨g,i,Ut⟩=cs[i]? := cell_of_row w g i cs t (0,0) h
theorem Blk.frozen (h:Blk w g t cs) (i:Nat):w.frozen? ⟨g,i,Ut⟩=Ur:=by
 unfold Blk at h;simp [World.frozen?,h]
theorem Blk.new (w:World) (t:TypeId) (cs:Array Value):Blk (w.alloc<|.cells cs t) w.heap.size t cs:=heap_alloc_new w _
theorem Blk.set_ (h:Blk w g t cs) (i:Nat) (u:Value):Blk (w.setCell ⟨g,i,Ut⟩ u) g t (cs.setIfInBounds i u):=by
 unfold Blk at h ⊢;simp [World.setCell,Array.getElem?_modify,h]
theorem Blk.below {B:Nat} (h:Blk w g t cs) (hb:Below B w w') (hg:g<B):Blk w' g t cs:=(hb.block g hg).trans h
end
section
variable {α:Type} (f:α->List Value) (s:Nat)
def Sl (w:World) (lo hi:Nat) (v:Value) (xs:List α):Prop:=
 ∃ A c,v = .slice A xs.length c/\xs.length<=c/\c<=9223372036854775807/\(0<xs.length->∃ b o,A=Us ⟨b,o,Ut⟩/\lo<=b/\b<hi/\b<w.heap.size /\
  ∀ (k:Nat) (h:k<xs.length) (j:Nat) (u:Value),(f xs[k])[j]? = Us u->w.cell? ⟨b,o+k*s+j,Ut⟩=Us u)
end
section
variable {α:Type} {f:α->List Value} {s:Nat} {t:TypeId} {w w':World} {lo hi l h B:Nat} {v:Value} {xs:List α}
theorem Sl.nil_ (c:Nat) (A:Option Addr) (hc:c<=9223372036854775807):Sl f s w lo hi (.slice A 0 c) []:=⟨A,c,rfl,by simp,hc,λh=>absurd h<|by simp⟩
theorem Sl.keep (x:Sl f s w lo hi v xs) (hs:w.heap.size<=w'.heap.size) (hk:∀ k,k<w.heap.size->lo<=k->k<hi->w'.heap[k]? = w.heap[k]?):Sl f s w' lo hi v xs:=by
 obtain ⟨A,c,e,hc,hm,r⟩:=x;refine ⟨A,c,e,hc,hm,λhn=>?_⟩;obtain ⟨b,o,e2,hb1,hb2,hb3,hx⟩:=r hn;refine ⟨b,o,e2,hb1,hb2,by omega,λk hk' j u hu=>?_⟩;rw [World.cell?_of_block (hk b hb3 hb1 hb2)];exact hx k hk' j u hu
end
def Sj (v:Value):List Value:=[v]
def Ru (n:Int):List Value:=[.int .i64 n]
def KE (n:Int):List Value:=[.int .u8 n]
section
variable {α:Type} {g:α->Value} {f:α->List Value} {s:Nat} {w:World} {lo hi:Nat} {v:Value}
theorem Sl.one_ {xs:List α} (hf:∀ x,f x=[g x]) (x:Sl f 1 w lo hi v xs):∃ A c,v = .slice A xs.length c/\xs.length<=c/\c<=9223372036854775807/\(0<xs.length->∃ b o,A=Us ⟨b,o,Ut⟩/\lo<=b/\b<hi/\b<w.heap.size /\
  ∀ (k:Nat) (h:k<xs.length),w.cell? ⟨b,o+k,Ut⟩=Us (g xs[k])):=by
 obtain ⟨A,c,e,hc,hm,r⟩:=x;refine ⟨A,c,e,hc,hm,λhn=>?_⟩;obtain ⟨b,o,e2,hb1,hb2,hb3,hx⟩:=r hn;refine ⟨b,o,e2,hb1,hb2,hb3,λk hk=>?_⟩;have := hx k hk 0 (g xs[k]) (by rw [hf];rfl);simpa using this
theorem Sl.vals {xs:List Value} (x:Sl Sj 1 w lo hi v xs):∃ A c,v = .slice A xs.length c/\xs.length<=c/\c<=9223372036854775807/\(0<xs.length->∃ b o,A=Us ⟨b,o,Ut⟩/\lo<=b/\b<hi/\b<w.heap.size /\
 ∀ (k:Nat) (h:k<xs.length),w.cell? ⟨b,o+k,Ut⟩=Us xs[k]):=Sl.one_ (g:=λv=>v) (λ_=>rfl) x
theorem Sl.ints {xs:LI} (x:Sl Ru 1 w lo hi v xs):∃ A c,v = .slice A xs.length c/\xs.length<=c/\c<=9223372036854775807/\(0<xs.length->∃ b o,A=Us ⟨b,o,Ut⟩/\lo<=b/\b<hi/\b<w.heap.size /\
 ∀ (k:Nat) (h:k<xs.length),w.cell? ⟨b,o+k,Ut⟩=Us (.int .i64 xs[k])):=Sl.one_ (g:=λv => .int .i64 v) (λ_=>rfl) x
end
structure Ins where
 op:Int
 loc:Int
 reg:Int
 val:Int
 deriving DecidableEq,Inhabited
def Ins.v (x:Ins):Value := .agg #[.int .i64 x.op,.int .i64 x.loc,.int .i64 x.reg,.int .i64 x.val]
def Ins.cells (x:Ins):List Value:=[.int .i64 x.op,.int .i64 x.loc,.int .i64 x.reg,.int .i64 x.val]
def LW (w:World) (b o:Nat) (x:Ins):Prop:=
 w.cell? ⟨b,o,Ut⟩=Us (.int .i64 x.op)/\w.cell? ⟨b,o+1,Ut⟩=Us (.int .i64 x.loc)/\w.cell? ⟨b,o+2,Ut⟩=Us (.int .i64 x.reg)/\w.cell? ⟨b,o+3,Ut⟩=Us (.int .i64 x.val)
def LX (cs:Array Value) (o:Nat) (x:Ins):Prop:=cs[o]? = Us (.int .i64 x.op)/\cs[o+1]? = Us (.int .i64 x.loc)/\cs[o+2]? = Us (.int .i64 x.reg)/\cs[o+3]? = Us (.int .i64 x.val)
def Pk (cs:Array Value) (o:Nat) (x:Ins):Array Value:=(((cs.setIfInBounds o<|.int .i64 x.op).setIfInBounds (o+1)<|.int .i64 x.loc).setIfInBounds (o+2)<|.int .i64 x.reg).setIfInBounds (o+3)<|.int .i64 x.val
section
variable {w w':World} {b o p:Nat} {x y:Ins} {cs:Array Value} {t:TypeId} {g B lo hi:Nat} {v:Value} {xs:List Ins}
theorem LW.below (h:LW w b o x) (hb:Below B w w') (hlt:b<B):LW w' b o x:=by
 unfold LW at *;rw [hb.cell (by exact hlt),hb.cell (by exact hlt),hb.cell (by exact hlt),hb.cell (by exact hlt)];exact h
theorem LX.same (h:o+4<=cs.size):LX (Pk cs o x) o x:=by
 unfold LX Pk;refine ⟨?_,?_,?_,?_⟩ <;> simp [Array.getElem?_setIfInBounds] <;> omega
theorem Sl.inss (x:Sl Ins.cells 4 w lo hi v xs):∃ A c,v = .slice A xs.length c/\xs.length<=c/\c<=9223372036854775807/\(0<xs.length->∃ b o,A=Us ⟨b,o,Ut⟩/\lo<=b/\b<hi/\b<w.heap.size /\
  ∀ (k:Nat) (h:k<xs.length),LW w b (o+k*4) xs[k]):=by
 obtain ⟨A,c,e,hc,hm,r⟩:=x;refine ⟨A,c,e,hc,hm,λhn=>?_⟩;obtain ⟨b,o,e2,hb1,hb2,hb3,hx⟩:=r hn;exact ⟨b,o,e2,hb1,hb2,hb3,λk hk=>⟨hx k hk 0 _ rfl,hx k hk 1 _ rfl,hx k hk 2 _ rfl,hx k hk 3 _ rfl⟩⟩
end
section
variable {α:Type} (f:α->List Value) (s:Nat)
def GI (w:World) (lo hi:Nat) (v:Value) (p:List<|List α):Prop:=
 ∃ vs:List Value,Sl Sj 1 w lo hi v vs/\vs.length=p.length/\∀ (k:Nat) (h:k<vs.length) (h':k<p.length),Sl f s w lo hi vs[k] p[k]
end
section
variable {α:Type} {f:α->List Value} {s:Nat} {to ti:TypeId} {w w':World} {lo hi l h B:Nat} {v:Value} {p:List (List α)}
theorem GI.keep (x:GI f s w lo hi v p) (hs:w.heap.size<=w'.heap.size) (hk:∀ k,k<w.heap.size->lo<=k->k<hi->w'.heap[k]? = w.heap[k]?):GI f s w' lo hi v p:=by
 obtain ⟨vs,h1,h2,h3⟩:=x;exact ⟨vs,h1.keep hs hk,h2,λk a b=>(h3 k a b).keep hs hk⟩
theorem GI.below (x:GI f s w lo hi v p) (b:Below B w w') (hB:hi<=B):GI f s w' lo hi v p:=x.keep b.size λk _ _ h2=>b.block k (by omega)
end
theorem wz {α:Type} (xs:List α) (k:Nat) (h:k<xs.length):xs.take (k+1)=xs.take k++[xs[k]]:=by
 rw [List.take_succ_eq_append_getElem h]
theorem aZ {a b:Bool} (h:a=b):Ending.returned (.bool a)=Ending.returned (.bool b):=by rw [h]
theorem D8 {k:IntKind} {a b:Int} (h:a=b):Ending.returned (.int k a) = .returned (.int k b):=by rw [h]
open Go.ChangeShapes Go.WideShapes Go.ChangeAt Go.RowKit

def total {α:Type} (p:List<|List α):Nat:=(p.map List.length).sum
theorem D9 {α:Type} (p:List<|List α) (k:Nat) (h:k<p.length):total (p.take<|k+1)=total (p.take k)+p[k].length:=by
 unfold total;rw [wz _ _ h,Xh,Xi];simp
theorem Gb {α:Type} (p:List<|List α) (k:Nat):total (p.take k)<=total p:=by
 unfold total
 conv=>rhs;rw [<- List.take_append_drop k p,Xh,Xi]
 omega

theorem BG (b o j:Nat):(⟨b,o,Ut⟩:Addr).add j=⟨b,o+j,Ut⟩:=by
 unfold Addr.add
 by_cases h:j=0 <;> simp [h]
theorem fT (x lo hi:Int) (b:Bool) (hb:(Uu (lo<=x)&&Uu (x<=hi))=b) (w:World) :
  Calls Uv 37 #[.int .i64 x,.int .i64 lo,.int .i64 hi] w λe w'=>e = .returned (.bool b)/\w=w':=by
 subst hb
 by_cases h1:lo<=x
 ·by_cases h2:x<=hi
  ·go_enter func37,Tryz.ntmps37
   go_wp2
   all_goals (go_ret;exact ⟨aZ (by simp [h1,h2]),rfl⟩)
  go_enter func37,Tryz.ntmps37
  go_wp2
  all_goals (go_ret;exact ⟨aZ (by simp;omega),rfl⟩)
 go_enter func37,Tryz.ntmps37
 go_wp2
 all_goals (go_ret;exact ⟨aZ (by simp;omega),rfl⟩)
def qw (x:TW):Ins:=⟨x.Op,x.Loc,x.Reg,x.Val⟩
theorem Hf {α β:Type} (e:α->β) (p:List<|List α):total (p.map λr=>r.map e)=total p:=by
 unfold total;rw [List.map_map]
 congr 1
 exact List.map_congr_left λr _=>llm _
theorem wA (x hi:Int) (b:Bool) (hb:(Uu (0<=x)&&Uu (x<=hi))=b) (w:World) :
  Calls Uv 177 #[.int .i64 x,.int .i64 hi] w λe w'=>e = .returned (.bool b)/\w=w':=by
 subst hb
 by_cases h1:0<=x
 ·by_cases h2:x<=hi
  ·go_enter func177,Tryz.ntmps177
   go_wp2
   all_goals (go_ret;exact ⟨aZ (by simp [h1,h2]),rfl⟩)
  go_enter func177,Tryz.ntmps177
  go_wp2
  all_goals (go_ret;exact ⟨aZ (by simp;omega),rfl⟩)
 go_enter func177,Tryz.ntmps177
 go_wp2
 all_goals (go_ret;exact ⟨aZ (by simp;omega),rfl⟩)
def inB (x hi:Int):Bool:=Uu (0<=x)&&Uu (x<=hi)
def nJ (x:Ins):Bool:=
 if x.op=1\/x.op=3 then inB x.loc 2&&inB x.reg 2&&x.val==0
 else if x.op=2 then inB x.loc 2&&x.reg==0&&inB x.val 3
 else if x.op=4 then x.loc==0&&x.reg==0&&x.val==0
 else if x.op=5 then inB x.loc 2&&inB x.reg 2&&inB x.val 3
 else Ur
theorem zD (x:Ins) (w:World) :
  Calls Uv 141 #[x.v] w λe w'=>e = .returned (.bool<|nJ x)/\Below w.heap.size w w':=by
 obtain ⟨op,a,b,c⟩:=x;have hop:(op=1\/op=3)\/op=2\/op=4\/op=5\/((op==1)=Ur/\(op==3)=Ur/\(op==2)=Ur/\(op==4)=Ur/\(op==5)=Ur):=by
  simp only [beq_eq_false_iff_ne,ne_eq];omega
 unfold Ins.v;rcases hop with hop | rfl | rfl | rfl | ⟨h1,h2,h3,h4,h5⟩
 ·have hr:nJ ⟨op,a,b,c⟩=(inB a 2&&inB b 2&&c==0):=by unfold nJ;rw [if_pos hop]
  generalize ha:inB a 2=pa at *;generalize hb:inB b 2=pb at *;have HR:=Lib.hid hr;clear hr;have HA:=Lib.hid ha;clear ha;have HB:=Lib.hid hb;clear hb;rcases hop with rfl | rfl
  all_goals
   go_enter func141,Tryz.ntmps141
   go_wp2_with (first
    | (go_at_call_of 177 (Value.int .i64 a);refine (wA a 2 _ HA.out _).mono ?_;rintro e w1 ⟨rfl,rfl⟩)
    | (go_at_call_of 177 (Value.int .i64 b);refine (wA b 2 _ HB.out _).mono ?_;rintro e w1 ⟨rfl,rfl⟩))
   all_goals (go_ret;exact ⟨aZ (by rw [HR.out];simp_all),(Below.refl _ _).alloc (W8 _) _⟩)
 ·have hr:nJ ⟨2,a,b,c⟩=(inB a 2&&b==0&&inB c 3):=rfl;generalize ha:inB a 2=pa at *;generalize hc:inB c 3=pc at *;have HR:=Lib.hid hr;clear hr;have HA:=Lib.hid ha;clear ha;have HC:=Lib.hid hc;clear hc
  go_enter func141,Tryz.ntmps141
  go_wp2_with (first
   | (go_at_call_of 177 (Value.int .i64 a);refine (wA a 2 _ HA.out _).mono ?_;rintro e w1 ⟨rfl,rfl⟩)
   | (go_at_call_of 177 (Value.int .i64 c);refine (wA c 3 _ HC.out _).mono ?_;rintro e w1 ⟨rfl,rfl⟩))
  all_goals (go_ret;exact ⟨aZ (by rw [HR.out];simp_all),(Below.refl _ _).alloc (W8 _) _⟩)
 ·have hr:nJ ⟨4,a,b,c⟩=(a==0&&b==0&&c==0):=rfl;have HR:=Lib.hid hr;clear hr
  go_enter func141,Tryz.ntmps141
  go_wp2_with fail
  all_goals (go_ret;exact ⟨aZ (by rw [HR.out];simp_all),(Below.refl _ _).alloc (W8 _) _⟩)
 ·have hr:nJ ⟨5,a,b,c⟩=(inB a 2&&inB b 2&&inB c 3):=rfl;generalize ha:inB a 2=pa at *;generalize hb:inB b 2=pb at *;generalize hc:inB c 3=pc at *;have HR:=Lib.hid hr;clear hr;have HA:=Lib.hid ha;clear ha;have HB:=Lib.hid hb;clear hb;have HC:=Lib.hid hc;clear hc
  go_enter func141,Tryz.ntmps141
  go_wp2_with (first
   | (go_at_call_of 177 (Value.int .i64 a);refine (wA a 2 _ HA.out _).mono ?_;rintro e w1 ⟨rfl,rfl⟩)
   | (go_at_call_of 177 (Value.int .i64 b);refine (wA b 2 _ HB.out _).mono ?_;rintro e w1 ⟨rfl,rfl⟩)
   | (go_at_call_of 177 (Value.int .i64 c);refine (wA c 3 _ HC.out _).mono ?_;rintro e w1 ⟨rfl,rfl⟩))
  all_goals (go_ret;exact ⟨aZ (by rw [HR.out];simp_all),(Below.refl _ _).alloc (W8 _) _⟩)
 have hr:nJ ⟨op,a,b,c⟩=Ur:=by
  simp only [beq_eq_false_iff_ne,ne_eq] at h1 h2 h3 h4 h5;simp [nJ,h1,h2,h3,h4,h5]
 have HR:=Lib.hid hr;clear hr
 go_enter func141,Tryz.ntmps141
 go_wp2_with fail
 all_goals (go_ret;exact ⟨aZ (by rw [HR.out]),(Below.refl _ _).alloc (W8 _) _⟩)
theorem zE (x:Ins) (w:World) :
  Calls Uv 38 #[x.v] w λe w'=>e = .returned (.bool<|nJ x)/\Below w.heap.size w w':=by
 obtain ⟨op,a,b,c⟩:=x;have hop:(op=1\/op=3)\/op=2\/op=4\/op=5\/((op==1)=Ur/\(op==3)=Ur/\(op==2)=Ur/\(op==4)=Ur/\(op==5)=Ur):=by
  simp only [beq_eq_false_iff_ne,ne_eq];omega
 unfold Ins.v;rcases hop with hop | rfl | rfl | rfl | ⟨h1,h2,h3,h4,h5⟩
 ·have hr:nJ ⟨op,a,b,c⟩=(inB a 2&&inB b 2&&c==0):=by unfold nJ;rw [if_pos hop]
  generalize ha:inB a 2=pa at *;generalize hb:inB b 2=pb at *;have HR:=Lib.hid hr;clear hr;have HA:=Lib.hid ha;clear ha;have HB:=Lib.hid hb;clear hb;rcases hop with rfl | rfl
  all_goals
   go_enter func38,Tryz.ntmps38
   go_wp2_with fail
   go_region
   go_wp2_with (first
    | (go_at_call_of 37 (Value.int .i64 a);refine (fT a 0 2 _ HA.out _).mono ?_;rintro e w1 ⟨rfl,rfl⟩)
    | (go_at_call_of 37 (Value.int .i64 b);refine (fT b 0 2 _ HB.out _).mono ?_;rintro e w1 ⟨rfl,rfl⟩)
    | (go_at_call 37;refine (fT _ _ _ Uq (by decide) _).mono ?_;rintro e w1 ⟨rfl,rfl⟩))
   all_goals (first | (go_ret;exact ⟨aZ (by rw [HR.out];simp_all),(((Below.refl _ _).alloc (W8 _) _).alloc (by simp) _).drew⟩) | (go_ret;exact ⟨aZ (by rw [HR.out];simp_all),(((Below.refl _ _).alloc (W8 _) _).alloc (by simp) _)⟩))
 ·have hr:nJ ⟨2,a,b,c⟩=(inB a 2&&b==0&&inB c 3):=rfl;generalize ha:inB a 2=pa at *;generalize hc:inB c 3=pc at *;have HR:=Lib.hid hr;clear hr;have HA:=Lib.hid ha;clear ha;have HC:=Lib.hid hc;clear hc
  go_enter func38,Tryz.ntmps38
  go_wp2_with fail
  go_region
  go_wp2_with (first
   | (go_at_call_of 37 (Value.int .i64 a);refine (fT a 0 2 _ HA.out _).mono ?_;rintro e w1 ⟨rfl,rfl⟩)
   | (go_at_call_of 37 (Value.int .i64 c);refine (fT c 0 3 _ HC.out _).mono ?_;rintro e w1 ⟨rfl,rfl⟩)
   | (go_at_call 37;refine (fT _ _ _ Uq (by decide) _).mono ?_;rintro e w1 ⟨rfl,rfl⟩))
  all_goals (first | (go_ret;exact ⟨aZ (by rw [HR.out];simp_all),(((Below.refl _ _).alloc (W8 _) _).alloc (by simp) _).drew⟩) | (go_ret;exact ⟨aZ (by rw [HR.out];simp_all),(((Below.refl _ _).alloc (W8 _) _).alloc (by simp) _)⟩))
 ·have hr:nJ ⟨4,a,b,c⟩=(a==0&&b==0&&c==0):=rfl;have HR:=Lib.hid hr;clear hr
  go_enter func38,Tryz.ntmps38
  go_wp2_with (first
   | (go_at_call 37;refine (fT _ _ _ Uq (by decide) _).mono ?_;rintro e w1 ⟨rfl,rfl⟩))
  all_goals (first | (go_ret;exact ⟨aZ (by rw [HR.out];simp_all),(((Below.refl _ _).alloc (W8 _) _).alloc (by simp) _).drew⟩) | (go_ret;exact ⟨aZ (by rw [HR.out];simp_all),(((Below.refl _ _).alloc (W8 _) _).alloc (by simp) _)⟩))
 ·have hr:nJ ⟨5,a,b,c⟩=(inB a 2&&inB b 2&&inB c 3):=rfl;generalize ha:inB a 2=pa at *;generalize hb:inB b 2=pb at *;generalize hc:inB c 3=pc at *;have HR:=Lib.hid hr;clear hr;have HA:=Lib.hid ha;clear ha;have HB:=Lib.hid hb;clear hb;have HC:=Lib.hid hc;clear hc
  go_enter func38,Tryz.ntmps38
  go_wp2_with (first
   | (go_at_call_of 37 (Value.int .i64 a);refine (fT a 0 2 _ HA.out _).mono ?_;rintro e w1 ⟨rfl,rfl⟩)
   | (go_at_call_of 37 (Value.int .i64 b);refine (fT b 0 2 _ HB.out _).mono ?_;rintro e w1 ⟨rfl,rfl⟩)
   | (go_at_call_of 37 (Value.int .i64 c);refine (fT c 0 3 _ HC.out _).mono ?_;rintro e w1 ⟨rfl,rfl⟩))
  all_goals (first | (go_ret;exact ⟨aZ (by rw [HR.out];simp_all),(((Below.refl _ _).alloc (W8 _) _).alloc (by simp) _).drew⟩) | (go_ret;exact ⟨aZ (by rw [HR.out];simp_all),(((Below.refl _ _).alloc (W8 _) _).alloc (by simp) _)⟩))
 have hr:nJ ⟨op,a,b,c⟩=Ur:=by
  simp only [beq_eq_false_iff_ne,ne_eq] at h1 h2 h3 h4 h5;simp [nJ,h1,h2,h3,h4,h5]
 have HR:=Lib.hid hr;clear hr
 go_enter func38,Tryz.ntmps38
 go_wp2_with fail
 all_goals (go_ret;exact ⟨aZ (by rw [HR.out]),(((Below.refl _ _).alloc (W8 _) _).alloc (by simp) _)⟩)
def rdO (o:Int):Bool:=o==1||o==5
def wrO (o:Int):Bool:=o==2||o==3||o==5
def rdB (x:Ins):Bool:=rdO x.op
def wrB (x:Ins):Bool:=wrO x.op
theorem LY (op a b c:Int) (w:World):Calls Uv 84 #[.agg #[.int .i64 op,.int .i64 a,.int .i64 b,.int .i64 c]] w λe w'=>e = .returned (.bool<|rdO op)/\Below w.heap.size w w':=by
 unfold rdO
 go_enter func84,Tryz.ntmps84
 go_wp2_with fail
 all_goals (go_ret;exact ⟨aZ (by simp_all),(Below.refl _ _).alloc (W8 _) _⟩)
theorem IV (op a b c:Int) (w:World):Calls Uv 103 #[.agg #[.int .i64 op,.int .i64 a,.int .i64 b,.int .i64 c]] w λe w'=>e = .returned (.bool<|rdO op)/\Below w.heap.size w w':=by
 unfold rdO
 go_enter func103,Tryz.ntmps103
 go_wp2_with fail
 all_goals (go_ret;exact ⟨aZ (by simp_all),(Below.refl _ _).alloc (W8 _) _⟩)
theorem KG (op a b c:Int) (w:World):Calls Uv 85 #[.agg #[.int .i64 op,.int .i64 a,.int .i64 b,.int .i64 c]] w λe w'=>e = .returned (.bool<|wrO op)/\Below w.heap.size w w':=by
 unfold wrO
 go_enter func85,Tryz.ntmps85
 go_wp2_with fail
 all_goals (go_ret;exact ⟨aZ (by simp_all),(Below.refl _ _).alloc (W8 _) _⟩)
theorem Hg (op a b c:Int) (w:World):Calls Uv 104 #[.agg #[.int .i64 op,.int .i64 a,.int .i64 b,.int .i64 c]] w λe w'=>e = .returned (.bool<|wrO op)/\Below w.heap.size w w':=by
 unfold wrO
 go_enter func104,Tryz.ntmps104
 go_wp2_with fail
 all_goals (go_ret;exact ⟨aZ (by simp_all),(Below.refl _ _).alloc (W8 _) _⟩)
def wB (f:Ins->Bool) (p:List<|List Ins):Nat:=(p.map<|List.countP f).sum
theorem gP (f:Ins->Bool) (p:List<|List Ins) (k:Nat) (h:k<p.length):wB f (p.take<|k+1)=wB f (p.take k)+p[k].countP f:=by
 unfold wB;rw [wz _ _ h,Xh,Xi];simp
theorem fU (f:Ins->Bool) (l:List Ins) (k:Nat) (h:k<l.length):(l.take<|k+1).countP f=(l.take k).countP f+if f l[k] then 1 else 0:=by
 rw [wz _ _ h,List.countP_append];simp [List.countP_cons]
theorem Ea (f:Ins->Bool) (p:List<|List Ins):wB f p<=total p:=by
 unfold wB total
 induction p with
 | nil=>simp
 | cons r p ih=>
  simp only [List.map_cons,List.sum_cons];have := Xl (p:=f) (l:=r);omega
theorem mZ (f:Ins->Bool) (p:List<|List Ins) (k j:Nat) (h:k<p.length):wB f (p.take k)+(p[k].take j).countP f<=total p:=by
 have h1:=Ea f<|p.take k;have h2:=Xl (p:=f) (l:=p[k].take j);have h3:=List.length_take_le' j p[k];have h4:=D9 p k h;have h5:=Gb p<|k+1;omega
def cf (loc:Int) (f:Ins->Bool) (x:Ins):Bool:=x.loc==loc&&f x
theorem LZ {lo hi:Nat} {u:Value} {p:List (List Ins)} {w:World} {loc:Int} (hu:GI Ins.cells 4 w lo hi u p) (ht:total p<=1048576) :
  Calls Uv 79 #[u,.int .i64 loc,.bool Uq] w λe w'=>e = .returned (.int .i64<|wB (cf loc wrB) p)/\Below w.heap.size w w':=by
 obtain ⟨xs,hxs,hxl,hxr⟩:=hu;obtain ⟨A,ca,rfl,hca,hma,hA⟩:=hxs.vals;clear hxs;have HX:=Lib.hid hxl;clear hxl;have HXR:=Lib.hid hxr;clear hxr;have HAA:=Lib.hid hA;clear hA
 go_enter func79,Tryz.ntmps79
 go_wp2_with fail
 go_loopw [7,8] (λn i wr=>∃ k:Nat,k<=xs.length/\i = .int .i64 k/\n = .int .i64 (wB (cf loc wrB)<|p.take k)/\Below w.heap.size w wr) (λ_ i _=>xs.length-(intOf i).toNat)
 case atStart=>exact ⟨0,W9 _,rfl,rfl,Below.refl _ _⟩
 case round=>
  obtain ⟨k,hk,rfl,rfl,hb⟩:=hrel
  by_cases hlt:k<xs.length
  ·obtain ⟨ba,oa,rfl,_,_,hba,hA⟩:=HAA.out (by omega);have hp:k<p.length:=HX.out ▸ hlt;obtain ⟨Ak,ck,hk1,hk2,hk3,hrow⟩:=(HXR.out k hlt hp).inss;have HROW:=Lib.hid hrow;clear hrow;have ca0:=hA k hlt;rw [hk1] at ca0;have CA:=Lib.hid ca0;clear hA hk1 ca0;have i1:(0:Int)<=(k:Int):=by omega
   have i2:(k:Int)<(xs.length:Int):=by omega
   have HT:=Lib.hid<|gP (cf loc wrB) p k hp;have HPL:=Lib.hid λj=>mZ (cf loc wrB) p k j hp;obtain ⟨wo,rfl⟩:∃ wo:World,wo=wr:=⟨_,rfl⟩
   go_wp2_with fail
   go_loopw [7,9] (λn i w2=>∃ j:Nat,j<=p[k].length/\i = .int .i64 j/\n = .int .i64 (wB (cf loc wrB) (p.take k)+(p[k].take j).countP (cf loc wrB):Nat)/\Below w.heap.size w w2) (λ_ i _=>p[k].length-(intOf i).toNat)
   case atStart=>exact ⟨0,W9 _,rfl,by simp,hb⟩
   case round=>
    obtain ⟨j,hj,rfl,rfl,hb2⟩:=hrel;have c0:=(hb2.cell (p:=⟨ba,oa+k,Ut⟩) hba).trans CA.out;have hsm:wB (cf loc wrB) (p.take k)+(p[k].take j).countP (cf loc wrB)<=1048576:=Xd (HPL.out j) ht
    by_cases hlj:j<p[k].length
    ·obtain ⟨bb,ob,rfl,_,_,hbb,hB⟩:=HROW.out (by omega);obtain ⟨d1,d2,d3,d4⟩:=(hB j hlj).below hb2 hbb;have HS:=Lib.hid<|fU (cf loc wrB) p[k] j hlj;have j1:(0:Int)<=(j:Int):=by omega
     have j2:(j:Int)<(p[k].length:Int):=by omega
     clear hB
     go_wp2_with (go_at_call 104;refine (Hg _ _ _ _ _).mono ?_;rintro e w3 ⟨rfl,hq⟩)
     ·have ef:cf loc wrB p[k][j]=Uq:=by simp [cf,wrB, *]
      go_roundw
      case rel=>
       have h:=HS.out;rw [if_pos ef] at h;exact ⟨j+1,by omega,by go_num,congrArg (Value.int .i64) (by omega),(hb2.alloc hb2.size _).trans<|hq.mono (by simp;have := hb2.size;omega)⟩
      case measure=>simp [intOf];omega
     ·have ef : ¬ cf loc wrB p[k][j]=Uq:=by simp [cf,wrB, *]
      go_roundw
      case rel=>
       have h:=HS.out;rw [if_neg ef] at h;exact ⟨j+1,by omega,by go_num,congrArg (Value.int .i64) (by omega),(hb2.alloc hb2.size _).trans<|hq.mono (by simp;have := hb2.size;omega)⟩
      case measure=>simp [intOf];omega
     have ef : ¬ cf loc wrB p[k][j]=Uq:=by simp [cf, *]
     go_roundw
     case rel=>
      have h:=HS.out;rw [if_neg ef] at h;exact ⟨j+1,by omega,by go_num,congrArg (Value.int .i64) (by omega),hb2.alloc hb2.size _⟩
     case measure=>simp [intOf];omega
    have hjx:p[k].take j=p[k]:=Xa (by omega);have HJ:=Lib.hid hjx;clear hjx
    go_wp2_with fail
    go_roundw
    case rel=>exact ⟨k+1,by omega,by go_num,congrArg (Value.int .i64) (by rw [HJ.out,HT.out]),hb2⟩
    case measure=>simp [intOf];omega
  have hkx:p.take k=p:=Xa (by rw [<- HX.out];omega);have HK:=Lib.hid hkx;clear hkx
  go_wp2_with fail
  go_ret
  exact ⟨D8 (by rw [HK.out]),hb⟩
theorem L6 {lo hi:Nat} {u:Value} {p:List (List Ins)} {w:World} {loc:Int} (hu:GI Ins.cells 4 w lo hi u p) (ht:total p<=1048576) :
  Calls Uv 79 #[u,.int .i64 loc,.bool Ur] w λe w'=>e = .returned (.int .i64<|wB (cf loc rdB) p)/\Below w.heap.size w w':=by
 obtain ⟨xs,hxs,hxl,hxr⟩:=hu;obtain ⟨A,ca,rfl,hca,hma,hA⟩:=hxs.vals;clear hxs;have HX:=Lib.hid hxl;clear hxl;have HXR:=Lib.hid hxr;clear hxr;have HAA:=Lib.hid hA;clear hA
 go_enter func79,Tryz.ntmps79
 go_wp2_with fail
 go_loopw [7,8] (λn i wr=>∃ k:Nat,k<=xs.length/\i = .int .i64 k/\n = .int .i64 (wB (cf loc rdB)<|p.take k)/\Below w.heap.size w wr) (λ_ i _=>xs.length-(intOf i).toNat)
 case atStart=>exact ⟨0,W9 _,rfl,rfl,Below.refl _ _⟩
 case round=>
  obtain ⟨k,hk,rfl,rfl,hb⟩:=hrel
  by_cases hlt:k<xs.length
  ·obtain ⟨ba,oa,rfl,_,_,hba,hA⟩:=HAA.out (by omega);have hp:k<p.length:=HX.out ▸ hlt;obtain ⟨Ak,ck,hk1,hk2,hk3,hrow⟩:=(HXR.out k hlt hp).inss;have HROW:=Lib.hid hrow;clear hrow;have ca0:=hA k hlt;rw [hk1] at ca0;have CA:=Lib.hid ca0;clear hA hk1 ca0;have i1:(0:Int)<=(k:Int):=by omega
   have i2:(k:Int)<(xs.length:Int):=by omega
   have HT:=Lib.hid<|gP (cf loc rdB) p k hp;have HPL:=Lib.hid λj=>mZ (cf loc rdB) p k j hp;obtain ⟨wo,rfl⟩:∃ wo:World,wo=wr:=⟨_,rfl⟩
   go_wp2_with fail
   go_loopw [7,9] (λn i w2=>∃ j:Nat,j<=p[k].length/\i = .int .i64 j/\n = .int .i64 (wB (cf loc rdB) (p.take k)+(p[k].take j).countP (cf loc rdB):Nat)/\Below w.heap.size w w2) (λ_ i _=>p[k].length-(intOf i).toNat)
   case atStart=>exact ⟨0,W9 _,rfl,by simp,hb⟩
   case round=>
    obtain ⟨j,hj,rfl,rfl,hb2⟩:=hrel;have c0:=(hb2.cell (p:=⟨ba,oa+k,Ut⟩) hba).trans CA.out;have hsm:wB (cf loc rdB) (p.take k)+(p[k].take j).countP (cf loc rdB)<=1048576:=Xd (HPL.out j) ht
    by_cases hlj:j<p[k].length
    ·obtain ⟨bb,ob,rfl,_,_,hbb,hB⟩:=HROW.out (by omega);obtain ⟨d1,d2,d3,d4⟩:=(hB j hlj).below hb2 hbb;have HS:=Lib.hid<|fU (cf loc rdB) p[k] j hlj;have j1:(0:Int)<=(j:Int):=by omega
     have j2:(j:Int)<(p[k].length:Int):=by omega
     clear hB
     go_wp2_with (go_at_call 103;refine (IV _ _ _ _ _).mono ?_;rintro e w3 ⟨rfl,hq⟩)
     ·have ef:cf loc rdB p[k][j]=Uq:=by simp [cf,rdB, *]
      go_roundw
      case rel=>
       have h:=HS.out;rw [if_pos ef] at h;exact ⟨j+1,by omega,by go_num,congrArg (Value.int .i64) (by omega),(hb2.alloc hb2.size _).trans<|hq.mono (by simp;have := hb2.size;omega)⟩
      case measure=>simp [intOf];omega
     ·have ef : ¬ cf loc rdB p[k][j]=Uq:=by simp [cf,rdB, *]
      go_roundw
      case rel=>
       have h:=HS.out;rw [if_neg ef] at h;exact ⟨j+1,by omega,by go_num,congrArg (Value.int .i64) (by omega),(hb2.alloc hb2.size _).trans<|hq.mono (by simp;have := hb2.size;omega)⟩
      case measure=>simp [intOf];omega
     have ef : ¬ cf loc rdB p[k][j]=Uq:=by simp [cf, *]
     go_roundw
     case rel=>
      have h:=HS.out;rw [if_neg ef] at h;exact ⟨j+1,by omega,by go_num,congrArg (Value.int .i64) (by omega),hb2.alloc hb2.size _⟩
     case measure=>simp [intOf];omega
    have hjx:p[k].take j=p[k]:=Xa (by omega);have HJ:=Lib.hid hjx;clear hjx
    go_wp2_with fail
    go_roundw
    case rel=>exact ⟨k+1,by omega,by go_num,congrArg (Value.int .i64) (by rw [HJ.out,HT.out]),hb2⟩
    case measure=>simp [intOf];omega
  have hkx:p.take k=p:=Xa (by rw [<- HX.out];omega);have HK:=Lib.hid hkx;clear hkx
  go_wp2_with fail
  go_ret
  exact ⟨D8 (by rw [HK.out]),hb⟩
def qL (n:Nat):Nat:=min n 3001
def Ub:Nat->Nat
 | 0=>1
 | n+1=>Ub n*(n+1)
theorem IW (n:Nat):1<=Ub n:=by
 induction n with
 | zero=>exact W8 _
 | succ n ih=>exact Xe ih (by omega)
def cw (p:List<|List Ins) (l:Int):Nat:=wB (cf l wrB) p
def cr (p:List<|List Ins) (l:Int):Nat:=wB (cf l rdB) p
def Rv (p:List<|List Ins) (l:Nat):Nat:=(cw p l+1) ^ (cr p l)*Ub (cw p l)
def pT (p:List<|List Ins):Nat->Nat
 | 0=>1
 | l+1=>pT p l*Rv p l
def xO (p:List<|List Ins):Nat:=pT p 3
theorem Gc {a b:Nat} (n:Nat) (h:qL a=qL b) (hn:1<=n):qL (a*n)=qL (b*n):=by
 unfold qL at *
 by_cases ha:a<3001
 ·have : a=b:=by omega
  rw [this]
 have h1:a<=a*n:=Xj a hn;have h2:b<=b*n:=Xj b hn;omega
theorem JM {a b n:Nat} (h:qL a=qL b) (ha:3000<a) (hn:1<=n):qL a=qL (b*n):=by
 unfold qL at *;have h2:b<=b*n:=Xj b hn;omega
theorem L8 {a i r:Nat} (h:i<=r):a ^ r=a ^ i*a ^ (r-i):=by rw [<- Nat.pow_add];congr 1;omega
theorem Hh (i:Nat):∀ d,∃ q,1<=q/\Ub (i+d)=Ub i*q
 | 0=>⟨1,W8 _,by simp⟩
 | d+1=>by
  obtain ⟨q,hq,h⟩:=Hh i d;exact ⟨q*(i+d+1),Xe hq (by omega),by rw [<- Nat.add_assoc,Ub,h,Xb]⟩
theorem L9 {n a:Int} (h:n<=3000) (_:0<=n) (ha:a<=1048577) (ha0:0<=a):n*a<=3145731000:=by
 have : n*a<=3000*1048577:=Int.mul_le_mul h ha ha0 (by omega);omega
theorem Ma {n a:Nat} (h:n<=3000) (ha:a<=1048577):n*a<=4000000000:=by
 have : n*a<=3000*1048577:=Nat.mul_le_mul h ha;omega
set_option maxHeartbeats 1000000 in
theorem IX {lo hi:Nat} {u:Value} {p:List (List Ins)} {w:World} (hu:GI Ins.cells 4 w lo hi u p) (hhi:hi<=w.heap.size) (ht:total p<=1048576) :
  Calls Uv 35 #[u,.int .i64 3000] w λe w'=>e = .returned (.int .i64<|qL<|xO p)/\Below w.heap.size w w':=by
 have HU:=Lib.hid hu;clear hu
 go_enter func35,Tryz.ntmps35
 go_wp2_with fail
 go_loopw [5,6] (λsn sl wr=>∃ (l n:Nat),l<=3/\sl = .int .i64 l/\sn = .int .i64 n/\n<=4000000000/\1<=n/\qL n=qL (pT p l)/\Below w.heap.size w wr) (λ_ sl _=>3-(intOf sl).toNat)
 case atStart=>exact ⟨0,1,by omega,rfl,rfl,by omega,by omega,rfl,Below.refl _ _⟩
 case round=>
  obtain ⟨l,n,hl,rfl,rfl,hn,hn1,hcap,hb⟩:=hrel;have HC:=Lib.hid hcap;clear hcap
  by_cases hl3:l<3
  ·have hle:(l:Int)<=2:=by omega
   have HW:=Lib.hid (show pT p (l+1)=pT p l*((cw p l+1) ^ (cr p l)*Ub (cw p l)) from rfl);have hcw:=Ea (cf (l:Int) wrB) p;have hcr:=Ea (cf (l:Int) rdB) p;have CW:=Lib.hid λW hs=>LZ (loc:=(l:Int)) (w:=W) (hs:GI Ins.cells 4 W lo hi u p) ht;have CR:=Lib.hid λW hs=>L6 (loc:=(l:Int)) (w:=W) (hs:GI Ins.cells 4 W lo hi u p) ht;change cw p l<=total p at hcw;change cr p l<=total p at hcr;have CW2:Hid (∀ W,GI Ins.cells 4 W lo hi u p->Calls Uv 79 #[u,.int .i64 (l:Int),.bool Uq] W λe w'=>e = .returned (.int .i64<|cw p l)/\Below W.heap.size W w'):=CW.out;have CR2:Hid (∀ W,GI Ins.cells 4 W lo hi u p->Calls Uv 79 #[u,.int .i64 (l:Int),.bool Ur] W λe w'=>e = .returned (.int .i64<|cr p l)/\Below W.heap.size W w'):=CR.out;clear CW CR;generalize cw p l=a at *;generalize cr p l=r at *;obtain ⟨wo,rfl⟩:∃ wo:World,wo=wr:=⟨_,rfl⟩
   go_wp2_with fail
   refine (CW2.out _<|HU.out.below hb hhi).mono ?_;rintro e w1 ⟨rfl,hq1⟩;have hb1:Below w.heap.size w w1:=hb.trans<|hq1.mono hb.size;have ha1:(a:Int)<=1048576:=by omega
   go_wp2_with fail
   go_loopw [5,8] (λsn si w2=>∃ (i n:Nat),i<=r/\si = .int .i64 i/\sn = .int .i64 n/\n<=4000000000/\1<=n/\qL n=qL (pT p l*(a+1) ^ i)/\Below w.heap.size w w2) (λ_ si _=>r-(intOf si).toNat)
   case atStart=>exact ⟨0,n,W9 _,rfl,rfl,hn,hn1,by rw [HC.out];simp,hb1⟩
   case round=>
    obtain ⟨i,n,hi,rfl,rfl,hn,hn1,hcap,hb2⟩:=hrel;have HC1:=Lib.hid hcap;clear hcap
    by_cases hgo:i<r/\n<=3000
    ·obtain ⟨h1,h2⟩:=hgo;have h1':(i:Int)<(r:Int):=by omega
     have h2':(n:Int)<=3000:=by omega
     have hmul:n*(a+1)<=4000000000:=Ma h2 (by omega);have hmul1:1<=n*(a+1):=Xe hn1 (by omega);have hmulI:(n:Int)*((a:Int)+1)<=3145731000:=L9 h2' (by omega) (by omega) (by omega);have hmulI0:0<=(n:Int)*((a:Int)+1):=Xk (by omega) (by omega);have HM:=Lib.hid hmul;clear hmul;have HM1:=Lib.hid hmul1;clear hmul1
     go_wp2_with (go_at_call 79;refine (CR2.out _<|HU.out.below hb2 hhi).mono ?_;rintro e w3 ⟨rfl,hq3⟩)
     go_roundw
     case rel=>
      refine ⟨i+1,n*(a+1),by omega,by go_num,by push_cast;rfl,HM.out,HM1.out,?_,hb2.trans<|hq3.mono hb2.size⟩;rw [Nat.pow_succ,<- Xb];exact Gc _ HC1.out (by omega)
     case measure=>simp [intOf];omega
    have hc2:qL n=qL (pT p l*(a+1) ^ r):=by
     by_cases h:i<r
     ·rw [L8 hi,<- Xb];exact JM HC1.out (by omega)<|Nat.pow_pos (by omega)
     have : i=r:=by omega
     rw [<- this];exact HC1.out
    have HC2:=Lib.hid hc2;clear hc2;have hor:((i:Int)<(r:Int) /\ ¬ (n:Int)<=3000) \/ ¬ (i:Int)<(r:Int):=by omega
    clear hgo;rcases hor with ⟨h1,h2⟩ | h1
    all_goals
     obtain ⟨wi,rfl⟩:∃ wi:World,wi=wr:=⟨_,rfl⟩
     go_wp2_with (go_at_call 79;refine (CR2.out _<|HU.out.below hb2 hhi).mono ?_;rintro e w3 ⟨rfl,hq3⟩)
     have hb3:Below w.heap.size w w3:=hb2.trans<|hq3.mono hb2.size
     go_loopw [5,9] (λsn si w4=>∃ (i n:Nat),2<=i/\i<=max 2 (a+1)/\si = .int .i64 i/\sn = .int .i64 n/\n<=4000000000/\1<=n/\qL n=qL (pT p l*(a+1) ^ r*Ub (i-1))/\Below w.heap.size w w4) (λ_ si _=>a+3-(intOf si).toNat)
     case atStart=>exact ⟨2,n,W8 _,by omega,rfl,rfl,hn,hn1,by rw [HC2.out];simp [Ub],hb3⟩
     case round=>
      obtain ⟨i,n,hi2,hi,rfl,rfl,hn,hn1,hcap,hb4⟩:=hrel;have HC3:=Lib.hid hcap;clear hcap
      by_cases hgo:i<=a/\n<=3000
      ·obtain ⟨h1,h2⟩:=hgo;have h1':(i:Int)<=(a:Int):=by omega
       have h2':(n:Int)<=3000:=by omega
       have hmul:n*i<=4000000000:=Ma h2 (by omega);have hmul1:1<=n*i:=Xe hn1 (by omega);have hmulI:(n:Int)*(i:Int)<=3145731000:=L9 h2' (by omega) (by omega) (by omega);have hmulI0:0<=(n:Int)*(i:Int):=Xk (by omega) (by omega);have HM:=Lib.hid hmul;clear hmul;have HM1:=Lib.hid hmul1;clear hmul1
       go_wp2_with fail
       go_roundw
       case rel=>
        refine ⟨i+1,n*i,by omega,by omega,by go_num,by push_cast;rfl,HM.out,HM1.out,?_,hb4⟩;have : Ub (i+1-1)=Ub (i-1)*i:=by
         obtain ⟨q,rfl⟩:∃ q,i=q+1:=⟨i-1,by omega⟩
         rfl
        rw [this,<- Xb];exact Gc _ HC3.out (by omega)
       case measure=>simp [intOf];omega
      have hc4:qL n=qL (pT p<|l+1):=by
       rw [HW.out,<- Xb]
       by_cases h:i<=a
       ·obtain ⟨q,hq,hf⟩:=Hh (i-1)<|a-(i-1);rw [show i-1+(a-(i-1))=a from by omega] at hf;rw [hf,<- Xb];exact JM HC3.out (by omega) hq
       have : Ub (i-1)=Ub a:=by
        by_cases ha0:a=0
        ·have : i=2:=by omega
         subst this ha0
         rfl
        congr 1;omega
       rw [<- this];exact HC3.out
      have HC4:=Lib.hid hc4;clear hc4;have hor:((i:Int)<=(a:Int) /\ ¬ (n:Int)<=3000) \/ ¬ (i:Int)<=(a:Int):=by omega
      clear hgo;rcases hor with ⟨h1,h2⟩ | h1
      all_goals
       go_wp2_with fail
       go_roundw
       case rel=>exact ⟨l+1,n,by omega,by go_num,rfl,hn,hn1,HC4.out,hb4⟩
       case measure=>simp [intOf];omega
  have hl4:l=3:=by omega
  subst hl4
  by_cases hbig:n<=3000
  ·have hfin:n=qL (xO p):=by
    have := HC.out;unfold xO qL at *;omega
   have HF:=Lib.hid hfin;clear hfin;have hb' : ¬ (3000:Int)<(n:Int):=by omega
   go_wp2_with fail
   go_ret
   exact ⟨D8 (by rw [<- HF.out]),hb⟩
  have hfin:3001=qL (xO p):=by
   have := HC.out;unfold xO qL at *;omega
  have HF:=Lib.hid hfin;clear hfin;have hb':(3000:Int)<(n:Int):=by omega
  go_wp2_with fail
  go_ret
  exact ⟨D8 (by rw [<- HF.out];rfl),hb⟩
theorem Fy (g a n:Nat) (t:TypeId) (w:World) (hB:Blk w g t #[.int .i64 a]) (ha:a<=3001) (hn:n<=1048577) :
  Calls Uv 83 #[.int .i64 n,.pointer (Us ⟨g,0,Ut⟩)] w λe w'=>e = .returned (.tuple #[])/\w.setCell ⟨g,0,Ut⟩ (.int .i64 (qL (a*n):Nat))=w':=by
 have h1:(a:Int)*(n:Int)<=4000000000:=by
  have : (a:Int)*n<=3001*1048577:=Int.mul_le_mul (by omega) (by omega) (by omega) (by omega);omega
 have h0:0<=(a:Int)*(n:Int):=Xk (by omega) (by omega);have c:=hB.cell 0;have f:=hB.frozen 0;have hc:w.cell? ⟨g,0,Ut⟩=Us (.int .i64 a):=c;clear c hB
 go_enter func83,Tryz.ntmps83
 go_wp2_with fail
 ·have hv:((qL (a*n):Nat):Int)=3001:=by
   have : ((a*n:Nat):Int)=(a:Int)*(n:Int):=by push_cast;rfl
   unfold qL;omega
  go_end0
  exact ⟨rfl,by rw [hv]⟩
 have hv:((qL (a*n):Nat):Int)=(a:Int)*(n:Int):=by
  have : ((a*n:Nat):Int)=(a:Int)*(n:Int):=by push_cast;rfl
  unfold qL;omega
 go_end0
 exact ⟨rfl,by rw [hv]⟩
theorem Mb (n:Nat):qL n<=3001:=Nat.min_le_right _ _
theorem Hk (a n:Nat) (hn:1<=n):qL (qL a*n)=qL (a*n):=Gc n (by unfold qL;omega) hn
set_option maxHeartbeats 2000000 in
theorem Mc {lo hi:Nat} {u:Value} {p:List (List Ins)} {w:World} (hu:GI Ins.cells 4 w lo hi u p) (ht:total p<=1048576) :
    Calls Uv 39 #[u] w λe w'=>e = .returned (.int .i64<|qL<|xO p)/\Below w.heap.size w w':=by
  obtain ⟨xs,hxs,hxl,hxr⟩:=hu;obtain ⟨A,ca,rfl,hca,hma,hA⟩:=hxs.vals;clear hxs;have HX:=Lib.hid hxl;clear hxl;have HXR:=Lib.hid hxr;clear hxr;have HAA:=Lib.hid hA;clear hA
  go_enter func39,Tryz.ntmps39
  go_wp2_with fail
  go_loopw [14] (λsl wr=>∃ (l:Nat),l<=3/\sl = .int .i64 l/\Blk wr w.heap.size 3 #[.int .i64 (qL (pT p l):Nat)]/\Below w.heap.size w wr) (λsl _=>3-(intOf sl).toNat)
  case atStart=>exact ⟨0,by omega,rfl,Blk.new _ _ _,(Below.refl _ _).alloc (W8 _) _⟩
  case round=>
    obtain ⟨l,hl,rfl,hB,hb⟩:=hrel;have HB:=Lib.hid hB;clear hB;have hgl:=HB.out.lt
    by_cases hl3:l<3
    · have HW:=Lib.hid (show pT p (l+1)=pT p l*((cw p l+1) ^ (cr p l)*Ub (cw p l)) from rfl);obtain ⟨wo,rfl⟩:∃ wo:World,wo=wr:=⟨_,rfl⟩;have hl3':(l:Int)<3:=by omega
      go_wp2_with fail
      go_loopw [6,7,19] (λsr sw i w1=>∃ k:Nat,k<=xs.length/\i = .int .i64 k/\sr = .int .i64 (wB (cf l rdB)<|p.take k)/\sw = .int .i64 (wB (cf l wrB)<|p.take k)/\Below wo.heap.size wo w1) (λ_ _ i _=>xs.length-(intOf i).toNat)
      case atStart=>exact ⟨0,W9 _,rfl,rfl,rfl,Below.refl _ _⟩
      case round=>
        obtain ⟨k,hk,rfl,rfl,rfl,hb1⟩:=hrel;have hbw:=hb.trans<|hb1.mono hb.size
        by_cases hlt:k<xs.length
        · obtain ⟨ba,oa,rfl,_,_,hba,hA⟩:=HAA.out (by omega);have hp:k<p.length:=HX.out ▸ hlt;obtain ⟨Ak,ck,hk1,hk2,hk3,hrow⟩:=(HXR.out k hlt hp).inss;have HROW:=Lib.hid hrow;clear hrow;have ca0:=(hbw.cell (p:=⟨ba,oa+k,Ut⟩) hba).trans<|hA k hlt;rw [hk1] at ca0;clear hA hk1;have i1:(0:Int)<=(k:Int):=by omega
          have i2:(k:Int)<(xs.length:Int):=by omega
          have HTr:=Lib.hid<|gP (cf l rdB) p k hp;have HTw:=Lib.hid<|gP (cf l wrB) p k hp;have HPr:=Lib.hid λj=>mZ (cf l rdB) p k j hp;have HPw:=Lib.hid λj=>mZ (cf l wrB) p k j hp;obtain ⟨w1,rfl⟩:∃ w1:World,w1=wr:=⟨_,rfl⟩
          go_wp2_with fail
          go_loopw [6,7,25] (λsr sw i w2=>∃ j:Nat,j<=p[k].length/\i = .int .i64 j/\sr = .int .i64 (wB (cf l rdB) (p.take k)+(p[k].take j).countP (cf l rdB):Nat)/\sw = .int .i64 (wB (cf l wrB) (p.take k)+(p[k].take j).countP (cf l wrB):Nat)/\Below w1.heap.size w1 w2) (λ_ _ i _=>p[k].length-(intOf i).toNat)
          case atStart=>exact ⟨0,W9 _,rfl,by simp,by simp,Below.refl _ _⟩
          case round=>
            obtain ⟨j,hj,rfl,rfl,rfl,hb2⟩:=hrel;have hbw2:=hbw.trans<|hb2.mono hbw.size;have hsm1:wB (cf l rdB) (p.take k)+(p[k].take j).countP (cf l rdB)<=1048576:=Xd (HPr.out j) ht;have hsm2:wB (cf l wrB) (p.take k)+(p[k].take j).countP (cf l wrB)<=1048576:=Xd (HPw.out j) ht
            by_cases hlj:j<p[k].length
            · obtain ⟨bb,ob,rfl,_,_,hbb,hBB⟩:=HROW.out (by omega);obtain ⟨d1,d2,d3,d4⟩:=(hBB j hlj).below hbw2 hbb;have HSr:=Lib.hid<|fU (cf l rdB) p[k] j hlj;have HSw:=Lib.hid<|fU (cf l wrB) p[k] j hlj;have j1:(0:Int)<=(j:Int):=by omega
              have j2:(j:Int)<(p[k].length:Int):=by omega
              clear hBB
              go_wp2_with (first
                | (go_at_call 84;refine (LY _ _ _ _ _).mono ?_;rintro e w3 ⟨rfl,hq⟩;have z0:=hq.cell (p:=⟨wr.heap.size,0,Ut⟩) (by simp);have z1:=hq.cell (p:=⟨wr.heap.size,1,Ut⟩) (by simp);have z2:=hq.cell (p:=⟨wr.heap.size,2,Ut⟩) (by simp);have z3:=hq.cell (p:=⟨wr.heap.size,3,Ut⟩)<|by simp)
                | (go_at_call 85;refine (KG _ _ _ _ _).mono ?_;rintro e w4 ⟨rfl,hq2⟩))
              all_goals
                have hr:=HSr.out;have hw:=HSw.out
                first
                  | (have ef:cf (l:Int) rdB p[k][j]=Uq:=by simp [cf,rdB, *]
                     rw [if_pos ef] at hr)
                  | (have ef : ¬ cf (l:Int) rdB p[k][j]=Uq:=by simp [cf,rdB, *]
                     rw [if_neg ef] at hr)
                first
                  | (have ef:cf (l:Int) wrB p[k][j]=Uq:=by simp [cf,wrB, *]
                     rw [if_pos ef] at hw)
                  | (have ef : ¬ cf (l:Int) wrB p[k][j]=Uq:=by simp [cf,wrB, *]
                     rw [if_neg ef] at hw)
                go_roundw
                case rel=>
                  have hsz:=hb2.size;refine ⟨j+1,by omega,by go_num,congrArg (Value.int .i64) (by omega),congrArg (Value.int .i64) (by omega),?_⟩
                  first
                    | exact hb2.alloc hb2.size _
                    | exact ((hb2.alloc hb2.size _).trans<|hq.mono<|by simp;omega).trans (hq2.mono (by have := hq.size;simp at this;omega))
                case measure=>simp [intOf];omega
            have hjx:p[k].take j=p[k]:=Xa (by omega);have HJ:=Lib.hid hjx;clear hjx
            go_wp2_with fail
            go_roundw
            case rel=>exact ⟨k+1,by omega,by go_num,congrArg (Value.int .i64) (by rw [HJ.out,HTr.out]),congrArg (Value.int .i64) (by rw [HJ.out,HTw.out]),hb1.trans<|hb2.mono hb1.size⟩
            case measure=>simp [intOf];omega
        have hkx:p.take k=p:=Xa (by rw [<- HX.out];omega);have B1:=HB.out.below hb1 hgl;have hcw:=Ea (cf (l:Int) wrB) p;have hcr:=Ea (cf (l:Int) rdB) p;have er:wB (cf (l:Int) rdB) (p.take k)=cr p l:=by rw [hkx];rfl
        have ew:wB (cf (l:Int) wrB) (p.take k)=cw p l:=by rw [hkx];rfl
        rw [er,ew];change cw p l<=total p at hcw;change cr p l<=total p at hcr;clear er ew hkx;generalize cw p l=a at *;generalize cr p l=r at *;have BB1:=Lib.hid B1;clear B1;have ha1:(a:Int)<=1048576:=by omega
        have hr1:(r:Int)<=1048576:=by omega
        go_wp2_with fail
        go_loopw [52] (λsi w4=>∃ (i:Nat),i<=r/\si = .int .i64 i/\Blk w4 w.heap.size 3 #[.int .i64 (qL (pT p l*(a+1) ^ i):Nat)]/\Below w.heap.size w w4) (λsi _=>r-(intOf si).toNat)
        case atStart=>exact ⟨0,W9 _,rfl,by simpa using BB1.out,hbw⟩
        case round=>
          obtain ⟨i,hi,rfl,hBi,hb4⟩:=hrel;have HBi:=Lib.hid hBi;clear hBi
          by_cases hir:i<r
          · have hir':(i:Int)<(r:Int):=by omega
            have hc3:qL (pT p l*(a+1) ^ i)<=3001:=Mb _;have hstep:qL (qL (pT p l*(a+1) ^ i)*(a+1))=qL (pT p l*(a+1) ^ (i+1)):=by rw [Hk _ _ (by omega),Nat.pow_succ,Xb]
            have HST:=Lib.hid hstep;clear hstep;have hcast:((a+1:Nat):Int)=(a:Int)+1:=by push_cast;rfl
            have EX:=Fy w.heap.size (qL<|pT p l*(a+1) ^ i) (a+1) 3 wr HBi.out hc3 (by omega);rw [hcast] at EX;have HEX:=Lib.hid EX;clear EX hcast hc3
            go_wp2_with (go_at_call 83;refine HEX.out.mono ?_;rintro e w5 ⟨rfl,rfl⟩)
            go_roundw
            case rel=>exact ⟨i+1,by omega,by go_num,by rw [<- HST.out];exact HBi.out.set_ 0 _,hb4.setCell (by simp) _⟩
            case measure=>simp [intOf];omega
          have hix:i=r:=by omega
          subst hix
          go_wp2_with fail
          go_loopw [60] (λsi w4=>∃ (j:Nat),j<=a/\si = .int .i64 j/\Blk w4 w.heap.size 3 #[.int .i64 (qL (pT p l*(a+1) ^ i*Ub j):Nat)]/\Below w.heap.size w w4) (λsi _=>a-(intOf si).toNat)
          case atStart=>exact ⟨0,W9 _,rfl,by simpa [Ub] using HBi.out,hb4⟩
          case round=>
            obtain ⟨j,hj,rfl,hBj,hb5⟩:=hrel;have HBj:=Lib.hid hBj;clear hBj
            by_cases hja:j<a
            · have hja':(j:Int)<(a:Int):=by omega
              have hc3:qL (pT p l*(a+1) ^ i*Ub j)<=3001:=Mb _;have hstep:qL (qL (pT p l*(a+1) ^ i*Ub j)*(j+1))=qL (pT p l*(a+1) ^ i*Ub (j+1)):=by rw [Hk _ _ (by omega),Ub,<- Xb]
              have HST:=Lib.hid hstep;clear hstep;have hcast:((j+1:Nat):Int)=(j:Int)+1:=by push_cast;rfl
              have EX:=Fy w.heap.size (qL<|pT p l*(a+1) ^ i*Ub j) (j+1) 3 wr HBj.out hc3 (by omega);rw [hcast] at EX;have HEX:=Lib.hid EX;clear EX hcast hc3
              go_wp2_with (go_at_call 83;refine HEX.out.mono ?_;rintro e w5 ⟨rfl,rfl⟩)
              go_roundw
              case rel=>exact ⟨j+1,by omega,by go_num,by rw [<- HST.out];exact HBj.out.set_ 0 _,hb5.setCell (by simp) _⟩
              case measure=>simp [intOf];omega
            have hjx:j=a:=by omega
            subst hjx
            go_wp2_with fail
            go_roundw
            case rel=>exact ⟨l+1,by omega,by go_num,by rw [HW.out,<- Xb];exact HBj.out,hb5⟩
            case measure=>simp [intOf];omega
    have hl4:l=3:=by omega
    subst hl4;have c0:=HB.out.cell 0;have c1:wr.cell? ⟨w.heap.size,0,Ut⟩=Us (.int .i64 (qL (pT p 3):Nat)):=c0;clear c0
    go_wp2_with fail
    go_ret
    exact ⟨D8 rfl,hb⟩
def yT (x:Ins):Bool:=x.op != 4
def rowOk (r:List Ins):Bool:=Uu (r.length<=7)&&r.all nJ
def vB (p:List<|List Ins):Bool:=Uu (p.length<=3)&&p.all rowOk&&Uu (wB yT p<=12)
def bS (p:List<|List Ins):Bool:=vB p&&Uu (0<p.length)&&Uu (xO p<=3000)
theorem BH {p:List (List Ins)} (k:Nat) (h:k<p.length) (hb:rowOk p[k]=Ur):vB p=Ur:=by
 have : p.all rowOk=Ur:=by
  rw [List.all_eq_false];exact ⟨p[k],List.getElem_mem h,by rw [hb];simp⟩
 simp [vB,this]
theorem FA {r:List Ins} (h:7<r.length):rowOk r=Ur:=by
 simp [rowOk];omega
theorem Hl {r:List Ins} (j:Nat) (h:j<r.length) (hb:nJ r[j]=Ur):rowOk r=Ur:=by
 have : r.all nJ=Ur:=by
  rw [List.all_eq_false];exact ⟨r[j],List.getElem_mem h,by rw [hb];simp⟩
 simp [rowOk,this]
theorem FB {r:List Ins} (h:r.length<=7) (hg:∀ j (h:j<r.length),nJ r[j]=Uq):rowOk r=Uq:=by
 simp only [rowOk,bae,dte,List.all_eq_true];refine ⟨h,λx hx=>?_⟩;obtain ⟨j,hj,rfl⟩:=Xm hx;exact hg j hj
theorem Eb {p:List (List Ins)} (h:p.length<=3) (hg:∀ j (h:j<p.length),rowOk p[j]=Uq):vB p=Uu (wB yT p<=12):=by
 have : p.all rowOk=Uq:=by
  rw [List.all_eq_true];intro x hx;obtain ⟨j,hj,rfl⟩:=Xm hx;exact hg j hj
 simp [vB,this,h]
set_option maxHeartbeats 1000000 in
theorem Ec {lo hi:Nat} {u:Value} {p:List (List Ins)} {w:World} (hu:GI Ins.cells 4 w lo hi u p) (ht:total p<=1048576) :
    Calls Uv 99 #[u] w λe w'=>e = .returned (.bool<|vB p)/\Below w.heap.size w w':=by
  obtain ⟨xs,hxs,hxl,hxr⟩:=hu;obtain ⟨A,ca,rfl,hca,hma,hA⟩:=hxs.vals;clear hxs;have HX:=Lib.hid hxl;clear hxl;have HXR:=Lib.hid hxr;clear hxr;have HAA:=Lib.hid hA;clear hA
  by_cases h3:xs.length<=3
  · have h3' : ¬ (3:Int)<(xs.length:Int):=by omega
    go_enter func99,Tryz.ntmps99
    go_wp2_with fail
    go_loopw [3,4] (λn i wr=>∃ k:Nat,k<=xs.length/\i = .int .i64 k/\n = .int .i64 (wB yT<|p.take k)/\(∀ q (h:q<p.length),q<k->rowOk p[q]=Uq)/\Below w.heap.size w wr) (λ_ i _=>xs.length-(intOf i).toNat)
    case atStart=>exact ⟨0,W9 _,rfl,rfl,λq _ h=>absurd h (by omega),Below.refl _ _⟩
    case round=>
      obtain ⟨k,hk,rfl,rfl,hgood,hb⟩:=hrel;have HG:=Lib.hid hgood;clear hgood
      by_cases hlt:k<xs.length
      · obtain ⟨ba,oa,rfl,_,_,hba,hA⟩:=HAA.out (by omega);have hp:k<p.length:=HX.out ▸ hlt;obtain ⟨Ak,ck,hk1,hk2,hk3,hrow⟩:=(HXR.out k hlt hp).inss;have HROW:=Lib.hid hrow;clear hrow;have ca0:=hA k hlt;rw [hk1] at ca0;have CA:=Lib.hid ca0;have c00:=(hb.cell (p:=⟨ba,oa+k,Ut⟩) hba).trans ca0;clear hA hk1 ca0;have i1:(0:Int)<=(k:Int):=by omega
        have i2:(k:Int)<(xs.length:Int):=by omega
        have HT:=Lib.hid<|gP yT p k hp;have HPL:=Lib.hid λj=>mZ yT p k j hp;obtain ⟨wo,rfl⟩:∃ wo:World,wo=wr:=⟨_,rfl⟩
        by_cases h7:p[k].length<=7
        · have h7' : ¬ (7:Int)<(p[k].length:Int):=by omega
          go_wp2_with fail
          go_loopw [3,5] (λn i w2=>∃ j:Nat,j<=p[k].length/\i = .int .i64 j/\n = .int .i64 (wB yT (p.take k)+(p[k].take j).countP yT:Nat)/\(∀ q (h:q<p[k].length),q<j->nJ p[k][q]=Uq)/\Below w.heap.size w w2) (λ_ i _=>p[k].length-(intOf i).toNat)
          case atStart=>exact ⟨0,W9 _,rfl,by simp,λq _ h=>absurd h (by omega),hb⟩
          case round=>
            obtain ⟨j,hj,rfl,rfl,hgj,hb2⟩:=hrel;have HGJ:=Lib.hid hgj;clear hgj;have c0:=(hb2.cell (p:=⟨ba,oa+k,Ut⟩) hba).trans CA.out;have hsm:wB yT (p.take k)+(p[k].take j).countP yT<=1048576:=Xd (HPL.out j) ht
            by_cases hlj:j<p[k].length
            · obtain ⟨bb,ob,rfl,_,_,hbb,hB⟩:=HROW.out (by omega);obtain ⟨d1,d2,d3,d4⟩:=(hB j hlj).below hb2 hbb;have HS:=Lib.hid<|fU yT p[k] j hlj;have j1:(0:Int)<=(j:Int):=by omega
              have j2:(j:Int)<(p[k].length:Int):=by omega
              clear hB c00
              go_wp2_with fail
              refine (zD p[k][j] _).mono ?_;rintro e w3 ⟨rfl,hq⟩;have e0:=(hq.cell (p:=⟨ba,oa+k,Ut⟩)<|Nat.lt_of_lt_of_le hba hb2.size).trans c0;have e1:=(hq.cell (p:=⟨bb,ob+j*4,Ut⟩)<|Nat.lt_of_lt_of_le hbb hb2.size).trans d1;have hb3:=hb2.trans<|hq.mono hb2.size
              by_cases hok:nJ p[k][j]=Uq
              · go_wp2_with fail
                all_goals
                  have h:=HS.out
                  first
                    | (have ef:yT p[k][j]=Uq:=by simpa [yT] using ‹(p[k][j].op != 4)=Uq›
                       rw [if_pos ef] at h)
                    | (have ef : ¬ yT p[k][j]=Uq:=by simpa [yT] using ‹(p[k][j].op != 4)=Ur›
                       rw [if_neg ef] at h)
                  go_roundw
                  case rel=>
                    refine ⟨j+1,by omega,by go_num,congrArg (Value.int .i64) (by omega),λq hq hqj=>?_,hb3⟩
                    by_cases e:q=j
                    · subst e;exact hok
                    exact HGJ.out q hq (by omega)
                  case measure=>simp [intOf];omega
              have hok':nJ p[k][j]=Ur:=by simpa using hok
              have hbad:=BH k hp<|Hl j hlj hok';have HBAD:=Lib.hid hbad;clear hok hbad
              go_wp2_with fail
              go_ret
              exact ⟨aZ (by rw [HBAD.out]),hb3⟩
            have hjx:p[k].take j=p[k]:=Xa (by omega);have HJ:=Lib.hid hjx;clear hjx;have hrk:rowOk p[k]=Uq:=FB h7 λq hq=>HGJ.out q hq (by omega);have HRK:=Lib.hid hrk;clear hrk
            go_wp2_with fail
            go_roundw
            case rel=>
              refine ⟨k+1,by omega,by go_num,congrArg (Value.int .i64) (by rw [HJ.out,HT.out]),λq hq hqk=>?_,hb2⟩
              by_cases e:q=k
              · subst e;exact HRK.out
              exact HG.out q hq (by omega)
            case measure=>simp [intOf];omega
        have h7':(7:Int)<(p[k].length:Int):=by omega
        have HBAD:=Lib.hid<|BH k hp<|FA (by omega);clear h7
        go_wp2_with fail
        go_ret
        exact ⟨aZ (by rw [HBAD.out]),hb⟩
      have hkx:p.take k=p:=Xa (by rw [<- HX.out];omega);have hsh:=Eb (p:=p) (by rw [<- HX.out];exact h3) λq hq=>HG.out q hq (by rw [<- HX.out] at hq;omega);have HK:=Lib.hid hkx;clear hkx;have HS:=Lib.hid hsh;clear hsh
      go_wp2_with fail
      go_ret
      exact ⟨aZ (by rw [HS.out,HK.out];exact decide_eq_decide.2<|by omega),hb⟩
  have h3':(3:Int)<(xs.length:Int):=by omega
  have hsh:vB p=Ur:=by
    have := HX.out;simp [vB];omega
  have HS:=Lib.hid hsh;clear h3 hsh
  go_enter func99,Tryz.ntmps99
  go_wp2_with fail
  go_ret
  exact ⟨aZ (by rw [HS.out]),Below.refl _ _⟩
theorem Ed (n:Nat):Uu (((qL n:Nat):Int)<=3000)=Uu (n<=3000):=by
 unfold qL;simp only [decide_eq_decide];omega
theorem xP {lo hi:Nat} {u:Value} {p:List (List Ins)} {w:World} (hu:GI Ins.cells 4 w lo hi u p) (hhi:hi<=w.heap.size) (ht:total p<=1048576) :
  Calls Uv 60 #[u] w λe w'=>e = .returned (.bool<|bS p)/\Below w.heap.size w w':=by
 have HU:=Lib.hid hu;obtain ⟨xs,hxs,hxl,hxr⟩:=hu;obtain ⟨A,ca,rfl,hca,hma,hA⟩:=hxs.vals;clear hxs hxr hA;have HX:=Lib.hid hxl;clear hxl;have hv:bS p=(vB p&&Uu (0<xs.length)&&Uu (xO p<=3000)):=by rw [HX.out];rfl
 have HV:=Lib.hid hv;clear hv;have hc:=Ed<|xO p;have HCC:=Lib.hid hc;clear hc
 cases hs:vB p with
 | false=>
  have SH:=Lib.hid<|Ec (w:=w) HU.out ht;rw [hs] at SH;have HS:=Lib.hid hs;clear hs
  go_enter func60,Tryz.ntmps60
  go_wp2_with (first | (go_at_call 99;refine SH.out.mono ?_;rintro e w1 ⟨rfl,hb⟩))
  go_ret
  exact ⟨aZ (by rw [HV.out,HS.out];rfl),hb⟩
 | true=>
  have SH:=Lib.hid<|Ec (w:=w) HU.out ht;rw [hs] at SH;have HS:=Lib.hid hs;clear hs
  by_cases h0:(0:Int)<(xs.length:Int)
  ·go_enter func60,Tryz.ntmps60
   go_wp2_with (first | (go_at_call 99;refine SH.out.mono ?_;rintro e w1 ⟨rfl,hb⟩) | (go_at_call 35;refine (IX (HU.out.below hb hhi) (Xd hhi hb.size) ht).mono ?_;rintro e w2 ⟨rfl,hb2⟩))
   all_goals
    go_ret
    refine ⟨aZ ?_,hb.trans<|hb2.mono hb.size⟩;rw [HV.out,HS.out];have := HCC.out
    simp_all
  go_enter func60,Tryz.ntmps60
  go_wp2_with (first | (go_at_call 99;refine SH.out.mono ?_;rintro e w1 ⟨rfl,hb⟩))
  go_ret
  refine ⟨aZ ?_,hb⟩;rw [HV.out,HS.out];simp;omega
theorem FC {p:List (List Ins)} (k:Nat) (h:k<p.length) (hb:rowOk p[k]=Ur):bS p=Ur:=by
 simp [bS,BH k h hb]
set_option maxHeartbeats 1000000 in
theorem xQ {lo hi:Nat} {u:Value} {p:List (List Ins)} {w:World} (hu:GI Ins.cells 4 w lo hi u p) (hhi:hi<=w.heap.size) (ht:total p<=1048576) :
    Calls Uv 16 #[u] w λe w'=>e = .returned (.bool<|bS p)/\Below w.heap.size w w':=by
  have HU:=Lib.hid hu;obtain ⟨xs,hxs,hxl,hxr⟩:=hu;obtain ⟨A,ca,rfl,hca,hma,hA⟩:=hxs.vals;clear hxs;have HX:=Lib.hid hxl;clear hxl;have HXR:=Lib.hid hxr;clear hxr;have HAA:=Lib.hid hA;clear hA
  by_cases h3:1<=xs.length/\xs.length<=3
  · obtain ⟨h1,h3⟩:=h3
    go_enter func16,Tryz.ntmps16
    go_wp2_with (go_at_call 37;refine (fT _ _ _ Uq (by simp;omega) _).mono ?_;rintro e w1 ⟨rfl,rfl⟩)
    go_loopw [3,14] (λn i wr=>∃ k:Nat,k<=xs.length/\i = .int .i64 k/\n = .int .i64 (wB yT<|p.take k)/\(∀ q (h:q<p.length),q<k->rowOk p[q]=Uq)/\Below w.heap.size w wr) (λ_ i _=>xs.length-(intOf i).toNat)
    case atStart=>exact ⟨0,W9 _,rfl,rfl,λq _ h=>absurd h (by omega),Below.refl _ _⟩
    case round=>
      obtain ⟨k,hk,rfl,rfl,hgood,hb⟩:=hrel;have HG:=Lib.hid hgood;clear hgood
      by_cases hlt:k<xs.length
      · obtain ⟨ba,oa,rfl,_,_,hba,hA⟩:=HAA.out (by omega);have hp:k<p.length:=HX.out ▸ hlt;obtain ⟨Ak,ck,hk1,hk2,hk3,hrow⟩:=(HXR.out k hlt hp).inss;have HROW:=Lib.hid hrow;clear hrow;have ca0:=hA k hlt;rw [hk1] at ca0;have c00:=(hb.cell (p:=⟨ba,oa+k,Ut⟩) hba).trans ca0;clear hA hk1 ca0;have i1:(0:Int)<=(k:Int):=by omega
        have i2:(k:Int)<(xs.length:Int):=by omega
        have HT:=Lib.hid<|gP yT p k hp;have HPL:=Lib.hid λj=>mZ yT p k j hp;obtain ⟨wo,rfl⟩:∃ wo:World,wo=wr:=⟨_,rfl⟩
        go_wp2_with fail
        clear c00
        go_loopw [3,20] (λn i w2=>∃ j:Nat,j<=p[k].length/\i = .int .i64 j/\n = .int .i64 (wB yT (p.take k)+(p[k].take j).countP yT:Nat)/\(∀ q (h:q<p[k].length),q<j->nJ p[k][q]=Uq)/\Below w.heap.size w w2) (λ_ i _=>p[k].length-(intOf i).toNat)
        case atStart=>exact ⟨0,W9 _,rfl,by simp,λq _ h=>absurd h (by omega),hb⟩
        case round=>
          obtain ⟨j,hj,rfl,rfl,hgj,hb2⟩:=hrel;have HGJ:=Lib.hid hgj;clear hgj;have hsm:wB yT (p.take k)+(p[k].take j).countP yT<=1048576:=Xd (HPL.out j) ht
          by_cases hlj:j<p[k].length
          · obtain ⟨bb,ob,rfl,_,_,hbb,hB⟩:=HROW.out (by omega);obtain ⟨d1,d2,d3,d4⟩:=(hB j hlj).below hb2 hbb;have HS:=Lib.hid<|fU yT p[k] j hlj;have j1:(0:Int)<=(j:Int):=by omega
            have j2:(j:Int)<(p[k].length:Int):=by omega
            clear hB
            go_wp2_with fail
            refine (zE p[k][j] _).mono ?_;rintro e w3 ⟨rfl,hq⟩;have z0:=hq.cell (p:=⟨wr.heap.size,0,Ut⟩) (by simp);have hb3:=(hb2.alloc hb2.size<|.cells #[.int .i64 p[k][j].op,.int .i64 p[k][j].loc,.int .i64 p[k][j].reg,.int .i64 p[k][j].val] 65).trans<|hq.mono (by simp;have := hb2.size;omega)
            by_cases hok:nJ p[k][j]=Uq
            · go_wp2_with fail
              all_goals
                have h:=HS.out
                first
                  | (have ef:yT p[k][j]=Uq:=by simpa [yT] using ‹(p[k][j].op != 4)=Uq›
                     rw [if_pos ef] at h)
                  | (have ef : ¬ yT p[k][j]=Uq:=by simpa [yT] using ‹(p[k][j].op != 4)=Ur›
                     rw [if_neg ef] at h)
                go_roundw
                case rel=>
                  refine ⟨j+1,by omega,by go_num,congrArg (Value.int .i64) (by omega),λq hq hqj=>?_,hb3⟩
                  by_cases e:q=j
                  · subst e;exact hok
                  exact HGJ.out q hq (by omega)
                case measure=>simp [intOf];omega
            have hok':nJ p[k][j]=Ur:=by simpa using hok
            have hbad:=FC k hp<|Hl j hlj hok';have HBAD:=Lib.hid hbad;clear hok hbad
            go_wp2_with fail
            go_ret
            exact ⟨aZ (by rw [HBAD.out]),hb3⟩
          have hjx:p[k].take j=p[k]:=Xa (by omega);have HJ:=Lib.hid hjx;clear hjx
          by_cases h7:p[k].length<=7
          · have h7' : ¬ (7:Int)<(p[k].length:Int):=by omega
            have hrk:rowOk p[k]=Uq:=FB h7 λq hq=>HGJ.out q hq (by omega);have HRK:=Lib.hid hrk;clear hrk
            go_wp2_with fail
            go_roundw
            case rel=>
              refine ⟨k+1,by omega,by go_num,congrArg (Value.int .i64) (by rw [HJ.out,HT.out]),λq hq hqk=>?_,hb2⟩
              by_cases e:q=k
              · subst e;exact HRK.out
              exact HG.out q hq (by omega)
            case measure=>simp [intOf];omega
          have h7':(7:Int)<(p[k].length:Int):=by omega
          have HBAD:=Lib.hid<|FC k hp<|FA (by omega);clear h7
          go_wp2_with fail
          go_ret
          exact ⟨aZ (by rw [HBAD.out]),hb2⟩
      have hkx:p.take k=p:=Xa (by rw [<- HX.out];omega);have hsh:=Eb (p:=p) (by rw [<- HX.out];exact h3) λq hq=>HG.out q hq (by rw [<- HX.out] at hq;omega);have hv:bS p=(Uu (wB yT p<=12)&&Uu (xO p<=3000)):=by
        have : 0<p.length:=by rw [<- HX.out];omega
        simp [bS,hsh,this]
      rw [hkx];have HV:=Lib.hid hv;clear hv hsh hkx;have HCC:=Lib.hid<|Ed<|xO p
      by_cases h12:wB yT p<=12
      · have h12':(wB yT p:Int)<=12:=by omega
        go_wp2_with (go_at_call 39;refine (Mc (HU.out.below hb hhi) ht).mono ?_;rintro e w2 ⟨rfl,hb2⟩)
        go_ret
        exact ⟨aZ (by rw [HV.out,decide_eq_true h12,Bool.true_and];exact HCC.out),hb.trans<|hb2.mono hb.size⟩
      have h12' : ¬ (wB yT p:Int)<=12:=by omega
      have hf:bS p=Ur:=by rw [HV.out];simp [h12]
      have HF:=Lib.hid hf;clear hf h12
      go_wp2_with fail
      go_ret
      exact ⟨aZ (by rw [HF.out]),hb⟩
  have hv:bS p=Ur:=by
    have := HX.out
    by_cases h:p.length<=3
    · have : p.length=0:=by omega
      simp [bS,this]
    simp [bS,vB,h]
  have HV:=Lib.hid hv;clear hv;have HN:=Lib.hid h3;clear h3
  go_enter func16,Tryz.ntmps16
  go_wp2_with (go_at_call 37;refine (fT _ _ _ Ur (by have := HN.out;simp;omega) _).mono ?_;rintro e w1 ⟨rfl,rfl⟩)
  go_ret
  exact ⟨aZ (by rw [HV.out]),Below.refl _ _⟩
def aU (p:List<|List TW):Option Bool:=gd (Uu<|p.length<=1048576/\total p<=1048576)<|Us<|bS<|p.map λr=>r.map qw
def bT (p:List<|List TW):Option Bool:=gd (Uu<|p.length<=1048576/\total p<=1048576)<|Us<|bS<|p.map λr=>r.map qw
def sK (l:LI) (i j:Int):Option (LI):=gd (Uu<|0<=i/\i<=j/\j<=(l.length:Int)/\0<l.length)<|Us<|l.take i.toNat++l.drop j.toNat
def cmpL:LI->LI->Int
 | [],[]=>0
 | [],_::_ => -1
 | _::_,[]=>1
 | a::l,b::k=>if a<b then -1 else if b<a then 1 else cmpL l k
theorem sM:∀ l,cmpL l l=0
 | []=>rfl
 | a::l=>by rw [cmpL,if_neg (Int.lt_irrefl _),if_neg (Int.lt_irrefl _),sM l]
theorem yM:∀ l k,cmpL k l = - cmpL l k
 | [],[]=>rfl
 | [],_::_=>rfl
 | _::_,[]=>rfl
 | a::l,b::k=>by
  rw [cmpL,cmpL]
  by_cases h:a<b
  ·rw [if_pos h,if_pos h,if_neg (by omega)]
   rfl
  rw [if_neg h,if_neg h]
  by_cases h2:b<a
  ·rw [if_pos h2,if_pos h2]
  rw [if_neg h2,if_neg h2,yM l k]
theorem cmpL_eq:∀ {l k},cmpL l k=0->l=k
 | [],[],_=>rfl
 | [],_::_,h=>by cases h
 | _::_,[],h=>by cases h
 | a::l,b::k,h=>by
  rw [cmpL] at h
  split at h
  ·cases h
  split at h
  ·cases h
  rw [cmpL_eq h]
  congr 1
  omega
theorem sG:∀ {l k m},cmpL l k<0->cmpL k m<0->cmpL l m<0
 | [],[],_,h,_=>by cases h
 | [],_::_,[],_,h=>by simp [cmpL] at h
 | [],_::_,_::_,_,_=>by simp [cmpL]
 | _::_,[],_,h,_=>by simp [cmpL] at h
 | _::_,_::_,[],_,h=>by simp [cmpL] at h
 | a::l,b::k,c::m,h1,h2=>by
  rw [cmpL] at h1 h2 ⊢
  by_cases e1:a<b
  ·by_cases e2:c<b
   ·rw [if_neg (by omega),if_pos e2] at h2
    cases h2
   rw [if_pos (by omega)]
   decide
  rw [if_neg e1] at h1
  by_cases e2:b<a
  ·rw [if_pos e2] at h1
   cases h1
  rw [if_neg e2] at h1;obtain rfl:a=b:=by omega
  by_cases e3:a<c
  ·rw [if_pos e3]
   decide
  rw [if_neg e3] at h2 ⊢
  by_cases e4:c<a
  ·rw [if_pos e4] at h2
   cases h2
  rw [if_neg e4] at h2 ⊢;exact sG h1 h2
theorem wC (l k:LI):cmpL l k<0\/l=k\/cmpL k l<0:=by
 have := yM l k;rcases Int.lt_trichotomy (cmpL l k) 0 with h | h | h
 ·exact .inl h
 ·exact .inr<|.inl<|cmpL_eq h
 exact .inr<|.inr (by omega)
def leL (x y:LI):Bool:=Uu<|¬ cmpL y x<0
def Hm (l:LL):LL:=l.mergeSort leL
theorem Md (x y:LI):(leL x y||leL y x)=Uq:=by
 unfold leL;rw [Bool.or_eq_true,dte,dte];rcases wC x y with h | h | h
 ·left;have := yM x y;omega
 ·left;rw [h,sM];decide
 right;have := yM x y;omega
theorem Me (x y z:LI) (h1:leL x y=Uq) (h2:leL y z=Uq):leL x z=Uq:=by
 unfold leL at *;rw [dte] at *;intro h;rcases wC x y with g | g | g
 ·rcases wC y z with g2 | g2 | g2
  ·exact h2<|sG h g
  ·rw [g2] at h1;exact h1 h
  exact h2 g2
 ·rw [g] at h;exact h2 h
 exact h1 g
theorem JN (x y:LI) (h1:leL x y=Uq) (h2:leL y x=Uq):x=y:=by
 unfold leL at *;rw [dte] at *;rcases wC x y with h | h | h
 ·exact absurd h h2
 ·exact h
 exact absurd h h1
theorem sN (l:LL):(Hm l).Perm l:=List.mergeSort_perm l leL
theorem Ee (l:LL):(Hm l).Pairwise λx y=>leL x y=Uq:=List.pairwise_mergeSort Me Md l
theorem zF:∀ {l k:LL},l.Perm k->l.Pairwise (λx y=>leL x y=Uq)->k.Pairwise (λx y=>leL x y=Uq)->l=k
 | [],k,h,_,_=>h.nil_eq
 | a::l,[],h,_,_=>absurd h.length_eq (by simp)
 | a::l,b::k,h,h1,h2=>by
  have hab:a=b:=by
   rcases List.mem_cons.1 (h.subset<|List.mem_cons_self) with e | e
   ·exact e
   rcases List.mem_cons.1 (h.symm.subset<|List.mem_cons_self) with e2 | e2
   ·exact e2.symm
   exact JN a b ((Xf.1 h1).1 b e2)<|(Xf.1 h2).1 a e
  subst hab;rw [zF (List.perm_cons a |>.1 h) (Xf.1 h1).2 (Xf.1 h2).2]
def iB (l:LL):Option (LL):=gd (Uu<|l.length<4611686018427387904)<|Us<|Hm l
theorem xS {l q:LL} (h:l=[]) (c:iB l=some q):q=[]:=by
 subst h;obtain ⟨_,c⟩:=gdD c;rw [<- osl c];exact (sN []).eq_nil
theorem xU {l q:LL} (c:iB l=some q):q.length=l.length:=by
 obtain ⟨_,c⟩:=gdD c;rw [<- osl c];exact (sN l).length_eq
end
end Go.Proofs.YtdmahcaohkplcaaGreatDoor
