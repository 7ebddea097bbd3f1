/- Texts joined. No conditions. -/
import Derived.Below
import Derived.Laws.OwnMore
import Derived.Deep.Draws
import Derived.Laws.Rows
import Derived.Laws.MakeOwn
import Derived.Laws.Entries
import Derived.Lib.Hide
import Derived.Test.YtabfkkjdfhbngaaGreatDoorRows
import Derived.WalkKit
import Derived.ProofKit
import Derived.Deep.RegionHeld3
import Derived.Deep.DrawnRows
import Derived.Maps.AppendAt
import Derived.Deep.AppendLies
import Derived.RegionTactic
import Derived.OwnWalk
import Derived.Outline
import Derived.Deep.RegionLaw
import Derived.Deep.RegionWith
import Derived.ChangeAlike
import Derived.Test.YtabfkkjdfhbngaaGreatDoorW4
namespace Go.Proofs.YtabfkkjdfhbngaaGreatDoor
noncomputable section
open _root_.Bool renaming true -> Ri
open _root_.Bool renaming false -> Rj
open _root_.Option renaming some -> Rk
open _root_.Option renaming none -> Rl
open _root_.Decidable renaming decide -> Rm
open _root_.Go.Proofs.Tryz
open _root_.Go.Proofs.Tryz renaming prog -> Rn
open _root_.Nat renaming le_refl -> Uj, zero_le -> Uk, mul_assoc -> Um, le_trans -> Un, mul_pos -> Uo, lt_of_lt_of_le -> Uq, le_mul_of_pos_right -> Ut
open _root_.List renaming take_of_length_le -> Ul, map_append -> Ur, sum_append -> Us, countP_le_length -> Uv, getElem_of_mem -> Uw
open _root_.Int renaming mul_nonneg -> Uu
open Go.RowKit
def Blk (w:World) (g:Nat) (t:TypeId) (cs:Array Value):Prop:=w.heap[g]? = Rk (.cells cs t (0,0))
section
variable {w w':World} {g:Nat} {t:TypeId} {cs:Array Value}
theorem Blk.lt (h:Blk w g t cs):g<w.heap.size:=by
 rcases Nat.lt_or_ge g w.heap.size with hlt | hge
 ·exact hlt
 unfold Blk at h;rw [Array.getElem?_eq_none hge] at h;cases h
theorem Blk.cell (h:Blk w g t cs) (i:Nat):w.cell? ⟨g,i,Rl⟩=cs[i]? := cell_of_row w g i cs t (0,0) h
theorem Blk.frozen (h:Blk w g t cs) (i:Nat):w.frozen? ⟨g,i,Rl⟩=Rj:=by
 unfold Blk at h;simp [World.frozen?,h]
theorem Blk.new (w:World) (t:TypeId) (cs:Array Value):Blk (w.alloc<|.cells cs t) w.heap.size t cs:=heap_alloc_new w _
theorem Blk.set_ (h:Blk w g t cs) (i:Nat) (u:Value):Blk (w.setCell ⟨g,i,Rl⟩ u) g t (cs.setIfInBounds i u):=by
 unfold Blk at h ⊢;simp [World.setCell,Array.getElem?_modify,h]
theorem Blk.below {B:Nat} (h:Blk w g t cs) (hb:Below B w w') (hg:g<B):Blk w' g t cs:=(hb.block g hg).trans h
end
structure Fr (lo hi:Nat) (w w':World):Prop where
 os:w'.os=w.os
 tape:w'.tape=w.tape
 output:w'.output=w.output
 size:w.heap.size<=w'.heap.size
 block:∀ k,k<w.heap.size->(k<lo\/hi<=k)->w'.heap[k]? = w.heap[k]?
section
variable {a w w':World} {lo hi l h B:Nat}
theorem Fr.refl (lo hi:Nat) (w:World):Fr lo hi w w:=⟨rfl,rfl,rfl,Uj _,λ_ _ _=>rfl⟩
theorem Fr.trans {b c:World} (h:Fr lo hi a b) (k:Fr lo hi b c):Fr lo hi a c:=
 ⟨k.os.trans h.os,k.tape.trans h.tape,k.output.trans h.output,Un h.size k.size,λi hi hn=>(k.block i (Uq hi h.size) hn).trans<|h.block i hi hn⟩
end
section
variable {α:Type} (f:α->List Value) (s:Nat)
def Sl (w:World) (lo hi:Nat) (v:Value) (xs:List α):Prop:=
 ∃ A c,v = .slice A xs.length c/\xs.length<=c/\c<=9223372036854775807/\(0<xs.length->∃ b o,A=Rk ⟨b,o,Rl⟩/\lo<=b/\b<hi/\b<w.heap.size /\
  ∀ (k:Nat) (h:k<xs.length) (j:Nat) (u:Value),(f xs[k])[j]? = Rk u->w.cell? ⟨b,o+k*s+j,Rl⟩=Rk u)
def Ow (t:TypeId) (w:World) (lo hi:Nat) (v:Value) (xs:List α):Prop:=
 ∃ A c,v = .slice A xs.length c/\xs.length<=c/\c<=9223372036854775807/\(0<xs.length->∃ g cur,A=Rk ⟨g,0,Rl⟩/\lo<=g/\g<hi/\Blk w g t cur/\cur.size=c*s /\
  ∀ (k:Nat) (h:k<xs.length) (j:Nat) (u:Value),(f xs[k])[j]? = Rk u->cur[k*s+j]? = Rk u)
end
section
variable {α:Type} {f:α->List Value} {s:Nat} {t:TypeId} {w w':World} {lo hi l h B:Nat} {v:Value} {xs:List α}
theorem Sl.nil_ (c:Nat) (A:Option Addr) (hc:c<=9223372036854775807):Sl f s w lo hi (.slice A 0 c) []:=⟨A,c,rfl,by simp,hc,λh=>absurd h<|by simp⟩
theorem Sl.keep (x:Sl f s w lo hi v xs) (hs:w.heap.size<=w'.heap.size) (hk:∀ k,k<w.heap.size->lo<=k->k<hi->w'.heap[k]? = w.heap[k]?):Sl f s w' lo hi v xs:=by
 obtain ⟨A,c,e,hc,hm,r⟩:=x;refine ⟨A,c,e,hc,hm,λhn=>?_⟩;obtain ⟨b,o,e2,hb1,hb2,hb3,hx⟩:=r hn;refine ⟨b,o,e2,hb1,hb2,by omega,λk hk' j u hu=>?_⟩;rw [World.cell?_of_block (hk b hb3 hb1 hb2)];exact hx k hk' j u hu
end
def PD (v:Value):List Value:=[v]
def Ih (n:Int):List Value:=[.int .u8 n]
section
variable {α:Type} {g:α->Value} {f:α->List Value} {s:Nat} {w:World} {lo hi:Nat} {v:Value}
theorem Sl.one_ {xs:List α} (hf:∀ x,f x=[g x]) (x:Sl f 1 w lo hi v xs):∃ A c,v = .slice A xs.length c/\xs.length<=c/\c<=9223372036854775807/\(0<xs.length->∃ b o,A=Rk ⟨b,o,Rl⟩/\lo<=b/\b<hi/\b<w.heap.size /\
  ∀ (k:Nat) (h:k<xs.length),w.cell? ⟨b,o+k,Rl⟩=Rk (g xs[k])):=by
 obtain ⟨A,c,e,hc,hm,r⟩:=x;refine ⟨A,c,e,hc,hm,λhn=>?_⟩;obtain ⟨b,o,e2,hb1,hb2,hb3,hx⟩:=r hn;refine ⟨b,o,e2,hb1,hb2,hb3,λk hk=>?_⟩;have := hx k hk 0 (g xs[k]) (by rw [hf];rfl);simpa using this
theorem Sl.vals {xs:List Value} (x:Sl PD 1 w lo hi v xs):∃ A c,v = .slice A xs.length c/\xs.length<=c/\c<=9223372036854775807/\(0<xs.length->∃ b o,A=Rk ⟨b,o,Rl⟩/\lo<=b/\b<hi/\b<w.heap.size /\
 ∀ (k:Nat) (h:k<xs.length),w.cell? ⟨b,o+k,Rl⟩=Rk xs[k]):=Sl.one_ (g:=λv=>v) (λ_=>rfl) x
end
structure Ins where
 op:Int
 loc:Int
 reg:Int
 val:Int
 deriving DecidableEq,Inhabited
def Ins.v (x:Ins):Value := .agg #[.int .i64 x.op,.int .i64 x.loc,.int .i64 x.reg,.int .i64 x.val]
def Ins.cells (x:Ins):List Value:=[.int .i64 x.op,.int .i64 x.loc,.int .i64 x.reg,.int .i64 x.val]
def Jm (w:World) (b o:Nat) (x:Ins):Prop:=
 w.cell? ⟨b,o,Rl⟩=Rk (.int .i64 x.op)/\w.cell? ⟨b,o+1,Rl⟩=Rk (.int .i64 x.loc)/\w.cell? ⟨b,o+2,Rl⟩=Rk (.int .i64 x.reg)/\w.cell? ⟨b,o+3,Rl⟩=Rk (.int .i64 x.val)
section
variable {w w':World} {b o p:Nat} {x y:Ins} {cs:Array Value} {t:TypeId} {g B lo hi:Nat} {v:Value} {xs:List Ins}
theorem Jm.below (h:Jm w b o x) (hb:Below B w w') (hlt:b<B):Jm w' b o x:=by
 unfold Jm at *;rw [hb.cell (by exact hlt),hb.cell (by exact hlt),hb.cell (by exact hlt),hb.cell (by exact hlt)];exact h
theorem Sl.inss (x:Sl Ins.cells 4 w lo hi v xs):∃ A c,v = .slice A xs.length c/\xs.length<=c/\c<=9223372036854775807/\(0<xs.length->∃ b o,A=Rk ⟨b,o,Rl⟩/\lo<=b/\b<hi/\b<w.heap.size /\
  ∀ (k:Nat) (h:k<xs.length),Jm w b (o+k*4) xs[k]):=by
 obtain ⟨A,c,e,hc,hm,r⟩:=x;refine ⟨A,c,e,hc,hm,λhn=>?_⟩;obtain ⟨b,o,e2,hb1,hb2,hb3,hx⟩:=r hn;exact ⟨b,o,e2,hb1,hb2,hb3,λk hk=>⟨hx k hk 0 _ rfl,hx k hk 1 _ rfl,hx k hk 2 _ rfl,hx k hk 3 _ rfl⟩⟩
end
section
variable {α:Type} (f:α->List Value) (s:Nat)
def Eu (w:World) (lo hi:Nat) (v:Value) (p:List<|List α):Prop:=
 ∃ vs:List Value,Sl PD 1 w lo hi v vs/\vs.length=p.length/\∀ (k:Nat) (h:k<vs.length) (h':k<p.length),Sl f s w lo hi vs[k] p[k]
end
section
variable {α:Type} {f:α->List Value} {s:Nat} {to ti:TypeId} {w w':World} {lo hi l h B:Nat} {v:Value} {p:List (List α)}
theorem Eu.keep (x:Eu f s w lo hi v p) (hs:w.heap.size<=w'.heap.size) (hk:∀ k,k<w.heap.size->lo<=k->k<hi->w'.heap[k]? = w.heap[k]?):Eu f s w' lo hi v p:=by
 obtain ⟨vs,h1,h2,h3⟩:=x;exact ⟨vs,h1.keep hs hk,h2,λk a b=>(h3 k a b).keep hs hk⟩
theorem Eu.below (x:Eu f s w lo hi v p) (b:Below B w w') (hB:hi<=B):Eu f s w' lo hi v p:=x.keep b.size λk _ _ h2=>b.block k (by omega)
end
theorem ug {α:Type} (xs:List α) (k:Nat) (h:k<xs.length):xs.take (k+1)=xs.take k++[xs[k]]:=by
 rw [List.take_succ_eq_append_getElem h]
theorem aS {a b:Bool} (h:a=b):Ending.returned (.bool a)=Ending.returned (.bool b):=by rw [h]
theorem BL {k:IntKind} {a b:Int} (h:a=b):Ending.returned (.int k a) = .returned (.int k b):=by rw [h]
open Go.ChangeShapes Go.WideShapes Go.ChangeAt Go.RowKit
set_option maxRecDepth 100000
set_option maxRecDepth 100000
def total {α:Type} (p:List<|List α):Nat:=(p.map List.length).sum
theorem BM {α:Type} (p:List<|List α) (k:Nat) (h:k<p.length):total (p.take<|k+1)=total (p.take k)+p[k].length:=by
 unfold total;rw [ug _ _ h,Ur,Us];simp
theorem DV {α:Type} (p:List<|List α) (k:Nat):total (p.take k)<=total p:=by
 unfold total
 conv=>rhs;rw [<- List.take_append_drop k p,Ur,Us]
 omega
section
variable {α:Type} {f:α->List Value} {s:Nat} {t:TypeId} {w w':World} {lo hi:Nat} {v:Value} {xs:List α} {row:Option Nat}
theorem Ow.block (x:Ow f s t w lo hi v xs) (hn:0<xs.length):∃ g cur,v.ownBlock=Rk g/\lo<=g/\g<hi/\Blk w g t cur:=by
 obtain ⟨A,c,rfl,hc,hm,r⟩:=x;obtain ⟨g,cur,rfl,hb1,hb2,hb3,hx⟩:=r hn;exact ⟨g,cur,rfl,hb1,hb2,hb3⟩
end
theorem zg (b o j:Nat):(⟨b,o,Rl⟩:Addr).add j=⟨b,o+j,Rl⟩:=by
 unfold Addr.add
 by_cases h:j=0 <;> simp [h]
theorem fq (x lo hi:Int) (b:Bool) (hb:(Rm (lo<=x)&&Rm (x<=hi))=b) (w:World) :
  Calls Rn 77 #[.int .i64 x,.int .i64 lo,.int .i64 hi] w λe w'=>e = .returned (.bool b)/\w=w':=by
 subst hb
 by_cases h1:lo<=x
 ·by_cases h2:x<=hi
  ·go_enter func77,Tryz.ntmps77
   go_wp2
   all_goals (go_ret;exact ⟨aS (by simp [h1,h2]),rfl⟩)
  go_enter func77,Tryz.ntmps77
  go_wp2
  all_goals (go_ret;exact ⟨aS (by simp;omega),rfl⟩)
 go_enter func77,Tryz.ntmps77
 go_wp2
 all_goals (go_ret;exact ⟨aS (by simp;omega),rfl⟩)
def jl (x:QV):Ins:=⟨x.Op,x.Loc,x.Reg,x.Val⟩
theorem EN {α β:Type} (e:α->β) (p:List<|List α):total (p.map λr=>r.map e)=total p:=by
 unfold total;rw [List.map_map]
 congr 1
 exact List.map_congr_left λr _=>llm _
theorem uh (x hi:Int) (b:Bool) (hb:(Rm (0<=x)&&Rm (x<=hi))=b) (w:World) :
  Calls Rn 53 #[.int .i64 x,.int .i64 hi] w λe w'=>e = .returned (.bool b)/\w=w':=by
 subst hb
 by_cases h1:0<=x
 ·by_cases h2:x<=hi
  ·go_enter func53,Tryz.ntmps53
   go_wp2
   all_goals (go_ret;exact ⟨aS (by simp [h1,h2]),rfl⟩)
  go_enter func53,Tryz.ntmps53
  go_wp2
  all_goals (go_ret;exact ⟨aS (by simp;omega),rfl⟩)
 go_enter func53,Tryz.ntmps53
 go_wp2
 all_goals (go_ret;exact ⟨aS (by simp;omega),rfl⟩)
def Q0 (x hi:Int):Bool:=Rm (0<=x)&&Rm (x<=hi)
def iK (x:Ins):Bool:=
 if x.op=1\/x.op=3 then Q0 x.loc 2&&Q0 x.reg 2&&x.val==0
 else if x.op=2 then Q0 x.loc 2&&x.reg==0&&Q0 x.val 3
 else if x.op=4 then x.loc==0&&x.reg==0&&x.val==0
 else if x.op=5 then Q0 x.loc 2&&Q0 x.reg 2&&Q0 x.val 3
 else Rj
theorem wQ (x:Ins) (w:World) :
  Calls Rn 188 #[x.v] w λe w'=>e = .returned (.bool<|iK x)/\Below w.heap.size w w':=by
 obtain ⟨op,a,b,c⟩:=x;have hop:(op=1\/op=3)\/op=2\/op=4\/op=5\/((op==1)=Rj/\(op==3)=Rj/\(op==2)=Rj/\(op==4)=Rj/\(op==5)=Rj):=by
  simp only [beq_eq_false_iff_ne,ne_eq];omega
 unfold Ins.v;rcases hop with hop | rfl | rfl | rfl | ⟨h1,h2,h3,h4,h5⟩
 ·have hr:iK ⟨op,a,b,c⟩=(Q0 a 2&&Q0 b 2&&c==0):=by unfold iK;rw [if_pos hop]
  generalize ha:Q0 a 2=pa at *;generalize hb:Q0 b 2=pb at *;have HR:=Lib.hid hr;clear hr;have HA:=Lib.hid ha;clear ha;have HB:=Lib.hid hb;clear hb;rcases hop with rfl | rfl
  all_goals
   go_enter func188,Tryz.ntmps188
   go_wp2_with (first
    | (go_at_call_of 53 (Value.int .i64 a);refine (uh a 2 _ HA.out _).mono ?_;rintro e w1 ⟨rfl,rfl⟩)
    | (go_at_call_of 53 (Value.int .i64 b);refine (uh b 2 _ HB.out _).mono ?_;rintro e w1 ⟨rfl,rfl⟩))
   all_goals (go_ret;exact ⟨aS (by rw [HR.out];simp_all),(Below.refl _ _).alloc (Uj _) _⟩)
 ·have hr:iK ⟨2,a,b,c⟩=(Q0 a 2&&b==0&&Q0 c 3):=rfl;generalize ha:Q0 a 2=pa at *;generalize hc:Q0 c 3=pc at *;have HR:=Lib.hid hr;clear hr;have HA:=Lib.hid ha;clear ha;have HC:=Lib.hid hc;clear hc
  go_enter func188,Tryz.ntmps188
  go_wp2_with (first
   | (go_at_call_of 53 (Value.int .i64 a);refine (uh a 2 _ HA.out _).mono ?_;rintro e w1 ⟨rfl,rfl⟩)
   | (go_at_call_of 53 (Value.int .i64 c);refine (uh c 3 _ HC.out _).mono ?_;rintro e w1 ⟨rfl,rfl⟩))
  all_goals (go_ret;exact ⟨aS (by rw [HR.out];simp_all),(Below.refl _ _).alloc (Uj _) _⟩)
 ·have hr:iK ⟨4,a,b,c⟩=(a==0&&b==0&&c==0):=rfl;have HR:=Lib.hid hr;clear hr
  go_enter func188,Tryz.ntmps188
  go_wp2_with fail
  all_goals (go_ret;exact ⟨aS (by rw [HR.out];simp_all),(Below.refl _ _).alloc (Uj _) _⟩)
 ·have hr:iK ⟨5,a,b,c⟩=(Q0 a 2&&Q0 b 2&&Q0 c 3):=rfl;generalize ha:Q0 a 2=pa at *;generalize hb:Q0 b 2=pb at *;generalize hc:Q0 c 3=pc at *;have HR:=Lib.hid hr;clear hr;have HA:=Lib.hid ha;clear ha;have HB:=Lib.hid hb;clear hb;have HC:=Lib.hid hc;clear hc
  go_enter func188,Tryz.ntmps188
  go_wp2_with (first
   | (go_at_call_of 53 (Value.int .i64 a);refine (uh a 2 _ HA.out _).mono ?_;rintro e w1 ⟨rfl,rfl⟩)
   | (go_at_call_of 53 (Value.int .i64 b);refine (uh b 2 _ HB.out _).mono ?_;rintro e w1 ⟨rfl,rfl⟩)
   | (go_at_call_of 53 (Value.int .i64 c);refine (uh c 3 _ HC.out _).mono ?_;rintro e w1 ⟨rfl,rfl⟩))
  all_goals (go_ret;exact ⟨aS (by rw [HR.out];simp_all),(Below.refl _ _).alloc (Uj _) _⟩)
 have hr:iK ⟨op,a,b,c⟩=Rj:=by
  simp only [beq_eq_false_iff_ne,ne_eq] at h1 h2 h3 h4 h5;simp [iK,h1,h2,h3,h4,h5]
 have HR:=Lib.hid hr;clear hr
 go_enter func188,Tryz.ntmps188
 go_wp2_with fail
 all_goals (go_ret;exact ⟨aS (by rw [HR.out]),(Below.refl _ _).alloc (Uj _) _⟩)
theorem wR (x:Ins) (w:World) :
  Calls Rn 78 #[x.v] w λe w'=>e = .returned (.bool<|iK x)/\Below w.heap.size w w':=by
 obtain ⟨op,a,b,c⟩:=x;have hop:(op=1\/op=3)\/op=2\/op=4\/op=5\/((op==1)=Rj/\(op==3)=Rj/\(op==2)=Rj/\(op==4)=Rj/\(op==5)=Rj):=by
  simp only [beq_eq_false_iff_ne,ne_eq];omega
 unfold Ins.v;rcases hop with hop | rfl | rfl | rfl | ⟨h1,h2,h3,h4,h5⟩
 ·have hr:iK ⟨op,a,b,c⟩=(Q0 a 2&&Q0 b 2&&c==0):=by unfold iK;rw [if_pos hop]
  generalize ha:Q0 a 2=pa at *;generalize hb:Q0 b 2=pb at *;have HR:=Lib.hid hr;clear hr;have HA:=Lib.hid ha;clear ha;have HB:=Lib.hid hb;clear hb;rcases hop with rfl | rfl
  all_goals
   go_enter func78,Tryz.ntmps78
   go_wp2_with fail
   go_region
   go_wp2_with (first
    | (go_at_call_of 77 (Value.int .i64 a);refine (fq a 0 2 _ HA.out _).mono ?_;rintro e w1 ⟨rfl,rfl⟩)
    | (go_at_call_of 77 (Value.int .i64 b);refine (fq b 0 2 _ HB.out _).mono ?_;rintro e w1 ⟨rfl,rfl⟩)
    | (go_at_call 77;refine (fq _ _ _ Ri (by decide) _).mono ?_;rintro e w1 ⟨rfl,rfl⟩))
   all_goals (first | (go_ret;exact ⟨aS (by rw [HR.out];simp_all),(((Below.refl _ _).alloc (Uj _) _).alloc (by simp) _).drew⟩) | (go_ret;exact ⟨aS (by rw [HR.out];simp_all),(((Below.refl _ _).alloc (Uj _) _).alloc (by simp) _)⟩))
 ·have hr:iK ⟨2,a,b,c⟩=(Q0 a 2&&b==0&&Q0 c 3):=rfl;generalize ha:Q0 a 2=pa at *;generalize hc:Q0 c 3=pc at *;have HR:=Lib.hid hr;clear hr;have HA:=Lib.hid ha;clear ha;have HC:=Lib.hid hc;clear hc
  go_enter func78,Tryz.ntmps78
  go_wp2_with fail
  go_region
  go_wp2_with (first
   | (go_at_call_of 77 (Value.int .i64 a);refine (fq a 0 2 _ HA.out _).mono ?_;rintro e w1 ⟨rfl,rfl⟩)
   | (go_at_call_of 77 (Value.int .i64 c);refine (fq c 0 3 _ HC.out _).mono ?_;rintro e w1 ⟨rfl,rfl⟩)
   | (go_at_call 77;refine (fq _ _ _ Ri (by decide) _).mono ?_;rintro e w1 ⟨rfl,rfl⟩))
  all_goals (first | (go_ret;exact ⟨aS (by rw [HR.out];simp_all),(((Below.refl _ _).alloc (Uj _) _).alloc (by simp) _).drew⟩) | (go_ret;exact ⟨aS (by rw [HR.out];simp_all),(((Below.refl _ _).alloc (Uj _) _).alloc (by simp) _)⟩))
 ·have hr:iK ⟨4,a,b,c⟩=(a==0&&b==0&&c==0):=rfl;have HR:=Lib.hid hr;clear hr
  go_enter func78,Tryz.ntmps78
  go_wp2_with (first
   | (go_at_call 77;refine (fq _ _ _ Ri (by decide) _).mono ?_;rintro e w1 ⟨rfl,rfl⟩))
  all_goals (first | (go_ret;exact ⟨aS (by rw [HR.out];simp_all),(((Below.refl _ _).alloc (Uj _) _).alloc (by simp) _).drew⟩) | (go_ret;exact ⟨aS (by rw [HR.out];simp_all),(((Below.refl _ _).alloc (Uj _) _).alloc (by simp) _)⟩))
 ·have hr:iK ⟨5,a,b,c⟩=(Q0 a 2&&Q0 b 2&&Q0 c 3):=rfl;generalize ha:Q0 a 2=pa at *;generalize hb:Q0 b 2=pb at *;generalize hc:Q0 c 3=pc at *;have HR:=Lib.hid hr;clear hr;have HA:=Lib.hid ha;clear ha;have HB:=Lib.hid hb;clear hb;have HC:=Lib.hid hc;clear hc
  go_enter func78,Tryz.ntmps78
  go_wp2_with (first
   | (go_at_call_of 77 (Value.int .i64 a);refine (fq a 0 2 _ HA.out _).mono ?_;rintro e w1 ⟨rfl,rfl⟩)
   | (go_at_call_of 77 (Value.int .i64 b);refine (fq b 0 2 _ HB.out _).mono ?_;rintro e w1 ⟨rfl,rfl⟩)
   | (go_at_call_of 77 (Value.int .i64 c);refine (fq c 0 3 _ HC.out _).mono ?_;rintro e w1 ⟨rfl,rfl⟩))
  all_goals (first | (go_ret;exact ⟨aS (by rw [HR.out];simp_all),(((Below.refl _ _).alloc (Uj _) _).alloc (by simp) _).drew⟩) | (go_ret;exact ⟨aS (by rw [HR.out];simp_all),(((Below.refl _ _).alloc (Uj _) _).alloc (by simp) _)⟩))
 have hr:iK ⟨op,a,b,c⟩=Rj:=by
  simp only [beq_eq_false_iff_ne,ne_eq] at h1 h2 h3 h4 h5;simp [iK,h1,h2,h3,h4,h5]
 have HR:=Lib.hid hr;clear hr
 go_enter func78,Tryz.ntmps78
 go_wp2_with fail
 all_goals (go_ret;exact ⟨aS (by rw [HR.out]),(((Below.refl _ _).alloc (Uj _) _).alloc (by simp) _)⟩)
def rdO (o:Int):Bool:=o==1||o==5
def wrO (o:Int):Bool:=o==2||o==3||o==5
def rdB (x:Ins):Bool:=rdO x.op
def wrB (x:Ins):Bool:=wrO x.op
theorem Jn (op a b c:Int) (w:World):Calls Rn 80 #[.agg #[.int .i64 op,.int .i64 a,.int .i64 b,.int .i64 c]] w λe w'=>e = .returned (.bool<|rdO op)/\Below w.heap.size w w':=by
 unfold rdO
 go_enter func80,Tryz.ntmps80
 go_wp2_with fail
 all_goals (go_ret;exact ⟨aS (by simp_all),(Below.refl _ _).alloc (Uj _) _⟩)
theorem F5 (op a b c:Int) (w:World):Calls Rn 130 #[.agg #[.int .i64 op,.int .i64 a,.int .i64 b,.int .i64 c]] w λe w'=>e = .returned (.bool<|rdO op)/\Below w.heap.size w w':=by
 unfold rdO
 go_enter func130,Tryz.ntmps130
 go_wp2_with fail
 all_goals (go_ret;exact ⟨aS (by simp_all),(Below.refl _ _).alloc (Uj _) _⟩)
theorem Ii (op a b c:Int) (w:World):Calls Rn 81 #[.agg #[.int .i64 op,.int .i64 a,.int .i64 b,.int .i64 c]] w λe w'=>e = .returned (.bool<|wrO op)/\Below w.heap.size w w':=by
 unfold wrO
 go_enter func81,Tryz.ntmps81
 go_wp2_with fail
 all_goals (go_ret;exact ⟨aS (by simp_all),(Below.refl _ _).alloc (Uj _) _⟩)
theorem EO (op a b c:Int) (w:World):Calls Rn 131 #[.agg #[.int .i64 op,.int .i64 a,.int .i64 b,.int .i64 c]] w λe w'=>e = .returned (.bool<|wrO op)/\Below w.heap.size w w':=by
 unfold wrO
 go_enter func131,Tryz.ntmps131
 go_wp2_with fail
 all_goals (go_ret;exact ⟨aS (by simp_all),(Below.refl _ _).alloc (Uj _) _⟩)
def ui (f:Ins->Bool) (p:List<|List Ins):Nat:=(p.map<|List.countP f).sum
theorem fI (f:Ins->Bool) (p:List<|List Ins) (k:Nat) (h:k<p.length):ui f (p.take<|k+1)=ui f (p.take k)+p[k].countP f:=by
 unfold ui;rw [ug _ _ h,Ur,Us];simp
theorem fu (f:Ins->Bool) (l:List Ins) (k:Nat) (h:k<l.length):(l.take<|k+1).countP f=(l.take k).countP f+if f l[k] then 1 else 0:=by
 rw [ug _ _ h,List.countP_append];simp [List.countP_cons]
theorem BN (f:Ins->Bool) (p:List<|List Ins):ui f p<=total p:=by
 unfold ui total
 induction p with
 | nil=>simp
 | cons r p ih=>
  simp only [List.map_cons,List.sum_cons];have := Uv (p:=f) (l:=r);omega
theorem lT (f:Ins->Bool) (p:List<|List Ins) (k j:Nat) (h:k<p.length):ui f (p.take k)+(p[k].take j).countP f<=total p:=by
 have h1:=BN f<|p.take k;have h2:=Uv (p:=f) (l:=p[k].take j);have h3:=List.length_take_le' j p[k];have h4:=BM p k h;have h5:=DV p<|k+1;omega
def bI (loc:Int) (f:Ins->Bool) (x:Ins):Bool:=x.loc==loc&&f x
theorem Jo {lo hi:Nat} {u:Value} {p:List (List Ins)} {w:World} {loc:Int} (hu:Eu Ins.cells 4 w lo hi u p) (ht:total p<=1048576) :
  Calls Rn 189 #[u,.int .i64 loc,.bool Ri] w λe w'=>e = .returned (.int .i64<|ui (bI loc wrB) p)/\Below w.heap.size w w':=by
 obtain ⟨xs,hxs,hxl,hxr⟩:=hu;obtain ⟨A,ca,rfl,hca,hma,hA⟩:=hxs.vals;clear hxs;have HX:=Lib.hid hxl;clear hxl;have HXR:=Lib.hid hxr;clear hxr;have HAA:=Lib.hid hA;clear hA
 go_enter func189,Tryz.ntmps189
 go_wp2_with fail
 go_loopw [7,8] (λn i wr=>∃ k:Nat,k<=xs.length/\i = .int .i64 k/\n = .int .i64 (ui (bI loc wrB)<|p.take k)/\Below w.heap.size w wr) (λ_ i _=>xs.length-(intOf i).toNat)
 case atStart=>exact ⟨0,Uk _,rfl,rfl,Below.refl _ _⟩
 case round=>
  obtain ⟨k,hk,rfl,rfl,hb⟩:=hrel
  by_cases hlt:k<xs.length
  ·obtain ⟨ba,oa,rfl,_,_,hba,hA⟩:=HAA.out (by omega);have hp:k<p.length:=HX.out ▸ hlt;obtain ⟨Ak,ck,hk1,hk2,hk3,hrow⟩:=(HXR.out k hlt hp).inss;have HROW:=Lib.hid hrow;clear hrow;have ca0:=hA k hlt;rw [hk1] at ca0;have CA:=Lib.hid ca0;clear hA hk1 ca0;have i1:(0:Int)<=(k:Int):=by omega
   have i2:(k:Int)<(xs.length:Int):=by omega
   have HT:=Lib.hid<|fI (bI loc wrB) p k hp;have HPL:=Lib.hid λj=>lT (bI loc wrB) p k j hp;obtain ⟨wo,rfl⟩:∃ wo:World,wo=wr:=⟨_,rfl⟩
   go_wp2_with fail
   go_loopw [7,9] (λn i w2=>∃ j:Nat,j<=p[k].length/\i = .int .i64 j/\n = .int .i64 (ui (bI loc wrB) (p.take k)+(p[k].take j).countP (bI loc wrB):Nat)/\Below w.heap.size w w2) (λ_ i _=>p[k].length-(intOf i).toNat)
   case atStart=>exact ⟨0,Uk _,rfl,by simp,hb⟩
   case round=>
    obtain ⟨j,hj,rfl,rfl,hb2⟩:=hrel;have c0:=(hb2.cell (p:=⟨ba,oa+k,Rl⟩) hba).trans CA.out;have hsm:ui (bI loc wrB) (p.take k)+(p[k].take j).countP (bI loc wrB)<=1048576:=Un (HPL.out j) ht
    by_cases hlj:j<p[k].length
    ·obtain ⟨bb,ob,rfl,_,_,hbb,hB⟩:=HROW.out (by omega);obtain ⟨d1,d2,d3,d4⟩:=(hB j hlj).below hb2 hbb;have HS:=Lib.hid<|fu (bI loc wrB) p[k] j hlj;have j1:(0:Int)<=(j:Int):=by omega
     have j2:(j:Int)<(p[k].length:Int):=by omega
     clear hB
     go_wp2_with (go_at_call 131;refine (EO _ _ _ _ _).mono ?_;rintro e w3 ⟨rfl,hq⟩)
     ·have ef:bI loc wrB p[k][j]=Ri:=by simp [bI,wrB, *]
      go_roundw
      case rel=>
       have h:=HS.out;rw [if_pos ef] at h;exact ⟨j+1,by omega,by go_num,congrArg (Value.int .i64) (by omega),(hb2.alloc hb2.size _).trans<|hq.mono (by simp;have := hb2.size;omega)⟩
      case measure=>simp [intOf];omega
     ·have ef : ¬ bI loc wrB p[k][j]=Ri:=by simp [bI,wrB, *]
      go_roundw
      case rel=>
       have h:=HS.out;rw [if_neg ef] at h;exact ⟨j+1,by omega,by go_num,congrArg (Value.int .i64) (by omega),(hb2.alloc hb2.size _).trans<|hq.mono (by simp;have := hb2.size;omega)⟩
      case measure=>simp [intOf];omega
     have ef : ¬ bI loc wrB p[k][j]=Ri:=by simp [bI, *]
     go_roundw
     case rel=>
      have h:=HS.out;rw [if_neg ef] at h;exact ⟨j+1,by omega,by go_num,congrArg (Value.int .i64) (by omega),hb2.alloc hb2.size _⟩
     case measure=>simp [intOf];omega
    have hjx:p[k].take j=p[k]:=Ul (by omega);have HJ:=Lib.hid hjx;clear hjx
    go_wp2_with fail
    go_roundw
    case rel=>exact ⟨k+1,by omega,by go_num,congrArg (Value.int .i64) (by rw [HJ.out,HT.out]),hb2⟩
    case measure=>simp [intOf];omega
  have hkx:p.take k=p:=Ul (by rw [<- HX.out];omega);have HK:=Lib.hid hkx;clear hkx
  go_wp2_with fail
  go_ret
  exact ⟨BL (by rw [HK.out]),hb⟩
theorem Jp {lo hi:Nat} {u:Value} {p:List (List Ins)} {w:World} {loc:Int} (hu:Eu Ins.cells 4 w lo hi u p) (ht:total p<=1048576) :
  Calls Rn 189 #[u,.int .i64 loc,.bool Rj] w λe w'=>e = .returned (.int .i64<|ui (bI loc rdB) p)/\Below w.heap.size w w':=by
 obtain ⟨xs,hxs,hxl,hxr⟩:=hu;obtain ⟨A,ca,rfl,hca,hma,hA⟩:=hxs.vals;clear hxs;have HX:=Lib.hid hxl;clear hxl;have HXR:=Lib.hid hxr;clear hxr;have HAA:=Lib.hid hA;clear hA
 go_enter func189,Tryz.ntmps189
 go_wp2_with fail
 go_loopw [7,8] (λn i wr=>∃ k:Nat,k<=xs.length/\i = .int .i64 k/\n = .int .i64 (ui (bI loc rdB)<|p.take k)/\Below w.heap.size w wr) (λ_ i _=>xs.length-(intOf i).toNat)
 case atStart=>exact ⟨0,Uk _,rfl,rfl,Below.refl _ _⟩
 case round=>
  obtain ⟨k,hk,rfl,rfl,hb⟩:=hrel
  by_cases hlt:k<xs.length
  ·obtain ⟨ba,oa,rfl,_,_,hba,hA⟩:=HAA.out (by omega);have hp:k<p.length:=HX.out ▸ hlt;obtain ⟨Ak,ck,hk1,hk2,hk3,hrow⟩:=(HXR.out k hlt hp).inss;have HROW:=Lib.hid hrow;clear hrow;have ca0:=hA k hlt;rw [hk1] at ca0;have CA:=Lib.hid ca0;clear hA hk1 ca0;have i1:(0:Int)<=(k:Int):=by omega
   have i2:(k:Int)<(xs.length:Int):=by omega
   have HT:=Lib.hid<|fI (bI loc rdB) p k hp;have HPL:=Lib.hid λj=>lT (bI loc rdB) p k j hp;obtain ⟨wo,rfl⟩:∃ wo:World,wo=wr:=⟨_,rfl⟩
   go_wp2_with fail
   go_loopw [7,9] (λn i w2=>∃ j:Nat,j<=p[k].length/\i = .int .i64 j/\n = .int .i64 (ui (bI loc rdB) (p.take k)+(p[k].take j).countP (bI loc rdB):Nat)/\Below w.heap.size w w2) (λ_ i _=>p[k].length-(intOf i).toNat)
   case atStart=>exact ⟨0,Uk _,rfl,by simp,hb⟩
   case round=>
    obtain ⟨j,hj,rfl,rfl,hb2⟩:=hrel;have c0:=(hb2.cell (p:=⟨ba,oa+k,Rl⟩) hba).trans CA.out;have hsm:ui (bI loc rdB) (p.take k)+(p[k].take j).countP (bI loc rdB)<=1048576:=Un (HPL.out j) ht
    by_cases hlj:j<p[k].length
    ·obtain ⟨bb,ob,rfl,_,_,hbb,hB⟩:=HROW.out (by omega);obtain ⟨d1,d2,d3,d4⟩:=(hB j hlj).below hb2 hbb;have HS:=Lib.hid<|fu (bI loc rdB) p[k] j hlj;have j1:(0:Int)<=(j:Int):=by omega
     have j2:(j:Int)<(p[k].length:Int):=by omega
     clear hB
     go_wp2_with (go_at_call 130;refine (F5 _ _ _ _ _).mono ?_;rintro e w3 ⟨rfl,hq⟩)
     ·have ef:bI loc rdB p[k][j]=Ri:=by simp [bI,rdB, *]
      go_roundw
      case rel=>
       have h:=HS.out;rw [if_pos ef] at h;exact ⟨j+1,by omega,by go_num,congrArg (Value.int .i64) (by omega),(hb2.alloc hb2.size _).trans<|hq.mono (by simp;have := hb2.size;omega)⟩
      case measure=>simp [intOf];omega
     ·have ef : ¬ bI loc rdB p[k][j]=Ri:=by simp [bI,rdB, *]
      go_roundw
      case rel=>
       have h:=HS.out;rw [if_neg ef] at h;exact ⟨j+1,by omega,by go_num,congrArg (Value.int .i64) (by omega),(hb2.alloc hb2.size _).trans<|hq.mono (by simp;have := hb2.size;omega)⟩
      case measure=>simp [intOf];omega
     have ef : ¬ bI loc rdB p[k][j]=Ri:=by simp [bI, *]
     go_roundw
     case rel=>
      have h:=HS.out;rw [if_neg ef] at h;exact ⟨j+1,by omega,by go_num,congrArg (Value.int .i64) (by omega),hb2.alloc hb2.size _⟩
     case measure=>simp [intOf];omega
    have hjx:p[k].take j=p[k]:=Ul (by omega);have HJ:=Lib.hid hjx;clear hjx
    go_wp2_with fail
    go_roundw
    case rel=>exact ⟨k+1,by omega,by go_num,congrArg (Value.int .i64) (by rw [HJ.out,HT.out]),hb2⟩
    case measure=>simp [intOf];omega
  have hkx:p.take k=p:=Ul (by rw [<- HX.out];omega);have HK:=Lib.hid hkx;clear hkx
  go_wp2_with fail
  go_ret
  exact ⟨BL (by rw [HK.out]),hb⟩
def oM (n:Nat):Nat:=min n 3001
def Q3:Nat->Nat
 | 0=>1
 | n+1=>Q3 n*(n+1)
theorem DW (n:Nat):1<=Q3 n:=by
 induction n with
 | zero=>exact Uj _
 | succ n ih=>exact Uo ih (by omega)
def cw (p:List<|List Ins) (l:Int):Nat:=ui (bI l wrB) p
def cr (p:List<|List Ins) (l:Int):Nat:=ui (bI l rdB) p
def OM (p:List<|List Ins) (l:Nat):Nat:=(cw p l+1) ^ (cr p l)*Q3 (cw p l)
def pT (p:List<|List Ins):Nat->Nat
 | 0=>1
 | l+1=>pT p l*OM p l
def vp (p:List<|List Ins):Nat:=pT p 3
theorem DX {a b:Nat} (n:Nat) (h:oM a=oM b) (hn:1<=n):oM (a*n)=oM (b*n):=by
 unfold oM at *
 by_cases ha:a<3001
 ·have : a=b:=by omega
  rw [this]
 have h1:a<=a*n:=Ut a hn;have h2:b<=b*n:=Ut b hn;omega
theorem G7 {a b n:Nat} (h:oM a=oM b) (ha:3000<a) (hn:1<=n):oM a=oM (b*n):=by
 unfold oM at *;have h2:b<=b*n:=Ut b hn;omega
theorem Jq {a i r:Nat} (h:i<=r):a ^ r=a ^ i*a ^ (r-i):=by rw [<- Nat.pow_add];congr 1;omega
theorem EP (i:Nat):∀ d,∃ q,1<=q/\Q3 (i+d)=Q3 i*q
 | 0=>⟨1,Uj _,by simp⟩
 | d+1=>by
  obtain ⟨q,hq,h⟩:=EP i d;exact ⟨q*(i+d+1),Uo hq (by omega),by rw [<- Nat.add_assoc,Q3,h,Um]⟩
theorem Jr {n a:Int} (h:n<=3000) (_:0<=n) (ha:a<=1048577) (ha0:0<=a):n*a<=3145731000:=by
 have : n*a<=3000*1048577:=Int.mul_le_mul h ha ha0 (by omega);omega
theorem Js {n a:Nat} (h:n<=3000) (ha:a<=1048577):n*a<=4000000000:=by
 have : n*a<=3000*1048577:=Nat.mul_le_mul h ha;omega
set_option maxHeartbeats 1000000 in
theorem F6 {lo hi:Nat} {u:Value} {p:List (List Ins)} {w:World} (hu:Eu Ins.cells 4 w lo hi u p) (hhi:hi<=w.heap.size) (ht:total p<=1048576) :
  Calls Rn 116 #[u,.int .i64 3000] w λe w'=>e = .returned (.int .i64<|oM<|vp p)/\Below w.heap.size w w':=by
 have HU:=Lib.hid hu;clear hu
 go_enter func116,Tryz.ntmps116
 go_wp2_with fail
 go_loopw [5,6] (λsn sl wr=>∃ (l n:Nat),l<=3/\sl = .int .i64 l/\sn = .int .i64 n/\n<=4000000000/\1<=n/\oM n=oM (pT p l)/\Below w.heap.size w wr) (λ_ sl _=>3-(intOf sl).toNat)
 case atStart=>exact ⟨0,1,by omega,rfl,rfl,by omega,by omega,rfl,Below.refl _ _⟩
 case round=>
  obtain ⟨l,n,hl,rfl,rfl,hn,hn1,hcap,hb⟩:=hrel;have HC:=Lib.hid hcap;clear hcap
  by_cases hl3:l<3
  ·have hle:(l:Int)<=2:=by omega
   have HW:=Lib.hid (show pT p (l+1)=pT p l*((cw p l+1) ^ (cr p l)*Q3 (cw p l)) from rfl);have hcw:=BN (bI (l:Int) wrB) p;have hcr:=BN (bI (l:Int) rdB) p;have CW:=Lib.hid λW hs=>Jo (loc:=(l:Int)) (w:=W) (hs:Eu Ins.cells 4 W lo hi u p) ht;have CR:=Lib.hid λW hs=>Jp (loc:=(l:Int)) (w:=W) (hs:Eu Ins.cells 4 W lo hi u p) ht;change cw p l<=total p at hcw;change cr p l<=total p at hcr;have CW2:Hid (∀ W,Eu Ins.cells 4 W lo hi u p->Calls Rn 189 #[u,.int .i64 (l:Int),.bool Ri] W λe w'=>e = .returned (.int .i64<|cw p l)/\Below W.heap.size W w'):=CW.out;have CR2:Hid (∀ W,Eu Ins.cells 4 W lo hi u p->Calls Rn 189 #[u,.int .i64 (l:Int),.bool Rj] W λe w'=>e = .returned (.int .i64<|cr p l)/\Below W.heap.size W w'):=CR.out;clear CW CR;generalize cw p l=a at *;generalize cr p l=r at *;obtain ⟨wo,rfl⟩:∃ wo:World,wo=wr:=⟨_,rfl⟩
   go_wp2_with fail
   refine (CW2.out _<|HU.out.below hb hhi).mono ?_;rintro e w1 ⟨rfl,hq1⟩;have hb1:Below w.heap.size w w1:=hb.trans<|hq1.mono hb.size;have ha1:(a:Int)<=1048576:=by omega
   go_wp2_with fail
   go_loopw [5,8] (λsn si w2=>∃ (i n:Nat),i<=r/\si = .int .i64 i/\sn = .int .i64 n/\n<=4000000000/\1<=n/\oM n=oM (pT p l*(a+1) ^ i)/\Below w.heap.size w w2) (λ_ si _=>r-(intOf si).toNat)
   case atStart=>exact ⟨0,n,Uk _,rfl,rfl,hn,hn1,by rw [HC.out];simp,hb1⟩
   case round=>
    obtain ⟨i,n,hi,rfl,rfl,hn,hn1,hcap,hb2⟩:=hrel;have HC1:=Lib.hid hcap;clear hcap
    by_cases hgo:i<r/\n<=3000
    ·obtain ⟨h1,h2⟩:=hgo;have h1':(i:Int)<(r:Int):=by omega
     have h2':(n:Int)<=3000:=by omega
     have hmul:n*(a+1)<=4000000000:=Js h2 (by omega);have hmul1:1<=n*(a+1):=Uo hn1 (by omega);have hmulI:(n:Int)*((a:Int)+1)<=3145731000:=Jr h2' (by omega) (by omega) (by omega);have hmulI0:0<=(n:Int)*((a:Int)+1):=Uu (by omega) (by omega);have HM:=Lib.hid hmul;clear hmul;have HM1:=Lib.hid hmul1;clear hmul1
     go_wp2_with (go_at_call 189;refine (CR2.out _<|HU.out.below hb2 hhi).mono ?_;rintro e w3 ⟨rfl,hq3⟩)
     go_roundw
     case rel=>
      refine ⟨i+1,n*(a+1),by omega,by go_num,by push_cast;rfl,HM.out,HM1.out,?_,hb2.trans<|hq3.mono hb2.size⟩;rw [Nat.pow_succ,<- Um];exact DX _ HC1.out (by omega)
     case measure=>simp [intOf];omega
    have hc2:oM n=oM (pT p l*(a+1) ^ r):=by
     by_cases h:i<r
     ·rw [Jq hi,<- Um];exact G7 HC1.out (by omega)<|Nat.pow_pos (by omega)
     have : i=r:=by omega
     rw [<- this];exact HC1.out
    have HC2:=Lib.hid hc2;clear hc2;have hor:((i:Int)<(r:Int) /\ ¬ (n:Int)<=3000) \/ ¬ (i:Int)<(r:Int):=by omega
    clear hgo;rcases hor with ⟨h1,h2⟩ | h1
    all_goals
     obtain ⟨wi,rfl⟩:∃ wi:World,wi=wr:=⟨_,rfl⟩
     go_wp2_with (go_at_call 189;refine (CR2.out _<|HU.out.below hb2 hhi).mono ?_;rintro e w3 ⟨rfl,hq3⟩)
     have hb3:Below w.heap.size w w3:=hb2.trans<|hq3.mono hb2.size
     go_loopw [5,9] (λsn si w4=>∃ (i n:Nat),2<=i/\i<=max 2 (a+1)/\si = .int .i64 i/\sn = .int .i64 n/\n<=4000000000/\1<=n/\oM n=oM (pT p l*(a+1) ^ r*Q3 (i-1))/\Below w.heap.size w w4) (λ_ si _=>a+3-(intOf si).toNat)
     case atStart=>exact ⟨2,n,Uj _,by omega,rfl,rfl,hn,hn1,by rw [HC2.out];simp [Q3],hb3⟩
     case round=>
      obtain ⟨i,n,hi2,hi,rfl,rfl,hn,hn1,hcap,hb4⟩:=hrel;have HC3:=Lib.hid hcap;clear hcap
      by_cases hgo:i<=a/\n<=3000
      ·obtain ⟨h1,h2⟩:=hgo;have h1':(i:Int)<=(a:Int):=by omega
       have h2':(n:Int)<=3000:=by omega
       have hmul:n*i<=4000000000:=Js h2 (by omega);have hmul1:1<=n*i:=Uo hn1 (by omega);have hmulI:(n:Int)*(i:Int)<=3145731000:=Jr h2' (by omega) (by omega) (by omega);have hmulI0:0<=(n:Int)*(i:Int):=Uu (by omega) (by omega);have HM:=Lib.hid hmul;clear hmul;have HM1:=Lib.hid hmul1;clear hmul1
       go_wp2_with fail
       go_roundw
       case rel=>
        refine ⟨i+1,n*i,by omega,by omega,by go_num,by push_cast;rfl,HM.out,HM1.out,?_,hb4⟩;have : Q3 (i+1-1)=Q3 (i-1)*i:=by
         obtain ⟨q,rfl⟩:∃ q,i=q+1:=⟨i-1,by omega⟩
         rfl
        rw [this,<- Um];exact DX _ HC3.out (by omega)
       case measure=>simp [intOf];omega
      have hc4:oM n=oM (pT p<|l+1):=by
       rw [HW.out,<- Um]
       by_cases h:i<=a
       ·obtain ⟨q,hq,hf⟩:=EP (i-1)<|a-(i-1);rw [show i-1+(a-(i-1))=a from by omega] at hf;rw [hf,<- Um];exact G7 HC3.out (by omega) hq
       have : Q3 (i-1)=Q3 a:=by
        by_cases ha0:a=0
        ·have : i=2:=by omega
         subst this ha0
         rfl
        congr 1;omega
       rw [<- this];exact HC3.out
      have HC4:=Lib.hid hc4;clear hc4;have hor:((i:Int)<=(a:Int) /\ ¬ (n:Int)<=3000) \/ ¬ (i:Int)<=(a:Int):=by omega
      clear hgo;rcases hor with ⟨h1,h2⟩ | h1
      all_goals
       go_wp2_with fail
       go_roundw
       case rel=>exact ⟨l+1,n,by omega,by go_num,rfl,hn,hn1,HC4.out,hb4⟩
       case measure=>simp [intOf];omega
  have hl4:l=3:=by omega
  subst hl4
  by_cases hbig:n<=3000
  ·have hfin:n=oM (vp p):=by
    have := HC.out;unfold vp oM at *;omega
   have HF:=Lib.hid hfin;clear hfin;have hb' : ¬ (3000:Int)<(n:Int):=by omega
   go_wp2_with fail
   go_ret
   exact ⟨BL (by rw [<- HF.out]),hb⟩
  have hfin:3001=oM (vp p):=by
   have := HC.out;unfold vp oM at *;omega
  have HF:=Lib.hid hfin;clear hfin;have hb':(3000:Int)<(n:Int):=by omega
  go_wp2_with fail
  go_ret
  exact ⟨BL (by rw [<- HF.out];rfl),hb⟩
theorem Dg (g a n:Nat) (t:TypeId) (w:World) (hB:Blk w g t #[.int .i64 a]) (ha:a<=3001) (hn:n<=1048577) :
  Calls Rn 134 #[.int .i64 n,.pointer (Rk ⟨g,0,Rl⟩)] w λe w'=>e = .returned (.tuple #[])/\w.setCell ⟨g,0,Rl⟩ (.int .i64 (oM (a*n):Nat))=w':=by
 have h1:(a:Int)*(n:Int)<=4000000000:=by
  have : (a:Int)*n<=3001*1048577:=Int.mul_le_mul (by omega) (by omega) (by omega) (by omega);omega
 have h0:0<=(a:Int)*(n:Int):=Uu (by omega) (by omega);have c:=hB.cell 0;have f:=hB.frozen 0;have hc:w.cell? ⟨g,0,Rl⟩=Rk (.int .i64 a):=c;clear c hB
 go_enter func134,Tryz.ntmps134
 go_wp2_with fail
 ·have hv:((oM (a*n):Nat):Int)=3001:=by
   have : ((a*n:Nat):Int)=(a:Int)*(n:Int):=by push_cast;rfl
   unfold oM;omega
  go_end0
  exact ⟨rfl,by rw [hv]⟩
 have hv:((oM (a*n):Nat):Int)=(a:Int)*(n:Int):=by
  have : ((a*n:Nat):Int)=(a:Int)*(n:Int):=by push_cast;rfl
  unfold oM;omega
 go_end0
 exact ⟨rfl,by rw [hv]⟩
theorem Jt (n:Nat):oM n<=3001:=Nat.min_le_right _ _
theorem EQ (a n:Nat) (hn:1<=n):oM (oM a*n)=oM (a*n):=DX n (by unfold oM;omega) hn
set_option maxHeartbeats 2000000 in
theorem Ju {lo hi:Nat} {u:Value} {p:List (List Ins)} {w:World} (hu:Eu Ins.cells 4 w lo hi u p) (ht:total p<=1048576) :
    Calls Rn 79 #[u] w λe w'=>e = .returned (.int .i64<|oM<|vp p)/\Below w.heap.size w w':=by
  obtain ⟨xs,hxs,hxl,hxr⟩:=hu;obtain ⟨A,ca,rfl,hca,hma,hA⟩:=hxs.vals;clear hxs;have HX:=Lib.hid hxl;clear hxl;have HXR:=Lib.hid hxr;clear hxr;have HAA:=Lib.hid hA;clear hA
  go_enter func79,Tryz.ntmps79
  go_wp2_with fail
  go_loopw [14] (λsl wr=>∃ (l:Nat),l<=3/\sl = .int .i64 l/\Blk wr w.heap.size 3 #[.int .i64 (oM (pT p l):Nat)]/\Below w.heap.size w wr) (λsl _=>3-(intOf sl).toNat)
  case atStart=>exact ⟨0,by omega,rfl,Blk.new _ _ _,(Below.refl _ _).alloc (Uj _) _⟩
  case round=>
    obtain ⟨l,hl,rfl,hB,hb⟩:=hrel;have HB:=Lib.hid hB;clear hB;have hgl:=HB.out.lt
    by_cases hl3:l<3
    · have HW:=Lib.hid (show pT p (l+1)=pT p l*((cw p l+1) ^ (cr p l)*Q3 (cw p l)) from rfl);obtain ⟨wo,rfl⟩:∃ wo:World,wo=wr:=⟨_,rfl⟩;have hl3':(l:Int)<3:=by omega
      go_wp2_with fail
      go_loopw [6,7,19] (λsr sw i w1=>∃ k:Nat,k<=xs.length/\i = .int .i64 k/\sr = .int .i64 (ui (bI l rdB)<|p.take k)/\sw = .int .i64 (ui (bI l wrB)<|p.take k)/\Below wo.heap.size wo w1) (λ_ _ i _=>xs.length-(intOf i).toNat)
      case atStart=>exact ⟨0,Uk _,rfl,rfl,rfl,Below.refl _ _⟩
      case round=>
        obtain ⟨k,hk,rfl,rfl,rfl,hb1⟩:=hrel;have hbw:=hb.trans<|hb1.mono hb.size
        by_cases hlt:k<xs.length
        · obtain ⟨ba,oa,rfl,_,_,hba,hA⟩:=HAA.out (by omega);have hp:k<p.length:=HX.out ▸ hlt;obtain ⟨Ak,ck,hk1,hk2,hk3,hrow⟩:=(HXR.out k hlt hp).inss;have HROW:=Lib.hid hrow;clear hrow;have ca0:=(hbw.cell (p:=⟨ba,oa+k,Rl⟩) hba).trans<|hA k hlt;rw [hk1] at ca0;clear hA hk1;have i1:(0:Int)<=(k:Int):=by omega
          have i2:(k:Int)<(xs.length:Int):=by omega
          have HTr:=Lib.hid<|fI (bI l rdB) p k hp;have HTw:=Lib.hid<|fI (bI l wrB) p k hp;have HPr:=Lib.hid λj=>lT (bI l rdB) p k j hp;have HPw:=Lib.hid λj=>lT (bI l wrB) p k j hp;obtain ⟨w1,rfl⟩:∃ w1:World,w1=wr:=⟨_,rfl⟩
          go_wp2_with fail
          go_loopw [6,7,25] (λsr sw i w2=>∃ j:Nat,j<=p[k].length/\i = .int .i64 j/\sr = .int .i64 (ui (bI l rdB) (p.take k)+(p[k].take j).countP (bI l rdB):Nat)/\sw = .int .i64 (ui (bI l wrB) (p.take k)+(p[k].take j).countP (bI l wrB):Nat)/\Below w1.heap.size w1 w2) (λ_ _ i _=>p[k].length-(intOf i).toNat)
          case atStart=>exact ⟨0,Uk _,rfl,by simp,by simp,Below.refl _ _⟩
          case round=>
            obtain ⟨j,hj,rfl,rfl,rfl,hb2⟩:=hrel;have hbw2:=hbw.trans<|hb2.mono hbw.size;have hsm1:ui (bI l rdB) (p.take k)+(p[k].take j).countP (bI l rdB)<=1048576:=Un (HPr.out j) ht;have hsm2:ui (bI l wrB) (p.take k)+(p[k].take j).countP (bI l wrB)<=1048576:=Un (HPw.out j) ht
            by_cases hlj:j<p[k].length
            · obtain ⟨bb,ob,rfl,_,_,hbb,hBB⟩:=HROW.out (by omega);obtain ⟨d1,d2,d3,d4⟩:=(hBB j hlj).below hbw2 hbb;have HSr:=Lib.hid<|fu (bI l rdB) p[k] j hlj;have HSw:=Lib.hid<|fu (bI l wrB) p[k] j hlj;have j1:(0:Int)<=(j:Int):=by omega
              have j2:(j:Int)<(p[k].length:Int):=by omega
              clear hBB
              go_wp2_with (first
                | (go_at_call 80;refine (Jn _ _ _ _ _).mono ?_;rintro e w3 ⟨rfl,hq⟩;have z0:=hq.cell (p:=⟨wr.heap.size,0,Rl⟩) (by simp);have z1:=hq.cell (p:=⟨wr.heap.size,1,Rl⟩) (by simp);have z2:=hq.cell (p:=⟨wr.heap.size,2,Rl⟩) (by simp);have z3:=hq.cell (p:=⟨wr.heap.size,3,Rl⟩)<|by simp)
                | (go_at_call 81;refine (Ii _ _ _ _ _).mono ?_;rintro e w4 ⟨rfl,hq2⟩))
              all_goals
                have hr:=HSr.out;have hw:=HSw.out
                first
                  | (have ef:bI (l:Int) rdB p[k][j]=Ri:=by simp [bI,rdB, *]
                     rw [if_pos ef] at hr)
                  | (have ef : ¬ bI (l:Int) rdB p[k][j]=Ri:=by simp [bI,rdB, *]
                     rw [if_neg ef] at hr)
                first
                  | (have ef:bI (l:Int) wrB p[k][j]=Ri:=by simp [bI,wrB, *]
                     rw [if_pos ef] at hw)
                  | (have ef : ¬ bI (l:Int) wrB p[k][j]=Ri:=by simp [bI,wrB, *]
                     rw [if_neg ef] at hw)
                go_roundw
                case rel=>
                  have hsz:=hb2.size;refine ⟨j+1,by omega,by go_num,congrArg (Value.int .i64) (by omega),congrArg (Value.int .i64) (by omega),?_⟩
                  first
                    | exact hb2.alloc hb2.size _
                    | exact ((hb2.alloc hb2.size _).trans<|hq.mono<|by simp;omega).trans (hq2.mono (by have := hq.size;simp at this;omega))
                case measure=>simp [intOf];omega
            have hjx:p[k].take j=p[k]:=Ul (by omega);have HJ:=Lib.hid hjx;clear hjx
            go_wp2_with fail
            go_roundw
            case rel=>exact ⟨k+1,by omega,by go_num,congrArg (Value.int .i64) (by rw [HJ.out,HTr.out]),congrArg (Value.int .i64) (by rw [HJ.out,HTw.out]),hb1.trans<|hb2.mono hb1.size⟩
            case measure=>simp [intOf];omega
        have hkx:p.take k=p:=Ul (by rw [<- HX.out];omega);have B1:=HB.out.below hb1 hgl;have hcw:=BN (bI (l:Int) wrB) p;have hcr:=BN (bI (l:Int) rdB) p;have er:ui (bI (l:Int) rdB) (p.take k)=cr p l:=by rw [hkx];rfl
        have ew:ui (bI (l:Int) wrB) (p.take k)=cw p l:=by rw [hkx];rfl
        rw [er,ew];change cw p l<=total p at hcw;change cr p l<=total p at hcr;clear er ew hkx;generalize cw p l=a at *;generalize cr p l=r at *;have BB1:=Lib.hid B1;clear B1;have ha1:(a:Int)<=1048576:=by omega
        have hr1:(r:Int)<=1048576:=by omega
        go_wp2_with fail
        go_loopw [52] (λsi w4=>∃ (i:Nat),i<=r/\si = .int .i64 i/\Blk w4 w.heap.size 3 #[.int .i64 (oM (pT p l*(a+1) ^ i):Nat)]/\Below w.heap.size w w4) (λsi _=>r-(intOf si).toNat)
        case atStart=>exact ⟨0,Uk _,rfl,by simpa using BB1.out,hbw⟩
        case round=>
          obtain ⟨i,hi,rfl,hBi,hb4⟩:=hrel;have HBi:=Lib.hid hBi;clear hBi
          by_cases hir:i<r
          · have hir':(i:Int)<(r:Int):=by omega
            have hc3:oM (pT p l*(a+1) ^ i)<=3001:=Jt _;have hstep:oM (oM (pT p l*(a+1) ^ i)*(a+1))=oM (pT p l*(a+1) ^ (i+1)):=by rw [EQ _ _ (by omega),Nat.pow_succ,Um]
            have HST:=Lib.hid hstep;clear hstep;have hcast:((a+1:Nat):Int)=(a:Int)+1:=by push_cast;rfl
            have EX:=Dg w.heap.size (oM<|pT p l*(a+1) ^ i) (a+1) 3 wr HBi.out hc3 (by omega);rw [hcast] at EX;have HEX:=Lib.hid EX;clear EX hcast hc3
            go_wp2_with (go_at_call 134;refine HEX.out.mono ?_;rintro e w5 ⟨rfl,rfl⟩)
            go_roundw
            case rel=>exact ⟨i+1,by omega,by go_num,by rw [<- HST.out];exact HBi.out.set_ 0 _,hb4.setCell (by simp) _⟩
            case measure=>simp [intOf];omega
          have hix:i=r:=by omega
          subst hix
          go_wp2_with fail
          go_loopw [60] (λsi w4=>∃ (j:Nat),j<=a/\si = .int .i64 j/\Blk w4 w.heap.size 3 #[.int .i64 (oM (pT p l*(a+1) ^ i*Q3 j):Nat)]/\Below w.heap.size w w4) (λsi _=>a-(intOf si).toNat)
          case atStart=>exact ⟨0,Uk _,rfl,by simpa [Q3] using HBi.out,hb4⟩
          case round=>
            obtain ⟨j,hj,rfl,hBj,hb5⟩:=hrel;have HBj:=Lib.hid hBj;clear hBj
            by_cases hja:j<a
            · have hja':(j:Int)<(a:Int):=by omega
              have hc3:oM (pT p l*(a+1) ^ i*Q3 j)<=3001:=Jt _;have hstep:oM (oM (pT p l*(a+1) ^ i*Q3 j)*(j+1))=oM (pT p l*(a+1) ^ i*Q3 (j+1)):=by rw [EQ _ _ (by omega),Q3,<- Um]
              have HST:=Lib.hid hstep;clear hstep;have hcast:((j+1:Nat):Int)=(j:Int)+1:=by push_cast;rfl
              have EX:=Dg w.heap.size (oM<|pT p l*(a+1) ^ i*Q3 j) (j+1) 3 wr HBj.out hc3 (by omega);rw [hcast] at EX;have HEX:=Lib.hid EX;clear EX hcast hc3
              go_wp2_with (go_at_call 134;refine HEX.out.mono ?_;rintro e w5 ⟨rfl,rfl⟩)
              go_roundw
              case rel=>exact ⟨j+1,by omega,by go_num,by rw [<- HST.out];exact HBj.out.set_ 0 _,hb5.setCell (by simp) _⟩
              case measure=>simp [intOf];omega
            have hjx:j=a:=by omega
            subst hjx
            go_wp2_with fail
            go_roundw
            case rel=>exact ⟨l+1,by omega,by go_num,by rw [HW.out,<- Um];exact HBj.out,hb5⟩
            case measure=>simp [intOf];omega
    have hl4:l=3:=by omega
    subst hl4;have c0:=HB.out.cell 0;have c1:wr.cell? ⟨w.heap.size,0,Rl⟩=Rk (.int .i64 (oM (pT p 3):Nat)):=c0;clear c0
    go_wp2_with fail
    go_ret
    exact ⟨BL rfl,hb⟩
def wu (x:Ins):Bool:=x.op != 4
def rowOk (r:List Ins):Bool:=Rm (r.length<=7)&&r.all iK
def sW (p:List<|List Ins):Bool:=Rm (p.length<=3)&&p.all rowOk&&Rm (ui wu p<=12)
def bq (p:List<|List Ins):Bool:=sW p&&Rm (0<p.length)&&Rm (vp p<=3000)
theorem zi {p:List (List Ins)} (k:Nat) (h:k<p.length) (hb:rowOk p[k]=Rj):sW p=Rj:=by
 have : p.all rowOk=Rj:=by
  rw [List.all_eq_false];exact ⟨p[k],List.getElem_mem h,by rw [hb];simp⟩
 simp [sW,this]
theorem Dh {r:List Ins} (h:7<r.length):rowOk r=Rj:=by
 simp [rowOk];omega
theorem ER {r:List Ins} (j:Nat) (h:j<r.length) (hb:iK r[j]=Rj):rowOk r=Rj:=by
 have : r.all iK=Rj:=by
  rw [List.all_eq_false];exact ⟨r[j],List.getElem_mem h,by rw [hb];simp⟩
 simp [rowOk,this]
theorem Di {r:List Ins} (h:r.length<=7) (hg:∀ j (h:j<r.length),iK r[j]=Ri):rowOk r=Ri:=by
 simp only [rowOk,bae,dte,List.all_eq_true];refine ⟨h,λx hx=>?_⟩;obtain ⟨j,hj,rfl⟩:=Uw hx;exact hg j hj
theorem BO {p:List (List Ins)} (h:p.length<=3) (hg:∀ j (h:j<p.length),rowOk p[j]=Ri):sW p=Rm (ui wu p<=12):=by
 have : p.all rowOk=Ri:=by
  rw [List.all_eq_true];intro x hx;obtain ⟨j,hj,rfl⟩:=Uw hx;exact hg j hj
 simp [sW,this,h]
set_option maxHeartbeats 1000000 in
theorem BP {lo hi:Nat} {u:Value} {p:List (List Ins)} {w:World} (hu:Eu Ins.cells 4 w lo hi u p) (ht:total p<=1048576) :
    Calls Rn 115 #[u] w λe w'=>e = .returned (.bool<|sW p)/\Below w.heap.size w w':=by
  obtain ⟨xs,hxs,hxl,hxr⟩:=hu;obtain ⟨A,ca,rfl,hca,hma,hA⟩:=hxs.vals;clear hxs;have HX:=Lib.hid hxl;clear hxl;have HXR:=Lib.hid hxr;clear hxr;have HAA:=Lib.hid hA;clear hA
  by_cases h3:xs.length<=3
  · have h3' : ¬ (3:Int)<(xs.length:Int):=by omega
    go_enter func115,Tryz.ntmps115
    go_wp2_with fail
    go_loopw [3,4] (λn i wr=>∃ k:Nat,k<=xs.length/\i = .int .i64 k/\n = .int .i64 (ui wu<|p.take k)/\(∀ q (h:q<p.length),q<k->rowOk p[q]=Ri)/\Below w.heap.size w wr) (λ_ i _=>xs.length-(intOf i).toNat)
    case atStart=>exact ⟨0,Uk _,rfl,rfl,λq _ h=>absurd h (by omega),Below.refl _ _⟩
    case round=>
      obtain ⟨k,hk,rfl,rfl,hgood,hb⟩:=hrel;have HG:=Lib.hid hgood;clear hgood
      by_cases hlt:k<xs.length
      · obtain ⟨ba,oa,rfl,_,_,hba,hA⟩:=HAA.out (by omega);have hp:k<p.length:=HX.out ▸ hlt;obtain ⟨Ak,ck,hk1,hk2,hk3,hrow⟩:=(HXR.out k hlt hp).inss;have HROW:=Lib.hid hrow;clear hrow;have ca0:=hA k hlt;rw [hk1] at ca0;have CA:=Lib.hid ca0;have c00:=(hb.cell (p:=⟨ba,oa+k,Rl⟩) hba).trans ca0;clear hA hk1 ca0;have i1:(0:Int)<=(k:Int):=by omega
        have i2:(k:Int)<(xs.length:Int):=by omega
        have HT:=Lib.hid<|fI wu p k hp;have HPL:=Lib.hid λj=>lT wu p k j hp;obtain ⟨wo,rfl⟩:∃ wo:World,wo=wr:=⟨_,rfl⟩
        by_cases h7:p[k].length<=7
        · have h7' : ¬ (7:Int)<(p[k].length:Int):=by omega
          go_wp2_with fail
          go_loopw [3,5] (λn i w2=>∃ j:Nat,j<=p[k].length/\i = .int .i64 j/\n = .int .i64 (ui wu (p.take k)+(p[k].take j).countP wu:Nat)/\(∀ q (h:q<p[k].length),q<j->iK p[k][q]=Ri)/\Below w.heap.size w w2) (λ_ i _=>p[k].length-(intOf i).toNat)
          case atStart=>exact ⟨0,Uk _,rfl,by simp,λq _ h=>absurd h (by omega),hb⟩
          case round=>
            obtain ⟨j,hj,rfl,rfl,hgj,hb2⟩:=hrel;have HGJ:=Lib.hid hgj;clear hgj;have c0:=(hb2.cell (p:=⟨ba,oa+k,Rl⟩) hba).trans CA.out;have hsm:ui wu (p.take k)+(p[k].take j).countP wu<=1048576:=Un (HPL.out j) ht
            by_cases hlj:j<p[k].length
            · obtain ⟨bb,ob,rfl,_,_,hbb,hB⟩:=HROW.out (by omega);obtain ⟨d1,d2,d3,d4⟩:=(hB j hlj).below hb2 hbb;have HS:=Lib.hid<|fu wu p[k] j hlj;have j1:(0:Int)<=(j:Int):=by omega
              have j2:(j:Int)<(p[k].length:Int):=by omega
              clear hB c00
              go_wp2_with fail
              refine (wQ p[k][j] _).mono ?_;rintro e w3 ⟨rfl,hq⟩;have e0:=(hq.cell (p:=⟨ba,oa+k,Rl⟩)<|Uq hba hb2.size).trans c0;have e1:=(hq.cell (p:=⟨bb,ob+j*4,Rl⟩)<|Uq hbb hb2.size).trans d1;have hb3:=hb2.trans<|hq.mono hb2.size
              by_cases hok:iK p[k][j]=Ri
              · go_wp2_with fail
                all_goals
                  have h:=HS.out
                  first
                    | (have ef:wu p[k][j]=Ri:=by simpa [wu] using ‹(p[k][j].op != 4)=Ri›
                       rw [if_pos ef] at h)
                    | (have ef : ¬ wu p[k][j]=Ri:=by simpa [wu] using ‹(p[k][j].op != 4)=Rj›
                       rw [if_neg ef] at h)
                  go_roundw
                  case rel=>
                    refine ⟨j+1,by omega,by go_num,congrArg (Value.int .i64) (by omega),λq hq hqj=>?_,hb3⟩
                    by_cases e:q=j
                    · subst e;exact hok
                    exact HGJ.out q hq (by omega)
                  case measure=>simp [intOf];omega
              have hok':iK p[k][j]=Rj:=by simpa using hok
              have hbad:=zi k hp<|ER j hlj hok';have HBAD:=Lib.hid hbad;clear hok hbad
              go_wp2_with fail
              go_ret
              exact ⟨aS (by rw [HBAD.out]),hb3⟩
            have hjx:p[k].take j=p[k]:=Ul (by omega);have HJ:=Lib.hid hjx;clear hjx;have hrk:rowOk p[k]=Ri:=Di h7 λq hq=>HGJ.out q hq (by omega);have HRK:=Lib.hid hrk;clear hrk
            go_wp2_with fail
            go_roundw
            case rel=>
              refine ⟨k+1,by omega,by go_num,congrArg (Value.int .i64) (by rw [HJ.out,HT.out]),λq hq hqk=>?_,hb2⟩
              by_cases e:q=k
              · subst e;exact HRK.out
              exact HG.out q hq (by omega)
            case measure=>simp [intOf];omega
        have h7':(7:Int)<(p[k].length:Int):=by omega
        have HBAD:=Lib.hid<|zi k hp<|Dh (by omega);clear h7
        go_wp2_with fail
        go_ret
        exact ⟨aS (by rw [HBAD.out]),hb⟩
      have hkx:p.take k=p:=Ul (by rw [<- HX.out];omega);have hsh:=BO (p:=p) (by rw [<- HX.out];exact h3) λq hq=>HG.out q hq (by rw [<- HX.out] at hq;omega);have HK:=Lib.hid hkx;clear hkx;have HS:=Lib.hid hsh;clear hsh
      go_wp2_with fail
      go_ret
      exact ⟨aS (by rw [HS.out,HK.out];exact decide_eq_decide.2<|by omega),hb⟩
  have h3':(3:Int)<(xs.length:Int):=by omega
  have hsh:sW p=Rj:=by
    have := HX.out;simp [sW];omega
  have HS:=Lib.hid hsh;clear h3 hsh
  go_enter func115,Tryz.ntmps115
  go_wp2_with fail
  go_ret
  exact ⟨aS (by rw [HS.out]),Below.refl _ _⟩
theorem BQ (n:Nat):Rm (((oM n:Nat):Int)<=3000)=Rm (n<=3000):=by
 unfold oM;simp only [decide_eq_decide];omega
theorem vq {lo hi:Nat} {u:Value} {p:List (List Ins)} {w:World} (hu:Eu Ins.cells 4 w lo hi u p) (hhi:hi<=w.heap.size) (ht:total p<=1048576) :
  Calls Rn 52 #[u] w λe w'=>e = .returned (.bool<|bq p)/\Below w.heap.size w w':=by
 have HU:=Lib.hid hu;obtain ⟨xs,hxs,hxl,hxr⟩:=hu;obtain ⟨A,ca,rfl,hca,hma,hA⟩:=hxs.vals;clear hxs hxr hA;have HX:=Lib.hid hxl;clear hxl;have hv:bq p=(sW p&&Rm (0<xs.length)&&Rm (vp p<=3000)):=by rw [HX.out];rfl
 have HV:=Lib.hid hv;clear hv;have hc:=BQ<|vp p;have HCC:=Lib.hid hc;clear hc
 cases hs:sW p with
 | false=>
  have SH:=Lib.hid<|BP (w:=w) HU.out ht;rw [hs] at SH;have HS:=Lib.hid hs;clear hs
  go_enter func52,Tryz.ntmps52
  go_wp2_with (first | (go_at_call 115;refine SH.out.mono ?_;rintro e w1 ⟨rfl,hb⟩))
  go_ret
  exact ⟨aS (by rw [HV.out,HS.out];rfl),hb⟩
 | true=>
  have SH:=Lib.hid<|BP (w:=w) HU.out ht;rw [hs] at SH;have HS:=Lib.hid hs;clear hs
  by_cases h0:(0:Int)<(xs.length:Int)
  ·go_enter func52,Tryz.ntmps52
   go_wp2_with (first | (go_at_call 115;refine SH.out.mono ?_;rintro e w1 ⟨rfl,hb⟩) | (go_at_call 116;refine (F6 (HU.out.below hb hhi) (Un hhi hb.size) ht).mono ?_;rintro e w2 ⟨rfl,hb2⟩))
   all_goals
    go_ret
    refine ⟨aS ?_,hb.trans<|hb2.mono hb.size⟩;rw [HV.out,HS.out];have := HCC.out
    simp_all
  go_enter func52,Tryz.ntmps52
  go_wp2_with (first | (go_at_call 115;refine SH.out.mono ?_;rintro e w1 ⟨rfl,hb⟩))
  go_ret
  refine ⟨aS ?_,hb⟩;rw [HV.out,HS.out];simp;omega
theorem Dj {p:List (List Ins)} (k:Nat) (h:k<p.length) (hb:rowOk p[k]=Rj):bq p=Rj:=by
 simp [bq,zi k h hb]
set_option maxHeartbeats 1000000 in
theorem vu {lo hi:Nat} {u:Value} {p:List (List Ins)} {w:World} (hu:Eu Ins.cells 4 w lo hi u p) (hhi:hi<=w.heap.size) (ht:total p<=1048576) :
    Calls Rn 29 #[u] w λe w'=>e = .returned (.bool<|bq p)/\Below w.heap.size w w':=by
  have HU:=Lib.hid hu;obtain ⟨xs,hxs,hxl,hxr⟩:=hu;obtain ⟨A,ca,rfl,hca,hma,hA⟩:=hxs.vals;clear hxs;have HX:=Lib.hid hxl;clear hxl;have HXR:=Lib.hid hxr;clear hxr;have HAA:=Lib.hid hA;clear hA
  by_cases h3:1<=xs.length/\xs.length<=3
  · obtain ⟨h1,h3⟩:=h3
    go_enter func29,Tryz.ntmps29
    go_wp2_with (go_at_call 77;refine (fq _ _ _ Ri (by simp;omega) _).mono ?_;rintro e w1 ⟨rfl,rfl⟩)
    go_loopw [3,14] (λn i wr=>∃ k:Nat,k<=xs.length/\i = .int .i64 k/\n = .int .i64 (ui wu<|p.take k)/\(∀ q (h:q<p.length),q<k->rowOk p[q]=Ri)/\Below w.heap.size w wr) (λ_ i _=>xs.length-(intOf i).toNat)
    case atStart=>exact ⟨0,Uk _,rfl,rfl,λq _ h=>absurd h (by omega),Below.refl _ _⟩
    case round=>
      obtain ⟨k,hk,rfl,rfl,hgood,hb⟩:=hrel;have HG:=Lib.hid hgood;clear hgood
      by_cases hlt:k<xs.length
      · obtain ⟨ba,oa,rfl,_,_,hba,hA⟩:=HAA.out (by omega);have hp:k<p.length:=HX.out ▸ hlt;obtain ⟨Ak,ck,hk1,hk2,hk3,hrow⟩:=(HXR.out k hlt hp).inss;have HROW:=Lib.hid hrow;clear hrow;have ca0:=hA k hlt;rw [hk1] at ca0;have c00:=(hb.cell (p:=⟨ba,oa+k,Rl⟩) hba).trans ca0;clear hA hk1 ca0;have i1:(0:Int)<=(k:Int):=by omega
        have i2:(k:Int)<(xs.length:Int):=by omega
        have HT:=Lib.hid<|fI wu p k hp;have HPL:=Lib.hid λj=>lT wu p k j hp;obtain ⟨wo,rfl⟩:∃ wo:World,wo=wr:=⟨_,rfl⟩
        go_wp2_with fail
        clear c00
        go_loopw [3,20] (λn i w2=>∃ j:Nat,j<=p[k].length/\i = .int .i64 j/\n = .int .i64 (ui wu (p.take k)+(p[k].take j).countP wu:Nat)/\(∀ q (h:q<p[k].length),q<j->iK p[k][q]=Ri)/\Below w.heap.size w w2) (λ_ i _=>p[k].length-(intOf i).toNat)
        case atStart=>exact ⟨0,Uk _,rfl,by simp,λq _ h=>absurd h (by omega),hb⟩
        case round=>
          obtain ⟨j,hj,rfl,rfl,hgj,hb2⟩:=hrel;have HGJ:=Lib.hid hgj;clear hgj;have hsm:ui wu (p.take k)+(p[k].take j).countP wu<=1048576:=Un (HPL.out j) ht
          by_cases hlj:j<p[k].length
          · obtain ⟨bb,ob,rfl,_,_,hbb,hB⟩:=HROW.out (by omega);obtain ⟨d1,d2,d3,d4⟩:=(hB j hlj).below hb2 hbb;have HS:=Lib.hid<|fu wu p[k] j hlj;have j1:(0:Int)<=(j:Int):=by omega
            have j2:(j:Int)<(p[k].length:Int):=by omega
            clear hB
            go_wp2_with fail
            refine (wR p[k][j] _).mono ?_;rintro e w3 ⟨rfl,hq⟩;have z0:=hq.cell (p:=⟨wr.heap.size,0,Rl⟩) (by simp);have hb3:=(hb2.alloc hb2.size<|.cells #[.int .i64 p[k][j].op,.int .i64 p[k][j].loc,.int .i64 p[k][j].reg,.int .i64 p[k][j].val] 79).trans<|hq.mono (by simp;have := hb2.size;omega)
            by_cases hok:iK p[k][j]=Ri
            · go_wp2_with fail
              all_goals
                have h:=HS.out
                first
                  | (have ef:wu p[k][j]=Ri:=by simpa [wu] using ‹(p[k][j].op != 4)=Ri›
                     rw [if_pos ef] at h)
                  | (have ef : ¬ wu p[k][j]=Ri:=by simpa [wu] using ‹(p[k][j].op != 4)=Rj›
                     rw [if_neg ef] at h)
                go_roundw
                case rel=>
                  refine ⟨j+1,by omega,by go_num,congrArg (Value.int .i64) (by omega),λq hq hqj=>?_,hb3⟩
                  by_cases e:q=j
                  · subst e;exact hok
                  exact HGJ.out q hq (by omega)
                case measure=>simp [intOf];omega
            have hok':iK p[k][j]=Rj:=by simpa using hok
            have hbad:=Dj k hp<|ER j hlj hok';have HBAD:=Lib.hid hbad;clear hok hbad
            go_wp2_with fail
            go_ret
            exact ⟨aS (by rw [HBAD.out]),hb3⟩
          have hjx:p[k].take j=p[k]:=Ul (by omega);have HJ:=Lib.hid hjx;clear hjx
          by_cases h7:p[k].length<=7
          · have h7' : ¬ (7:Int)<(p[k].length:Int):=by omega
            have hrk:rowOk p[k]=Ri:=Di h7 λq hq=>HGJ.out q hq (by omega);have HRK:=Lib.hid hrk;clear hrk
            go_wp2_with fail
            go_roundw
            case rel=>
              refine ⟨k+1,by omega,by go_num,congrArg (Value.int .i64) (by rw [HJ.out,HT.out]),λq hq hqk=>?_,hb2⟩
              by_cases e:q=k
              · subst e;exact HRK.out
              exact HG.out q hq (by omega)
            case measure=>simp [intOf];omega
          have h7':(7:Int)<(p[k].length:Int):=by omega
          have HBAD:=Lib.hid<|Dj k hp<|Dh (by omega);clear h7
          go_wp2_with fail
          go_ret
          exact ⟨aS (by rw [HBAD.out]),hb2⟩
      have hkx:p.take k=p:=Ul (by rw [<- HX.out];omega);have hsh:=BO (p:=p) (by rw [<- HX.out];exact h3) λq hq=>HG.out q hq (by rw [<- HX.out] at hq;omega);have hv:bq p=(Rm (ui wu p<=12)&&Rm (vp p<=3000)):=by
        have : 0<p.length:=by rw [<- HX.out];omega
        simp [bq,hsh,this]
      rw [hkx];have HV:=Lib.hid hv;clear hv hsh hkx;have HCC:=Lib.hid<|BQ<|vp p
      by_cases h12:ui wu p<=12
      · have h12':(ui wu p:Int)<=12:=by omega
        go_wp2_with (go_at_call 79;refine (Ju (HU.out.below hb hhi) ht).mono ?_;rintro e w2 ⟨rfl,hb2⟩)
        go_ret
        exact ⟨aS (by rw [HV.out,decide_eq_true h12,Bool.true_and];exact HCC.out),hb.trans<|hb2.mono hb.size⟩
      have h12' : ¬ (ui wu p:Int)<=12:=by omega
      have hf:bq p=Rj:=by rw [HV.out];simp [h12]
      have HF:=Lib.hid hf;clear hf h12
      go_wp2_with fail
      go_ret
      exact ⟨aS (by rw [HF.out]),hb⟩
  have hv:bq p=Rj:=by
    have := HX.out
    by_cases h:p.length<=3
    · have : p.length=0:=by omega
      simp [bq,this]
    simp [bq,sW,h]
  have HV:=Lib.hid hv;clear hv;have HN:=Lib.hid h3;clear h3
  go_enter func29,Tryz.ntmps29
  go_wp2_with (go_at_call 77;refine (fq _ _ _ Rj (by have := HN.out;simp;omega) _).mono ?_;rintro e w1 ⟨rfl,rfl⟩)
  go_ret
  exact ⟨aS (by rw [HV.out]),Below.refl _ _⟩
def aT (p:List<|List QV):Option Bool:=gd (Rm<|p.length<=1048576/\total p<=1048576)<|Rk<|bq<|p.map λr=>r.map jl
def bf (p:List<|List QV):Option Bool:=gd (Rm<|p.length<=1048576/\total p<=1048576)<|Rk<|bq<|p.map λr=>r.map jl
open Go.RowKit
def Lp (l:LI):LI:=l.mergeSort λx y=>Rm<|x<=y
theorem qI (l:LI):(Lp l).Perm l:=List.mergeSort_perm l _
theorem F7 (l:LI):(Lp l).Pairwise (· <= ·):=
 (List.pairwise_mergeSort (le:=λx y:Int=>Rm<|x<=y) (λa b c h1 h2=>by simp only [dte] at *;omega) (λa b=>by simp only [Bool.or_eq_true,dte];omega) l).imp λh=>of_decide_eq_true h
def qb (l:LI):Option (LI):=gd (Rm<|l.length<4611686018427387904)<|Rk<|Lp l
theorem zk {l q:LI} (h:l=[]) (c:qb l=some q):q=[]:=by
 subst h;obtain ⟨_,c⟩:=gdD c;rw [<- osl c];exact (qI []).eq_nil
theorem zm {l q:LI} (c:qb l=some q):q.length=l.length:=by
 obtain ⟨_,c⟩:=gdD c;rw [<- osl c];exact (qI l).length_eq
end
end Go.Proofs.YtabfkkjdfhbngaaGreatDoor
