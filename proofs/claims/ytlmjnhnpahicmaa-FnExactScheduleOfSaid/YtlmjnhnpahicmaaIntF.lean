/-
 Contracts of laws.markIntS over a slice that may be written wherever it lies in its block; a result of a contract with a post read so. No conditions.
-/
import Derived.Test.YtlmjnhnpahicmaaIntS
import Derived.Test.YtlmjnhnpahicmaaBr
namespace Go.Proofs.Ytlmjnhnpahicmaa
open Go.ChangeShapes Go.WideShapes Go.ChangeAt Go.RowKit
set_option maxRecDepth 100000
def BlkF (w:World) (g:Nat) (t:TypeId) (fr:Nat×Nat) (cs:Array Value):Prop:=w.heap[g]? = some (.cells cs t fr)
section
variable {w w':World} {g:Nat} {t:TypeId} {fr:Nat×Nat} {cs:Array Value}
theorem BlkF.lt (h:BlkF w g t fr cs):g<w.heap.size:=by
 rcases Nat.lt_or_ge g w.heap.size with hlt | hge
 ·exact hlt
 ·unfold BlkF at h;rw [Array.getElem?_eq_none hge] at h;cases h
theorem BlkF.cell (h:BlkF w g t fr cs) (i:Nat):w.cell? ⟨g,i,none⟩=cs[i]? := cell_of_row w g i cs t fr h
theorem BlkF.frozen (h:BlkF w g t fr cs) (i:Nat) (hi : ¬ (fr.1<=i/\i<fr.2)):w.frozen? ⟨g,i,none⟩=false:=by
 unfold BlkF at h
 simp [World.frozen?,h]
 omega
theorem BlkF.set_ (h:BlkF w g t fr cs) (i:Nat) (u:Value):BlkF (w.setCell ⟨g,i,none⟩ u) g t fr (cs.setIfInBounds i u):=by
 unfold BlkF at h ⊢
 simp [World.setCell,Array.getElem?_modify,h]
end
def OwF (w:World) (lo hi:Nat) (v:Value) (xs:List Int):Prop:=
 ∃ A c,v = .slice A xs.length c/\xs.length<=c/\c<=9223372036854775807/\(0<xs.length->∃ g o t fr cur,A=some ⟨g,o,none⟩/\lo<=g/\g<hi/\BlkF w g t fr cur/\(∀ i,i<cur.size -> ¬ (fr.1<=i/\i<fr.2))/\o+xs.length<=cur.size /\
  ∀ (k:Nat) (h:k<xs.length),cur[o+k]? = some (.int .i64 xs[k]))
section
variable {w w':World} {lo hi l h B:Nat} {v:Value} {xs:List Int}
theorem OwF.keep (x:OwF w lo hi v xs) (hk:∀ k,k<w.heap.size->lo<=k->k<hi->w'.heap[k]? = w.heap[k]?):OwF w' lo hi v xs:=by
 obtain ⟨A,c,e,hc,hm,r⟩:=x
 refine ⟨A,c,e,hc,hm,fun hn => ?_⟩
 obtain ⟨g,o,t,fr,cur,e2,h1,h2,h3,h4⟩:=r hn
 exact ⟨g,o,t,fr,cur,e2,h1,h2,(hk g h3.lt h1 h2).trans h3,h4⟩
theorem OwF.below (x:OwF w lo hi v xs) (b:Below B w w') (hB:hi<=B):OwF w' lo hi v xs:=x.keep fun k _ _ h2=>b.block k (by omega)
theorem OwF.fr (x:OwF w lo hi v xs) (b:Fr l h w w') (hB:hi<=l\/h<=lo):OwF w' lo hi v xs:=x.keep fun k hk h1 h2=>b.block k hk (by omega)
theorem OwF.sl (x:OwF w lo hi v xs):Sl int1 1 w lo hi v xs:=by
 obtain ⟨A,c,e,hc,hm,r⟩:=x
 refine ⟨A,c,e,hc,hm,fun hn => ?_⟩
 obtain ⟨g,o,t,fr,cur,e2,h1,h2,h3,_,_,h4⟩:=r hn
 refine ⟨g,o,e2,h1,h2,h3.lt,fun k hk j u hu => ?_⟩
 match j,hu with
 | 0,hu=>
  simp only [int1,List.getElem?_cons_zero,Option.some.injEq] at hu
  rw [<- hu,Nat.mul_one,Nat.add_zero,h3.cell]
  exact h4 k hk
 | n+1,hu=>simp [int1] at hu
end
theorem markIntF_any {lo hi:Nat} {v:Value} {xs:List Int} {k:Int} {w:World} (hu:OwF w lo hi v xs) (hk0:0<=k) (hk1:k+xs.length<=1000000000) :
  Calls Try.prog 20 #[v,.int .i64 k] w fun e w'=>e = .returned (.int .i64 (k+xs.length))/\OwF w' lo hi v (markedI k xs.length)/\Fr lo hi w w':=by
 obtain ⟨A,c,rfl,hc,hm,hA⟩:=hu
 have hml:(markedI k xs.length).length=xs.length:=markedI_length _ _
 by_cases hn:0<xs.length
 ·obtain ⟨g,o,t,fr,cur,rfl,hg1,hg2,hB,hfr,hsz,hcur⟩:=hA hn
  clear hA hcur
  have HB0:=Lib.hid hB;clear hB
  have HS0:=Lib.hid hsz;clear hsz
  have HFR:=Lib.hid hfr;clear hfr
  have HML:=Lib.hid hml;clear hml
  go_enter Try.func20,Try.ntmps20
  go_wp2_with fail
  go_loopw [5,1] (fun i m wr=>∃ (j:Nat) (cs:Array Value),j<=xs.length/\i = .int .i64 j/\m = .int .i64 (k+j)/\BlkF wr g t fr cs/\cs.size=cur.size/\(∀ i,i<j->cs[o+i]? = some (.int .i64 (k+i)))/\Fr lo hi w wr) (fun i _ _=>xs.length-(intOf i).toNat)
  case atStart=>exact ⟨0,cur,Nat.zero_le _,rfl,by simp,HB0.out,rfl,fun i h=>absurd h (by omega),Fr.refl _ _ _⟩
  case round=>
   obtain ⟨j,cs,hj,rfl,rfl,hB,hcs,hin,hgr⟩:=hrel
   have HI:=Lib.hid hin;clear hin
   have HB:=Lib.hid hB;have HCS:=Lib.hid hcs
   by_cases hlt:j<xs.length
   ·have hz:o+j<cs.size:=by have := HS0.out;omega
    have f0:=hB.frozen (o+j) (HFR.out (o+j) (by omega))
    have e0:=hB.cell (o+j)
    rw [Array.getElem?_eq_getElem hz] at e0
    clear hB hcs
    go_wp2_with fail
    go_roundw
    case rel=>
     refine ⟨j+1,cs.setIfInBounds (o+j) (.int .i64 (k+j)),by omega,by go_num,congrArg (Value.int .i64) (by omega),HB.out.set_ _ _,by simp;exact HCS.out,?_,hgr.setCell ⟨by omega,by omega⟩ _⟩
     intro i hi
     by_cases e:i=j
     ·subst e;exact set_get_same hz
     ·rw [set_get_ne (by omega)];exact HI.out i (by omega)
    case measure=>simp [intOf];omega
   ·have hjx:j=xs.length:=by omega
    go_wp2_with fail
    go_ret
    refine ⟨ret_int (by rw [hjx]),?_,hgr⟩
    have hl:=HML.out
    refine ⟨_,c,by rw [hl],by rw [hl];exact hc,hm,fun _=>⟨g,o,t,fr,cs,rfl,hg1,hg2,HB.out,fun i hi=>HFR.out i (by rw [<- HCS.out];exact hi),by rw [hl,HCS.out];exact HS0.out,fun i hi => ?_⟩⟩
    rw [markedI_get]
    exact HI.out i (by omega)
 ·have hx:xs=[]:=List.eq_nil_of_length_eq_zero (by omega)
  have HX:=Lib.hid hx
  have hx0:xs.length=0:=by omega
  clear hx hA hml hn
  rw [hx0]
  go_enter Try.func20,Try.ntmps20
  go_wp2_with fail
  refine wp_loop_rounds 1 ?_
  rw [rounds_succ]
  go_wp2_with fail
  go_ret
  exact ⟨ret_int (by simp),⟨_,c,rfl,Nat.zero_le _,hm,fun h=>absurd h (by simp [markedI])⟩,Fr.refl _ _ _⟩
theorem ownF {c:Cx} (hr:HRel c) {b ver:Nat} {ty:TypeId} {l:List Int} {v:Value} (hlv:c.live b ⟨ver,1,ty,l.map cI⟩) (h0:c.rel (hS false b ver 1 l.length) v):OwF c.w (c.φ b).1 ((c.φ b).1+1) v l:=by
 change VRel c.w c.fz c.born c.hd (.hs b ver 1 0 l.length) v at h0
 cases h0 with
 | fr h=>cases h
 | @hs _ _ _ _ _ cap A hb hc hm ha h=>
  obtain ⟨cs,fr,hB⟩:=hr.blk b _ hlv
  obtain ⟨f,rfl,hat,hd⟩:=hB.cells hlv fun x hx=>(h x hx).1
  obtain ⟨g1,g2,g3,g4⟩:=h _ hd
  refine ⟨A,cap,rfl,hc,hm,fun hn => ?_⟩
  have hA:=g3 (by omega)
  simp only [Nat.zero_mul,Nat.add_zero,Nat.mul_one] at hA g4
  refine ⟨(c.φ b).1,(c.φ b).2,ty,f,cs,hA,Nat.le_refl _,Nat.lt_succ_self _,hat,hB.free f rfl,by omega,fun k hk => ?_⟩
  obtain ⟨u,h1,_,h2⟩:=hB.rel k [I l[k]] 0 (I l[k]) (by simp [hk,cI]) rfl
  obtain ⟨rfl,_⟩:=rel_v h2
  simpa using h1
theorem calls_of_own {P:Program} {f:FuncId} {ars:List AV} {ty:TypeId} {l:List Int} {b:Bool} {w:World} {vs:Array Value} (h:BCall P f ars [] (OwnR 1 ty (fun x => .tup [x,Bo b]) l.length (l.map cI) 0 [])) (hl:vs.size=ars.length)
  (hrel:∀ (i:Nat) (a:AV) (v:Value),ars[i]? = some a->vs[i]? = some v->FRel w (fun g=>g<w.heap.size) a v) :
  Calls P f vs w fun e w'=>(∃ v0,e = .returned (.tuple #[v0,.bool b])/\OwF w' w.heap.size w'.heap.size v0 l)/\Below w.heap.size w w':=by
 let c:Cx:={ w:=w,fz:=fun g=>g<w.heap.size,H:=[],φ:=fun _=>(0,0) }
 have hni:∀ b k,¬ c.live b k:=fun b k hl=>by
  have hl':([]:AH)[b]? = some (some k):=hl
  simp at hl'
 have hr:HRel c:=⟨fun g hg=>hg,fun b k hl=>absurd hl (hni b k),fun b b' k k' hl=>absurd hl (hni b k)⟩
 refine (h.2 c vs rfl hr ⟨hl,fun i a v ha hv => .fr (hrel i a v ha hv)⟩).mono fun e w' ⟨v,c',r,he,hw,⟨g,ver,hg,hr0,hG⟩,hr',hx,hv⟩ => ?_
 subst hw hr0
 have hbel:Below w.heap.size w c'.w:=⟨hx.os,hx.tape,hx.output,hx.size,fun g hg=>hx.keep g hg fun b k hl=>absurd hl (hni b k)⟩
 refine ⟨?_,hbel⟩
 obtain ⟨us,rfl,hus,hu⟩:=rel_tup hv
 obtain ⟨us⟩:=us
 match us,hus with
 | [v0,v1],_=>
  have h0:=hu 0 _ v0 rfl rfl
  obtain ⟨rfl,_⟩:=rel_v (hu 1 _ v1 rfl rfl)
  refine ⟨v0,he,?_⟩
  cases g with
  | true=>
   obtain rfl:=rel_nil h0
   have hz:=hg rfl
   have hz':l=[]:=List.eq_nil_of_length_eq_zero hz
   subst hz'
   exact ⟨none,0,rfl,Nat.le_refl _,by omega,fun h=>absurd h (by simp)⟩
  | false=>
   have hlv:c'.live 0 ⟨ver,1,ty,l.map cI⟩:=by
    show c'.H[0]? = _
    rw [hG]
    rfl
   have hlt:=hr'.live_lt hlv
   obtain ⟨A,cap,e1,e2,e3,e4⟩:=ownF hr' hlv h0
   refine ⟨A,cap,e1,e2,e3,fun hn => ?_⟩
   obtain ⟨g,o,t,fr,cur,q1,q2,q3,q4⟩:=e4 hn
   have hgg:g=(c'.φ 0).1:=by omega
   refine ⟨g,o,t,fr,cur,q1,?_,by omega,q4⟩
   rcases hx.liveNew 0 _ hlv with h1 | ⟨b0,k0,h1,_⟩
   ·rw [hgg];exact h1
   ·exact absurd h1 (hni b0 k0)
end Go.Proofs.Ytlmjnhnpahicmaa
