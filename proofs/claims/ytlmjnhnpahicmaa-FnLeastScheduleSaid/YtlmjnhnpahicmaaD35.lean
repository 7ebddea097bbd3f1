/-
 FnLeastSchedule's plain function is true at all codes. Plain theorems. No conditions.
-/
import Derived.Test.YtlmjnhnpahicmaaDt8
import Derived.Test.YtlmjnhnpahicmaaDsc
import Derived.Test.YtlmjnhnpahicmaaS35d
namespace Go.Proofs.Ytlmjnhnpahicmaa
open Go.RowKit
set_option maxRecDepth 100000
theorem law35 {code:List Int} (hb:Bts code):F_laws_FnLeastSchedule code=some true:=by
 refine Ret.eq ?_
 unfold F_laws_FnLeastSchedule
 refine .bifD (fun _ => .pure rfl) fun _ => ?_
 refine (drawLS hb).bind fun v ⟨hsm,hsl⟩ => ?_
 obtain ⟨p,s⟩:=v
 simp only at hsm hsl ⊢
 have hsz:=hsm.sz
 obtain ⟨l,b,e1,e2,hl,hw,hn,hg⟩:=least_ret hsz (s:=s) (by omega)
 refine (Ret.of (P:=(· = (l,b))) e1 rfl).bind fun v3 h3=>(Ret.of (P:=(· = (l,b))) e2 rfl).bind fun v4 h4 => ?_
 subst h3 h4
 refine Ret.bind (P:=(· = false)) (.bif (fun h=>by simp at h) fun _=>(wmInts_ret l (by omega)).bind fun v hv => .pure (by rw [hv];rfl)) fun s5 h5 => ?_
 subst h5
 refine Ret.bind (P:=(· = !b)) (.bif (fun h=>by cases h) fun _ => .pure rfl) fun s8 h8 => ?_
 subst h8
 refine .bif (fun h => ?_) fun h => ?_
 ·exact Ret.bind (P:=(· = true)) (.bif (fun _=>(wmInts_ret l (by omega)).bind fun v hv => .pure hv) fun h=>by simp at h) fun v hv => .pure hv
 have hbt:b=true:=by simpa using h
 subst hbt
 have hW:=hw.1 rfl
 obtain ⟨hWl,hrun,hlex⟩:=least_all hsz hW (hg rfl)
 obtain ⟨o,r1,r2,ho⟩:=outcome_same hsz (s:=s) (s':=l) (by omega) (by omega) hW hWl hrun.symm
 refine (Ret.of (P:=(· = (o,true))) r1 rfl).bind fun v14 h14=>(Ret.of (P:=(· = (o,true))) r2 rfl).bind fun v15 h15 => ?_
 subst h14 h15
 simp only
 refine Ret.bind (P:=fun k:Int=>k=(s.length:Int)\/∃ n:Nat,k=(n:Int)/\n<l.length/\n<s.length/\l.getD n default<s.getD n default) ?_ fun k hk => ?_
 ·refine Ret.loop (fun k=>∃ n:Nat,k=(n:Int)/\n<=s.length/\(l=s\/∃ m,n<=m/\m<l.length/\m<s.length/\(∀ j,j<m->l.getD j default=s.getD j default)/\l.getD m default<s.getD m default)) (fun k=>((s.length:Int)-k).toNat) ⟨0,rfl,Nat.zero_le _,hlex.elim .inl fun ⟨m,h⟩ => .inr ⟨m,Nat.zero_le _,h⟩⟩ fun k ⟨n,hk,hn,hc⟩ => ?_
  subst hk
  unfold F_laws_FnLeastSchedule_L20
  dsimp only
  refine Ret.sum (PS:=fun _=>n<s.length/\(l=s\/∃ m,n+1<=m/\m<l.length/\m<s.length/\(∀ j,j<m->l.getD j default=s.getD j default)/\l.getD m default<s.getD m default)) ?_ fun _ ⟨h1,h2⟩ => .gdI (by omega) (.pure ⟨⟨n+1,by omega,by omega,h2⟩,by omega⟩)
  refine Ret.bind (P:=fun b:Bool=>(b=true->n<s.length/\l.getD n default=s.getD n default)/\(b=false->n<s.length->l.getD n default≠s.getD n default)) ?_ fun b ⟨hb1,hb2⟩ => .bif (fun h => .pure ?_) fun h => .pure ?_
  ·refine .bifD (fun h => ?_) fun h => .pure ⟨nofun,fun _ h'=>absurd h' (by omega)⟩
   have hnl:n<l.length:=by
    rcases hc with rfl | ⟨m,m1,m2,_⟩
    ·omega
    ·omega
   refine .gdD ⟨by omega,by omega⟩ (.gdD ⟨by omega,h⟩ (.pure ?_))
   simp only [Int.toNat_natCast,beq_iff_eq,beq_eq_false_iff_ne]
   exact ⟨fun e=>⟨by omega,e⟩,fun e _=>e⟩
  ·obtain ⟨h1,h2⟩:=hb1 h
   refine ⟨h1,hc.imp id fun ⟨m,m1,m2,m3,m4,m5⟩=>⟨m,?_,m2,m3,m4,m5⟩⟩
   rcases Nat.lt_or_ge n m with h' | h'
   ·exact h'
   ·have : n=m:=by omega
    subst this
    omega
  ·show ((n:Int)=(s.length:Int)\/_)
   rcases Nat.lt_or_ge n s.length with h1 | h1
   ·right
    have hne:=hb2 h h1
    rcases hc with rfl | ⟨m,m1,m2,m3,m4,m5⟩
    ·exact absurd rfl hne
    ·rcases Nat.lt_or_ge n m with h' | h'
     ·exact absurd (m4 n h') hne
     ·have : n=m:=by omega
      subst this
      exact ⟨n,rfl,m2,m3,m5⟩
   ·left
    omega
 ·obtain ⟨b1,x1,_,x3,hw1⟩:=execOf_ret p hsz (s:=s) (by omega)
  obtain ⟨b2,y1,_,_,hw2⟩:=execOf_ret p hsz (s:=l) (by omega)
  obtain rfl:b1=true:=hw1.2 hW
  obtain rfl:b2=true:=hw2.2 hWl
  have ex:exOf p l true=exOf p s true:=by
   show (⟨_,_⟩:ZEx)=⟨_,_⟩
   rw [hrun]
  refine Ret.bind (P:=(· = true)) (.bif (fun _ => .bif (fun _=>(wmInts_ret o (by omega)).bind fun v hv => ?_) fun h=>by cases h) fun h=>by cases h) fun v hv => .pure hv
  subst hv
  refine .bif (fun _=>(isameTrace_ret p x1 y1 x3).bind fun v hv => ?_) fun h=>by cases h
  have hv:v=true:=by rw [hv,ex];simp [same]
  subst hv
  refine .bif (fun _ => .bif (fun _ => .pure rfl) fun hne => ?_) fun h=>by cases h
  have hne:k≠(s.length:Int):=by simpa using hne
  rcases hk with hk | ⟨n,hk,n1,n2,n3⟩
  ·exact absurd hk hne
  ·subst hk
   refine .gdD ⟨by omega,by omega⟩ (.gdD ⟨by omega,by omega⟩ (.pure ?_))
   simp only [Int.toNat_natCast]
   exact decide_eq_true n3
end Go.Proofs.Ytlmjnhnpahicmaa
