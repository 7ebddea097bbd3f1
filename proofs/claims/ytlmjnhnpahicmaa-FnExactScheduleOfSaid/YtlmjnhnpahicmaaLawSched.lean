/-
 PROVED: FnExactScheduleOf: for every program and every candidate the law returns true, and memory that was there is as it was. No conditions.
-/
import Derived.Test.YtlmjnhnpahicmaaXArg
import Derived.Test.YtlmjnhnpahicmaaDz1
import Derived.Test.YtlmjnhnpahicmaaSV1
import Derived.Deep.RegionHeld3
namespace Go.Proofs.Ytlmjnhnpahicmaa
open Go.ChangeShapes Go.WideShapes Go.ChangeAt Go.RowKit
set_option maxRecDepth 100000
def ofP (p:List (List Ins)):List (List ZIn):=p.map fun r=>r.map ofIns
theorem args2 {w:World} {fz:Nat->Prop} {a b:AV} {x y:Value} (ha:FRel w fz a x) (hb:FRel w fz b y):∀ (j:Nat) (d:AV) (z:Value),[a,b][j]? = some d -> #[x,y][j]? = some z->FRel w fz d z:=by
 intro j d z hd hz
 match j with
 | 0=>
  obtain rfl:=Option.some.inj hd
  obtain rfl:x=z:=by simpa using hz
  exact ha
 | 1=>
  obtain rfl:=Option.some.inj hd
  obtain rfl:y=z:=by simpa using hz
  exact hb
 | j+2=>simp at hd
theorem szInstrSSr_any {lo hi:Nat} {u:Value} {p:List (List Ins)} {w:World} (hu:SlSl Ins.cells 4 w lo hi u p) :
  Calls Try.prog 11 #[u,.int .i64 1048576] w fun e w'=>(∃ r:Int,e = .returned (.int .i64 r)/\(r<0\/(0<=r/\r<=1048576/\p.length+total p<=1048576)))/\Below w.heap.size w w':=by
 obtain ⟨xs,hxs,hxl,hxr⟩:=hu
 obtain ⟨A,ca,rfl,hca,hma,hA⟩:=hxs.vals
 clear hxs
 by_cases hl:(1048576:Int)<(xs.length:Int)
 ·go_enter Try.func11,Try.ntmps11
  go_wp2
  go_ret
  exact ⟨⟨-1,rfl,.inl (by omega)⟩,Below.refl _ _⟩
 ·have HX:=Lib.hid hxl;clear hxl
  have HXR:=Lib.hid hxr;clear hxr
  go_enter Try.func11,Try.ntmps11
  go_wp2
  go_loopw [5,1] (fun i m wr=>∃ k:Nat,k<=xs.length/\i = .int .i64 k/\m = .int .i64 (1048576-(xs.length:Int)-(total (p.take k):Int))/\0<=(1048576-(xs.length:Int)-(total (p.take k):Int))/\Below w.heap.size w wr) (fun i _ _=>xs.length-(intOf i).toNat)
  case atStart=>exact ⟨0,Nat.zero_le _,rfl,by simp [total],by simp [total];omega,Below.refl _ _⟩
  case round=>
   obtain ⟨k,hk,rfl,rfl,hm,hb⟩:=hrel
   by_cases hlt:k<xs.length
   ·obtain ⟨ba,oa,rfl,_,_,hba,hA⟩:=hA (by omega)
    have hp:k<p.length:=HX.out ▸ hlt
    have ca1:=(hb.cell (p:=⟨ba,oa+k,none⟩) hba).trans (hA k hlt)
    have rx:=(HXR.out k hlt hp)
    obtain ⟨Ak,ck,hk1,hk2,hk3,_⟩:=rx
    have HT:=Lib.hid (total_take_succ p k hp)
    have HK1:=Lib.hid hk1;clear hk1
    clear hA
    have i1:(0:Int)<=(k:Int):=by omega
    have i2:(k:Int)<(xs.length:Int):=by omega
    have m1:(1048576-(xs.length:Int)-(total (p.take k):Int))<=1048576:=by omega
    go_wp2_with (go_at_call 43;refine (szInstrS_any HK1.out (by omega) hm m1).mono ?_;rintro e w1 ⟨rfl,rfl⟩)
    ·have h2:=HT.out
     by_cases hq:(1048576-(xs.length:Int)-(total (p.take k):Int))<p[k].length
     ·rename_i hh
      go_ret
      exact ⟨⟨_,rfl,.inl (by omega)⟩,hb⟩
     ·rename_i hh
      simp only [hq,if_false] at hh
      omega
    ·have h2:=HT.out
     have hq : ¬ (1048576-(xs.length:Int)-(total (p.take k):Int))<p[k].length:=by
      intro hq
      rename_i hh
      simp [hq] at hh
     go_roundw
     case rel=>exact ⟨k+1,by omega,by go_num,by rw [if_neg hq,h2];congr 1;omega,by omega,hb⟩
     case measure=>simp [intOf];omega
   ·have : k=xs.length:=by omega
    have hh:total (p.take k)=total p:=by rw [this,HX.out,List.take_length]
    have HH:=Lib.hid hh
    clear hh this
    go_wp2
    go_ret
    have := HH.out
    have := HX.out
    exact ⟨⟨_,rfl,.inr ⟨by omega,by omega,by omega⟩⟩,hb⟩
theorem eqIntS_ret (a:List Int) (h:a.length<=4000000):Ret (F_laws_eqIntS a a) (· = true):=by
 unfold F_laws_eqIntS
 refine .bif (fun h=>by simp at h) fun _ => ?_
 refine Ret.sum (PS:=fun _=>True) (PW:=(· = true)) ((eqLoop (a:=a) (b:=a) rfl (bad:=false) (fun i h1 h2 => ?_) fun i hi => ?_).mono fun v hv=>by rw [hv,if_pos rfl];trivial) fun _ _ => .pure rfl
 ·unfold F_laws_eqIntS_L6
  exact .bifD (fun _ => .gdD ⟨h1,h2⟩ (.gdD ⟨h1,h2⟩ (.bif (fun h=>by simp at h) fun _ => .gdI (by omega) (.pure (by rw [if_pos rfl]))))) fun h=>absurd h2 h
 ·unfold F_laws_eqIntS_L6
  rw [decide_eq_false hi]
  rfl
theorem eqIntSS_ret (a:List (List Int)) (h:a.length<=4000000) (hr:∀ i:Nat,(a.getD i default).length<=4000000):Ret (F_laws_eqIntSS a a) (· = true):=by
 unfold F_laws_eqIntSS
 refine .bif (fun h=>by simp at h) fun _ => ?_
 refine Ret.sum (PS:=fun _=>True) (PW:=(· = true)) ((eqLoop (a:=a) (b:=a) rfl (bad:=false) (fun i h1 h2 => ?_) fun i hi => ?_).mono fun v hv=>by rw [hv,if_pos rfl];trivial) fun _ _ => .pure rfl
 ·unfold F_laws_eqIntSS_L6
  exact .bifD (fun _ => .gdD ⟨h1,h2⟩ (.gdD ⟨h1,h2⟩ ((eqIntS_ret _ (hr _)).bind fun v hv => .bif (fun h=>by rw [hv] at h;simp at h) fun _ => .gdI (by omega) (.pure (by rw [if_pos rfl]))))) fun h=>absurd h2 h
 ·unfold F_laws_eqIntSS_L6
  rw [decide_eq_false hi]
  rfl
theorem eqExec_ret {x:ZEx} (h:EB x):Ret (F_laws_eqExec x x) (· = true):=by
 unfold F_laws_eqExec
 refine (eqIntS_ret _ h.1).bind fun v hv => .bif (fun h=>by rw [hv] at h;simp at h) fun _ => ?_
 exact (eqIntSS_ret _ h.2.1 h.2.2).bind fun v hv => .bif (fun h=>by rw [hv] at h;simp at h) fun _ => .pure rfl
theorem szI (a:List Int) (left:Int) (hl:0<=left/\left<=1048576) (ha:(a.length:Int)<=9223372036854775807):Ret (F_laws_szIntS a left) fun v=>(v<0/\left<(a.length:Int))\/(0<=v/\v=left-(a.length:Int)):=by
 unfold F_laws_szIntS
 exact .gdI (by omega) (.bifD (fun h => .pure (.inl ⟨by decide,by omega⟩)) fun h => .pure (.inr ⟨by omega,rfl⟩))
theorem szISS (a:List (List Int)) (left:Int) (hl:0<=left/\left<=1048576) (ha:(a.length:Int)<=9223372036854775807/\∀ r∈a,(r.length:Int)<=9223372036854775807):Ret (F_laws_szIntSS a left) fun v=>v<0\/(0<=v/\(a.length:Int)+(total a:Int)<=left):=by
 unfold F_laws_szIntSS
 refine .gdI (by omega) (.bifD (fun h => .pure (.inl (by decide))) fun h => ?_)
 refine Ret.sum (PS:=fun s:Int=>0<=s/\(a.length:Int)+(total a:Int)<=left) (PW:=fun v:Int=>v<0\/(0<=v/\(a.length:Int)+(total a:Int)<=left)) ?_ fun s hs => .pure (.inr hs)
 refine Ret.loop (fun s:Int×Int=>∃ n:Nat,n<=a.length/\s.1=(n:Int)/\0<=s.2/\s.2=left-(a.length:Int)-(total (a.take n):Int)) (fun s=>((a.length:Int)-s.1).toNat) ⟨0,by omega,rfl,by simp only [];omega,by simp [total]⟩ fun s ⟨n,h1,h2,h3,h4⟩ => ?_
 unfold F_laws_szIntSS_L7
 refine .bifD (fun hk => ?_) fun hk => .pure ?_
 ·have hn:n<a.length:=by omega
  have e1:s.1.toNat=n:=by omega
  have e2:a.getD n default=a[n]:=by simp [hn]
  refine .gdD ⟨by omega,hk⟩ ?_
  rw [e1,e2]
  refine (szI a[n] s.2 ⟨h3,by omega⟩ (ha.2 _ (List.getElem_mem hn))).bind fun v hv => .bifD (fun h => .pure (.inl (by decide))) fun h => .gdI (by omega) (.pure ⟨⟨n+1,by omega,by simp only [];omega,by simp only [];omega,?_⟩,by simp only [];omega⟩)
  have ht:=total_take_succ a n hn
  simp only []
  rcases hv with hv | hv
  ·omega
  ·omega
 ·have : n=a.length:=by omega
  subst this
  rw [List.take_length] at h4
  exact ⟨h3,by omega⟩
theorem szX (a:Xlaws_Exec) (left:Int) (hl:0<=left/\left<=1048576) (hf:(a.From.length:Int)<=9223372036854775807) (ha:(a.Order.length:Int)<=9223372036854775807/\∀ r∈a.Order,(r.length:Int)<=9223372036854775807):Ret (F_laws_szExec a left) fun v=>v<0\/(0<=v/\(a.From.length:Int)+(a.Order.length:Int)+(total a.Order:Int)<=left):=by
 unfold F_laws_szExec
 refine (szI a.From left hl hf).bind fun v hv => .bifD (fun h => .pure (.inl (by decide))) fun h => ?_
 have hv2:0<=v/\v<=1048576/\v=left-(a.From.length:Int):=by omega
 refine (szISS a.Order v ⟨hv2.1,hv2.2.1⟩ ha).bind fun u hu => .bifD (fun h => .pure (.inl (by decide))) fun h => .pure ?_
 rcases hu with hu | hu
 ·exact .inl hu
 ·exact .inr ⟨hu.1,by omega⟩
theorem szEx {w:World} {lo hi:Nat} {v:Value} {x:ZEx} {left:Int} (h:SlX w lo hi v x) (hl:0<=left/\left<=1048576) :
  Calls Try.prog 23 #[v,.int .i64 left] w fun e w'=>(∃ r:Int,e = .returned (.int .i64 r)/\(r<0\/(0<=r/\(x.From.length:Int)+(x.Order.length:Int)+(total x.Order:Int)<=1048576)))/\Below w.heap.size w w':=by
 have hb:(x.From.length:Int)<=9223372036854775807/\(x.Order.length:Int)<=9223372036854775807/\∀ r∈x.Order,(r.length:Int)<=9223372036854775807:=by
  obtain ⟨v1,v2,_,⟨A,c,_,g1,g2,_⟩,⟨vs,⟨B,d,_,g3,g4,_⟩,g5,g6⟩⟩:=h
  refine ⟨by omega,by omega,fun r hr => ?_⟩
  obtain ⟨i,hi',rfl⟩:=List.getElem_of_mem hr
  obtain ⟨C,e,_,k1,k2,_⟩:=g6 i (by omega) hi'
  omega
 obtain ⟨r,hr,hP⟩:=szX ⟨x.From,x.Order⟩ left hl hb.1 hb.2
 have hrel:FRel w (fun g=>g<w.heap.size) (.agg (Xlaws_Exec.c ⟨x.From,x.Order⟩)) v:=frel_x h
 refine (calls_of_pure (F_laws_szExec_P _ _ hr) #[v,.int .i64 left] rfl (args2 hrel (.v rfl))).mono fun e w' ⟨u,fz',he,hb,hv⟩=>⟨⟨r,?_,?_⟩,hb⟩
 ·rw [he,frel_v hv]
 ·rcases hP with hP | hP
  ·exact .inl hP
  ·exact .inr ⟨hP.1,by have := hP.2;simp only at this;omega⟩
theorem eqEx {w:World} {lo hi lo' hi':Nat} {v v':Value} {x:ZEx} (hx:EB x) (h:SlX w lo hi v x) (h':SlX w lo' hi' v' x) :
  Calls Try.prog 27 #[v,v'] w fun e w'=>e = .returned (.bool true)/\Below w.heap.size w w':=
 law_of_pure (F_laws_eqExec_P _ _ (eqExec_ret hx).eq) rfl (args2 (frel_x h) (frel_x h'))
theorem implS {W:World} {p:List (List Ins)} {x:ZEx} {q:List Int} {bb:Bool} {lo hi lo' hi':Nat} {a c:Value} (hI:F_impl_ScheduleOf (ofP p) x=some (q,bb)) (h:SlSl Ins.cells 4 W lo hi a p) (h':SlX W lo' hi' c x) :
  Calls Try.prog 26 #[a,c] W fun e w'=>(∃ v0,e = .returned (.tuple #[v0,.bool bb])/\OwF w' W.heap.size w'.heap.size v0 q)/\Below W.heap.size W w':=
 calls_of_own (F_impl_ScheduleOf_OP _ _ hI) rfl (args2 (frel_ins h) (frel_x h'))
theorem specS {W:World} {p:List (List Ins)} {x:ZEx} {q:List Int} {bb:Bool} {lo hi lo' hi':Nat} {a c:Value} (hS:F_spec_ScheduleOf (ofP p) x=some (q,bb)) (h:SlSl Ins.cells 4 W lo hi a p) (h':SlX W lo' hi' c x) :
  Calls Try.prog 24 #[a,c] W fun e w'=>(∃ v0,e = .returned (.tuple #[v0,.bool bb])/\Sl int1 1 w' 0 w'.heap.size v0 q)/\Below W.heap.size W w':=by
 refine (calls_of_pure (F_spec_ScheduleOf_P _ _ hS) _ rfl (args2 (frel_ins h) (frel_x h'))).mono fun e w' ⟨v,fz',he,hb,hv⟩=>⟨?_,hb⟩
 cases hv with
 | @tup _ us hus hu=>
  obtain ⟨us⟩:=us
  match us,hus with
  | [v0,v1],_=>
   have h0:=hu 0 _ v0 rfl rfl
   obtain rfl:=frel_v (hu 1 _ v1 rfl rfl)
   exact ⟨v0,he,ints_of_frel h0⟩
theorem both_ins {p:List (List Ins)} {x:ZEx} (hl:p.length<=1048576) (ht:total p<=1048576) (hx:∀ r∈x.Order,r.length<=1048576) :
  ∃ r,F_impl_ScheduleOf (ofP p) x=some r/\F_spec_ScheduleOf (ofP p) x=some r/\r.1.length<=21:=by
 obtain ⟨l,b,h1,h2,h3⟩:=schedule_both (p:=ofP p) (x:=(x.From,x.Order)) ⟨by unfold ofP;rw [List.length_map];exact hl,by rw [show total (ofP p)=total p from by unfold ofP;rw [total_map]];exact ht⟩ hx
 exact ⟨(l,b),h1,h2,h3⟩
theorem row_le {x:List (List Int)} (ht:total x<=1048576):(∀ r∈x,r.length<=1048576)/\∀ i:Nat,(x.getD i default).length<=4000000:=by
 have h:∀ r∈x,r.length<=1048576:=fun r hr=>by
  obtain ⟨i,hi,rfl⟩:=List.getElem_of_mem hr
  exact Nat.le_trans (row_le_total x i hi) ht
 refine ⟨h,fun i => ?_⟩
 by_cases hi:i<x.length
 ·have := h _ (getD_in hi)
  omega
 ·rw [List.getD_eq_getElem?_getD,List.getElem?_eq_none (by omega)]
  exact Nat.zero_le _
theorem toEx {W:World} {lo hi:Nat} {x:ZEx} {A A':Option Addr} {n c n' c':Nat} (h:SlX W lo hi (.agg #[.slice A n c,.slice A' n' c']) x) (k:hi<=W.heap.size) (hl:x.From.length<=1048576) (hl2:x.Order.length<=1048576) (ht:total x.Order<=1048576) :
  Calls Try.prog 25 #[.agg #[.slice A n c,.slice A' n' c']] W fun e w'=>(∃ A1 n1 c1 A2 n2 c2,e = .returned (.agg #[.slice A1 n1 c1,.slice A2 n2 c2])/\OwX w' W.heap.size w'.heap.size (.agg #[.slice A1 n1 c1,.slice A2 n2 c2]) x)/\Below W.heap.size W w':=by
 obtain ⟨v1,v2,e,h1,h2⟩:=h
 simp only [Value.agg.injEq,Array.mk.injEq,List.cons.injEq,and_true] at e
 obtain ⟨rfl,rfl⟩:=e
 exact toExec_any h1 h2 k hl hl2 ht
set_option maxHeartbeats 4000000 in
theorem law_FnExactScheduleOf {u v:Value} {p:List (List Ins)} {x:ZEx} {w:World} (hu:SlSl Ins.cells 4 w 0 w.heap.size u p) (hv:SlX w 0 w.heap.size v x) :
  Calls Try.prog 4 #[u,v] w fun e w'=>e = .returned (.bool true)/\Below w.heap.size w w':=by
 obtain ⟨A9,n9,c9,A8,n8,c8,rfl⟩:=hv.form
 have RP:=Lib.hid hu;clear hu
 have RX:=Lib.hid hv;clear hv
 have G:=Lib.hid (Below.refl w.heap.size w)
 go_enter Try.func4,Try.ntmps4
 go_wp2_with fail
 obtain ⟨w1,hw1⟩:∃ x,x=w.alloc (Obj.cells #[.slice A9 n9 c9,.slice A8 n8 c8] 39):=⟨_,rfl⟩
 rw [<- hw1]
 have hb1:Below w.heap.size w w1:=hw1 ▸ (Below.refl _ _).alloc (Nat.le_refl _) _
 have LA:=Lib.hid (show Blk w1 w.heap.size 39 #[.slice A9 n9 c9,.slice A8 n8 c8] from hw1 ▸ Blk.new _ _ _)
 clear hw1
 have s1:=hb1.size
 have sl1:=Blk.lt LA.out
 replace RP:=Lib.hid (RP.out.below hb1 (by omega))
 replace RX:=Lib.hid (RX.out.below hb1 (by omega))
 replace G:=Lib.hid (G.out.trans (hb1.mono G.out.size))
 have LA0:w1.cell? ⟨w.heap.size,0,none⟩=some (.slice A9 n9 c9):=Blk.cell LA.out 0
 have LA1:w1.cell? ⟨w.heap.size,1,none⟩=some (.slice A8 n8 c8):=Blk.cell LA.out 1
 have LA2:=Blk.frozen LA.out 0
 have LA3:=Blk.frozen LA.out 1
 have LA4:∀ ob:Obj,(w1.alloc ob).cell? ⟨w.heap.size,0,none⟩=some (.slice A9 n9 c9):=fun ob=>Blk.cell (Blk.alloc LA.out ob) 0
 have LA5:∀ ob:Obj,(w1.alloc ob).cell? ⟨w.heap.size,1,none⟩=some (.slice A8 n8 c8):=fun ob=>Blk.cell (Blk.alloc LA.out ob) 1
 try (go_wp2_with fail)
 clear LA0 LA1 LA2 LA3 LA4 LA5
 refine (szInstrSSr_any RP.out).mono ?_
 rintro e w2 ⟨⟨r,rfl,hr⟩,hb2⟩
 have s2:=hb2.size
 replace RP:=Lib.hid (RP.out.below hb2 (by omega))
 replace RX:=Lib.hid (RX.out.below hb2 (by omega))
 replace LA:=Lib.hid (LA.out.below hb2 (by omega))
 replace G:=Lib.hid (G.out.trans (hb2.mono G.out.size))
 rcases hr with hr | ⟨hr0,hr2,hsz⟩
 ·go_wp2_with fail
  go_ret
  exact ⟨rfl,G.out⟩
 have hr1 : ¬ r<0:=by omega
 have ht:total p<=1048576:=by omega
 have hpl:p.length<=1048576:=by omega
 clear hsz
 have LA0:w2.cell? ⟨w.heap.size,0,none⟩=some (.slice A9 n9 c9):=Blk.cell LA.out 0
 have LA1:w2.cell? ⟨w.heap.size,1,none⟩=some (.slice A8 n8 c8):=Blk.cell LA.out 1
 have LA2:=Blk.frozen LA.out 0
 have LA3:=Blk.frozen LA.out 1
 have LA4:∀ ob:Obj,(w2.alloc ob).cell? ⟨w.heap.size,0,none⟩=some (.slice A9 n9 c9):=fun ob=>Blk.cell (Blk.alloc LA.out ob) 0
 have LA5:∀ ob:Obj,(w2.alloc ob).cell? ⟨w.heap.size,1,none⟩=some (.slice A8 n8 c8):=fun ob=>Blk.cell (Blk.alloc LA.out ob) 1
 go_wp2_with fail
 clear LA0 LA1 LA2 LA3 LA4 LA5
 refine (szEx RX.out ⟨hr0,hr2⟩).mono ?_
 rintro e w3 ⟨⟨r9,rfl,hr9⟩,hb3⟩
 have s3:=hb3.size
 replace RP:=Lib.hid (RP.out.below hb3 (by omega))
 replace RX:=Lib.hid (RX.out.below hb3 (by omega))
 replace LA:=Lib.hid (LA.out.below hb3 (by omega))
 replace G:=Lib.hid (G.out.trans (hb3.mono G.out.size))
 rcases hr9 with hr9 | ⟨hr90,hsz⟩
 ·go_wp2_with fail
  go_ret
  exact ⟨rfl,G.out⟩
 have hr91 : ¬ r9<0:=by omega
 have hxf:x.From.length<=1048576:=by omega
 have hxo:x.Order.length<=1048576:=by omega
 have hxt:total x.Order<=1048576:=by omega
 clear hr90 hsz hr0 hr2
 have hrow:=row_le hxt
 have HEB:=Lib.hid (show EB x from ⟨by omega,by omega,hrow.2⟩)
 obtain ⟨⟨q,bb⟩,hI,hS,hq⟩:=both_ins (p:=p) (x:=x) hpl ht hrow.1
 have HIM:=Lib.hid (fun (W:World) lo hi a (h:SlSl Ins.cells 4 W lo hi a p) lo' hi' c (h':SlX W lo' hi' c x)=>implS (W:=W) hI h h')
 have HSP:=Lib.hid (fun (W:World) lo hi a (h:SlSl Ins.cells 4 W lo hi a p) lo' hi' c (h':SlX W lo' hi' c x)=>specS (W:=W) hS h h')
 have HTX:=Lib.hid (fun (W:World) lo hi A n c A' n' c' (h:SlX W lo hi (.agg #[.slice A n c,.slice A' n' c']) x) (k:hi<=W.heap.size)=>toEx (W:=W) h k hxf hxo hxt)
 simp only at hq
 clear hI hS hrow
 have d1:decide (q=q)=true:=by simp
 have d2:decide (p=p)=true:=by simp
 have LA0:w3.cell? ⟨w.heap.size,0,none⟩=some (.slice A9 n9 c9):=Blk.cell LA.out 0
 have LA1:w3.cell? ⟨w.heap.size,1,none⟩=some (.slice A8 n8 c8):=Blk.cell LA.out 1
 have LA2:=Blk.frozen LA.out 0
 have LA3:=Blk.frozen LA.out 1
 have LA4:∀ ob:Obj,(w3.alloc ob).cell? ⟨w.heap.size,0,none⟩=some (.slice A9 n9 c9):=fun ob=>Blk.cell (Blk.alloc LA.out ob) 0
 have LA5:∀ ob:Obj,(w3.alloc ob).cell? ⟨w.heap.size,1,none⟩=some (.slice A8 n8 c8):=fun ob=>Blk.cell (Blk.alloc LA.out ob) 1
 go_wp2_with fail
 clear LA0 LA1 LA2 LA3 LA4 LA5
 have hbd3:Below w3.heap.size w3 w3.drew:=(Below.refl _ _).drew
 have sd3:=hbd3.size
 replace RP:=Lib.hid (RP.out.below hbd3 (by omega))
 replace RX:=Lib.hid (RX.out.below hbd3 (by omega))
 replace LA:=Lib.hid (LA.out.below hbd3 (by omega))
 replace G:=Lib.hid (G.out.trans (hbd3.mono G.out.size))
 go_region_held3 (fun w'=>w'.cell? ⟨w.heap.size,0,none⟩=some (.slice A9 n9 c9)/\w'.cell? ⟨w.heap.size,1,none⟩=some (.slice A8 n8 c8))
  (first | exact ⟨Blk.cell LA.out 0,Blk.cell LA.out 1⟩ | exact ⟨Blk.cell LA.out 0,Blk.cell LA.out 1⟩)
  (first | (go_at_call 13;refine (toInstrSS_any RP.out (by omega) hpl ht).mono ?_;rintro e w4 ⟨⟨t2,rfl,hT2⟩,hb4⟩;have T2:=Lib.hid hT2;clear hT2;have s4:=hb4.size;replace RP:=Lib.hid (RP.out.below hb4 (by omega));replace RX:=Lib.hid (RX.out.below hb4 (by omega));replace LA:=Lib.hid (LA.out.below hb4 (by omega));replace G:=Lib.hid (G.out.trans (hb4.mono G.out.size))) | (go_at_call 25;refine (HTX.out _ _ _ _ _ _ _ _ _ RX.out (by omega)).mono ?_;rintro e w5 ⟨⟨a3,b3,c3,d3,e3,f3,rfl,hT3⟩,hb5⟩;have T3:=Lib.hid hT3;clear hT3;have s5:=hb5.size;replace RP:=Lib.hid (RP.out.below hb5 (by omega));replace RX:=Lib.hid (RX.out.below hb5 (by omega));replace LA:=Lib.hid (LA.out.below hb5 (by omega));replace T2:=Lib.hid (T2.out.below hb5 (by omega));replace G:=Lib.hid (G.out.trans (hb5.mono G.out.size))) | (go_at_call 24;refine (HSP.out _ _ _ _ T2.out.sl _ _ _ T3.out.slX).mono ?_;rintro e w6 ⟨⟨v0,rfl,hV0⟩,hb6⟩;have V0:=Lib.hid hV0;clear hV0;have s6:=hb6.size;replace RP:=Lib.hid (RP.out.below hb6 (by omega));replace RX:=Lib.hid (RX.out.below hb6 (by omega));replace LA:=Lib.hid (LA.out.below hb6 (by omega));replace T2:=Lib.hid (T2.out.below hb6 (by omega));replace T3:=Lib.hid (T3.out.below hb6 (by omega));replace G:=Lib.hid (G.out.trans (hb6.mono G.out.size));clear T2;clear T3))
 have LA0:w6.cell? ⟨w.heap.size,0,none⟩=some (.slice A9 n9 c9):=Blk.cell LA.out 0
 have LA1:w6.cell? ⟨w.heap.size,1,none⟩=some (.slice A8 n8 c8):=Blk.cell LA.out 1
 have LA2:=Blk.frozen LA.out 0
 have LA3:=Blk.frozen LA.out 1
 have LA4:∀ ob:Obj,(w6.alloc ob).cell? ⟨w.heap.size,0,none⟩=some (.slice A9 n9 c9):=fun ob=>Blk.cell (Blk.alloc LA.out ob) 0
 have LA5:∀ ob:Obj,(w6.alloc ob).cell? ⟨w.heap.size,1,none⟩=some (.slice A8 n8 c8):=fun ob=>Blk.cell (Blk.alloc LA.out ob) 1
 go_wp2_with fail
 clear LA0 LA1 LA2 LA3 LA4 LA5
 refine (toInstrSS_any RP.out (by omega) hpl ht).mono ?_
 rintro e w7 ⟨⟨x0,rfl,hX0⟩,hb7⟩
 have X0:=Lib.hid hX0;clear hX0
 have s7:=hb7.size
 replace RP:=Lib.hid (RP.out.below hb7 (by omega))
 replace RX:=Lib.hid (RX.out.below hb7 (by omega))
 replace LA:=Lib.hid (LA.out.below hb7 (by omega))
 replace V0:=Lib.hid (V0.out.below hb7 (by omega))
 replace G:=Lib.hid (G.out.trans (hb7.mono G.out.size))
 have LA0:w7.cell? ⟨w.heap.size,0,none⟩=some (.slice A9 n9 c9):=Blk.cell LA.out 0
 have LA1:w7.cell? ⟨w.heap.size,1,none⟩=some (.slice A8 n8 c8):=Blk.cell LA.out 1
 have LA2:=Blk.frozen LA.out 0
 have LA3:=Blk.frozen LA.out 1
 have LA4:∀ ob:Obj,(w7.alloc ob).cell? ⟨w.heap.size,0,none⟩=some (.slice A9 n9 c9):=fun ob=>Blk.cell (Blk.alloc LA.out ob) 0
 have LA5:∀ ob:Obj,(w7.alloc ob).cell? ⟨w.heap.size,1,none⟩=some (.slice A8 n8 c8):=fun ob=>Blk.cell (Blk.alloc LA.out ob) 1
 go_wp2_with fail
 clear LA0 LA1 LA2 LA3 LA4 LA5
 refine (HTX.out _ _ _ _ _ _ _ _ _ RX.out (by omega)).mono ?_
 rintro e w8 ⟨⟨a1,b1,c1,d1',e1,f1,rfl,hX1⟩,hb8⟩
 have X1:=Lib.hid hX1;clear hX1
 have s8:=hb8.size
 replace RP:=Lib.hid (RP.out.below hb8 (by omega))
 replace RX:=Lib.hid (RX.out.below hb8 (by omega))
 replace LA:=Lib.hid (LA.out.below hb8 (by omega))
 replace V0:=Lib.hid (V0.out.below hb8 (by omega))
 replace X0:=Lib.hid (X0.out.below hb8 (by omega))
 replace G:=Lib.hid (G.out.trans (hb8.mono G.out.size))
 have LA0:w8.cell? ⟨w.heap.size,0,none⟩=some (.slice A9 n9 c9):=Blk.cell LA.out 0
 have LA1:w8.cell? ⟨w.heap.size,1,none⟩=some (.slice A8 n8 c8):=Blk.cell LA.out 1
 have LA2:=Blk.frozen LA.out 0
 have LA3:=Blk.frozen LA.out 1
 have LA4:∀ ob:Obj,(w8.alloc ob).cell? ⟨w.heap.size,0,none⟩=some (.slice A9 n9 c9):=fun ob=>Blk.cell (Blk.alloc LA.out ob) 0
 have LA5:∀ ob:Obj,(w8.alloc ob).cell? ⟨w.heap.size,1,none⟩=some (.slice A8 n8 c8):=fun ob=>Blk.cell (Blk.alloc LA.out ob) 1
 go_wp2_with fail
 clear LA0 LA1 LA2 LA3 LA4 LA5
 obtain ⟨w9,hw9⟩:∃ x,x=w8.alloc (Obj.cells #[.slice a1 b1 c1,.slice d1' e1 f1] 43):=⟨_,rfl⟩
 rw [<- hw9]
 have hb9:Below w8.heap.size w8 w9:=hw9 ▸ (Below.refl _ _).alloc (Nat.le_refl _) _
 have LX:=Lib.hid (show Blk w9 w8.heap.size 43 #[.slice a1 b1 c1,.slice d1' e1 f1] from hw9 ▸ Blk.new _ _ _)
 clear hw9
 have s9:=hb9.size
 have sl9:=Blk.lt LX.out
 replace RP:=Lib.hid (RP.out.below hb9 (by omega))
 replace RX:=Lib.hid (RX.out.below hb9 (by omega))
 replace LA:=Lib.hid (LA.out.below hb9 (by omega))
 replace V0:=Lib.hid (V0.out.below hb9 (by omega))
 replace X0:=Lib.hid (X0.out.below hb9 (by omega))
 replace X1:=Lib.hid (X1.out.below hb9 (by omega))
 replace G:=Lib.hid (G.out.trans (hb9.mono G.out.size))
 have LA0:w9.cell? ⟨w.heap.size,0,none⟩=some (.slice A9 n9 c9):=Blk.cell LA.out 0
 have LA1:w9.cell? ⟨w.heap.size,1,none⟩=some (.slice A8 n8 c8):=Blk.cell LA.out 1
 have LA2:=Blk.frozen LA.out 0
 have LA3:=Blk.frozen LA.out 1
 have LA4:∀ ob:Obj,(w9.alloc ob).cell? ⟨w.heap.size,0,none⟩=some (.slice A9 n9 c9):=fun ob=>Blk.cell (Blk.alloc LA.out ob) 0
 have LA5:∀ ob:Obj,(w9.alloc ob).cell? ⟨w.heap.size,1,none⟩=some (.slice A8 n8 c8):=fun ob=>Blk.cell (Blk.alloc LA.out ob) 1
 have LX0:w9.cell? ⟨w8.heap.size,0,none⟩=some (.slice a1 b1 c1):=Blk.cell LX.out 0
 have LX1:w9.cell? ⟨w8.heap.size,1,none⟩=some (.slice d1' e1 f1):=Blk.cell LX.out 1
 have LX2:=Blk.frozen LX.out 0
 have LX3:=Blk.frozen LX.out 1
 have LX4:∀ ob:Obj,(w9.alloc ob).cell? ⟨w8.heap.size,0,none⟩=some (.slice a1 b1 c1):=fun ob=>Blk.cell (Blk.alloc LX.out ob) 0
 have LX5:∀ ob:Obj,(w9.alloc ob).cell? ⟨w8.heap.size,1,none⟩=some (.slice d1' e1 f1):=fun ob=>Blk.cell (Blk.alloc LX.out ob) 1
 try (go_wp2_with fail)
 clear LA0 LA1 LA2 LA3 LA4 LA5
 clear LX0 LX1 LX2 LX3 LX4 LX5
 refine (HIM.out _ _ _ _ X0.out.sl _ _ _ X1.out.slX).mono ?_
 rintro e w10 ⟨⟨g0,rfl,hG0⟩,hb10⟩
 have G0:=Lib.hid hG0;clear hG0
 have s10:=hb10.size
 replace RP:=Lib.hid (RP.out.below hb10 (by omega))
 replace RX:=Lib.hid (RX.out.below hb10 (by omega))
 replace LA:=Lib.hid (LA.out.below hb10 (by omega))
 replace V0:=Lib.hid (V0.out.below hb10 (by omega))
 replace X0:=Lib.hid (X0.out.below hb10 (by omega))
 replace X1:=Lib.hid (X1.out.below hb10 (by omega))
 replace LX:=Lib.hid (LX.out.below hb10 (by omega))
 replace G:=Lib.hid (G.out.trans (hb10.mono G.out.size))
 have LA0:w10.cell? ⟨w.heap.size,0,none⟩=some (.slice A9 n9 c9):=Blk.cell LA.out 0
 have LA1:w10.cell? ⟨w.heap.size,1,none⟩=some (.slice A8 n8 c8):=Blk.cell LA.out 1
 have LA2:=Blk.frozen LA.out 0
 have LA3:=Blk.frozen LA.out 1
 have LA4:∀ ob:Obj,(w10.alloc ob).cell? ⟨w.heap.size,0,none⟩=some (.slice A9 n9 c9):=fun ob=>Blk.cell (Blk.alloc LA.out ob) 0
 have LA5:∀ ob:Obj,(w10.alloc ob).cell? ⟨w.heap.size,1,none⟩=some (.slice A8 n8 c8):=fun ob=>Blk.cell (Blk.alloc LA.out ob) 1
 have LX0:w10.cell? ⟨w8.heap.size,0,none⟩=some (.slice a1 b1 c1):=Blk.cell LX.out 0
 have LX1:w10.cell? ⟨w8.heap.size,1,none⟩=some (.slice d1' e1 f1):=Blk.cell LX.out 1
 have LX2:=Blk.frozen LX.out 0
 have LX3:=Blk.frozen LX.out 1
 have LX4:∀ ob:Obj,(w10.alloc ob).cell? ⟨w8.heap.size,0,none⟩=some (.slice a1 b1 c1):=fun ob=>Blk.cell (Blk.alloc LX.out ob) 0
 have LX5:∀ ob:Obj,(w10.alloc ob).cell? ⟨w8.heap.size,1,none⟩=some (.slice d1' e1 f1):=fun ob=>Blk.cell (Blk.alloc LX.out ob) 1
 go_wp2_with fail
 clear LA0 LA1 LA2 LA3 LA4 LA5
 clear LX0 LX1 LX2 LX3 LX4 LX5
 refine (eqIntS_any G0.out.sl V0.out).mono ?_
 rintro e w11 ⟨rfl,hb11⟩
 have s11:=hb11.size
 replace RP:=Lib.hid (RP.out.below hb11 (by omega))
 replace RX:=Lib.hid (RX.out.below hb11 (by omega))
 replace LA:=Lib.hid (LA.out.below hb11 (by omega))
 replace V0:=Lib.hid (V0.out.below hb11 (by omega))
 replace X0:=Lib.hid (X0.out.below hb11 (by omega))
 replace X1:=Lib.hid (X1.out.below hb11 (by omega))
 replace LX:=Lib.hid (LX.out.below hb11 (by omega))
 replace G0:=Lib.hid (G0.out.below hb11 (by omega))
 replace G:=Lib.hid (G.out.trans (hb11.mono G.out.size))
 have LA0:w11.cell? ⟨w.heap.size,0,none⟩=some (.slice A9 n9 c9):=Blk.cell LA.out 0
 have LA1:w11.cell? ⟨w.heap.size,1,none⟩=some (.slice A8 n8 c8):=Blk.cell LA.out 1
 have LA2:=Blk.frozen LA.out 0
 have LA3:=Blk.frozen LA.out 1
 have LA4:∀ ob:Obj,(w11.alloc ob).cell? ⟨w.heap.size,0,none⟩=some (.slice A9 n9 c9):=fun ob=>Blk.cell (Blk.alloc LA.out ob) 0
 have LA5:∀ ob:Obj,(w11.alloc ob).cell? ⟨w.heap.size,1,none⟩=some (.slice A8 n8 c8):=fun ob=>Blk.cell (Blk.alloc LA.out ob) 1
 have LX0:w11.cell? ⟨w8.heap.size,0,none⟩=some (.slice a1 b1 c1):=Blk.cell LX.out 0
 have LX1:w11.cell? ⟨w8.heap.size,1,none⟩=some (.slice d1' e1 f1):=Blk.cell LX.out 1
 have LX2:=Blk.frozen LX.out 0
 have LX3:=Blk.frozen LX.out 1
 have LX4:∀ ob:Obj,(w11.alloc ob).cell? ⟨w8.heap.size,0,none⟩=some (.slice a1 b1 c1):=fun ob=>Blk.cell (Blk.alloc LX.out ob) 0
 have LX5:∀ ob:Obj,(w11.alloc ob).cell? ⟨w8.heap.size,1,none⟩=some (.slice d1' e1 f1):=fun ob=>Blk.cell (Blk.alloc LX.out ob) 1
 go_wp2_with fail
 clear LA0 LA1 LA2 LA3 LA4 LA5
 clear LX0 LX1 LX2 LX3 LX4 LX5
 refine (toInstrSS_any RP.out (by omega) hpl ht).mono ?_
 rintro e w12 ⟨⟨y0,rfl,hY0⟩,hb12⟩
 have Y0:=Lib.hid hY0;clear hY0
 have s12:=hb12.size
 replace RP:=Lib.hid (RP.out.below hb12 (by omega))
 replace RX:=Lib.hid (RX.out.below hb12 (by omega))
 replace LA:=Lib.hid (LA.out.below hb12 (by omega))
 replace V0:=Lib.hid (V0.out.below hb12 (by omega))
 replace X0:=Lib.hid (X0.out.below hb12 (by omega))
 replace X1:=Lib.hid (X1.out.below hb12 (by omega))
 replace LX:=Lib.hid (LX.out.below hb12 (by omega))
 replace G0:=Lib.hid (G0.out.below hb12 (by omega))
 replace G:=Lib.hid (G.out.trans (hb12.mono G.out.size))
 have LA0:w12.cell? ⟨w.heap.size,0,none⟩=some (.slice A9 n9 c9):=Blk.cell LA.out 0
 have LA1:w12.cell? ⟨w.heap.size,1,none⟩=some (.slice A8 n8 c8):=Blk.cell LA.out 1
 have LA2:=Blk.frozen LA.out 0
 have LA3:=Blk.frozen LA.out 1
 have LA4:∀ ob:Obj,(w12.alloc ob).cell? ⟨w.heap.size,0,none⟩=some (.slice A9 n9 c9):=fun ob=>Blk.cell (Blk.alloc LA.out ob) 0
 have LA5:∀ ob:Obj,(w12.alloc ob).cell? ⟨w.heap.size,1,none⟩=some (.slice A8 n8 c8):=fun ob=>Blk.cell (Blk.alloc LA.out ob) 1
 have LX0:w12.cell? ⟨w8.heap.size,0,none⟩=some (.slice a1 b1 c1):=Blk.cell LX.out 0
 have LX1:w12.cell? ⟨w8.heap.size,1,none⟩=some (.slice d1' e1 f1):=Blk.cell LX.out 1
 have LX2:=Blk.frozen LX.out 0
 have LX3:=Blk.frozen LX.out 1
 have LX4:∀ ob:Obj,(w12.alloc ob).cell? ⟨w8.heap.size,0,none⟩=some (.slice a1 b1 c1):=fun ob=>Blk.cell (Blk.alloc LX.out ob) 0
 have LX5:∀ ob:Obj,(w12.alloc ob).cell? ⟨w8.heap.size,1,none⟩=some (.slice d1' e1 f1):=fun ob=>Blk.cell (Blk.alloc LX.out ob) 1
 go_wp2_with fail
 clear LA0 LA1 LA2 LA3 LA4 LA5
 clear LX0 LX1 LX2 LX3 LX4 LX5
 refine (eqInstrSS_any X0.out.sl Y0.out.sl (by omega) (by omega)).mono ?_
 rintro e w13 ⟨rfl,hb13⟩
 have s13:=hb13.size
 replace RP:=Lib.hid (RP.out.below hb13 (by omega))
 replace RX:=Lib.hid (RX.out.below hb13 (by omega))
 replace LA:=Lib.hid (LA.out.below hb13 (by omega))
 replace V0:=Lib.hid (V0.out.below hb13 (by omega))
 replace X0:=Lib.hid (X0.out.below hb13 (by omega))
 replace X1:=Lib.hid (X1.out.below hb13 (by omega))
 replace LX:=Lib.hid (LX.out.below hb13 (by omega))
 replace G0:=Lib.hid (G0.out.below hb13 (by omega))
 replace Y0:=Lib.hid (Y0.out.below hb13 (by omega))
 replace G:=Lib.hid (G.out.trans (hb13.mono G.out.size))
 clear Y0
 have LA0:w13.cell? ⟨w.heap.size,0,none⟩=some (.slice A9 n9 c9):=Blk.cell LA.out 0
 have LA1:w13.cell? ⟨w.heap.size,1,none⟩=some (.slice A8 n8 c8):=Blk.cell LA.out 1
 have LA2:=Blk.frozen LA.out 0
 have LA3:=Blk.frozen LA.out 1
 have LA4:∀ ob:Obj,(w13.alloc ob).cell? ⟨w.heap.size,0,none⟩=some (.slice A9 n9 c9):=fun ob=>Blk.cell (Blk.alloc LA.out ob) 0
 have LA5:∀ ob:Obj,(w13.alloc ob).cell? ⟨w.heap.size,1,none⟩=some (.slice A8 n8 c8):=fun ob=>Blk.cell (Blk.alloc LA.out ob) 1
 have LX0:w13.cell? ⟨w8.heap.size,0,none⟩=some (.slice a1 b1 c1):=Blk.cell LX.out 0
 have LX1:w13.cell? ⟨w8.heap.size,1,none⟩=some (.slice d1' e1 f1):=Blk.cell LX.out 1
 have LX2:=Blk.frozen LX.out 0
 have LX3:=Blk.frozen LX.out 1
 have LX4:∀ ob:Obj,(w13.alloc ob).cell? ⟨w8.heap.size,0,none⟩=some (.slice a1 b1 c1):=fun ob=>Blk.cell (Blk.alloc LX.out ob) 0
 have LX5:∀ ob:Obj,(w13.alloc ob).cell? ⟨w8.heap.size,1,none⟩=some (.slice d1' e1 f1):=fun ob=>Blk.cell (Blk.alloc LX.out ob) 1
 go_wp2_with fail
 clear LA0 LA1 LA2 LA3 LA4 LA5
 clear LX0 LX1 LX2 LX3 LX4 LX5
 have hbd13:Below w13.heap.size w13 w13.drew:=(Below.refl _ _).drew
 have sd13:=hbd13.size
 replace RP:=Lib.hid (RP.out.below hbd13 (by omega))
 replace RX:=Lib.hid (RX.out.below hbd13 (by omega))
 replace LA:=Lib.hid (LA.out.below hbd13 (by omega))
 replace V0:=Lib.hid (V0.out.below hbd13 (by omega))
 replace X0:=Lib.hid (X0.out.below hbd13 (by omega))
 replace X1:=Lib.hid (X1.out.below hbd13 (by omega))
 replace LX:=Lib.hid (LX.out.below hbd13 (by omega))
 replace G0:=Lib.hid (G0.out.below hbd13 (by omega))
 replace G:=Lib.hid (G.out.trans (hbd13.mono G.out.size))
 go_region_held3 (fun w'=>w'.cell? ⟨w.heap.size,0,none⟩=some (.slice A9 n9 c9)/\w'.cell? ⟨w.heap.size,1,none⟩=some (.slice A8 n8 c8)/\w'.cell? ⟨w8.heap.size,0,none⟩=some (.slice a1 b1 c1)/\w'.cell? ⟨w8.heap.size,1,none⟩=some (.slice d1' e1 f1))
  (first | exact ⟨Blk.cell LA.out 0,Blk.cell LA.out 1,Blk.cell LX.out 0,Blk.cell LX.out 1⟩ | exact ⟨Blk.cell LA.out 0,Blk.cell LA.out 1,Blk.cell LX.out 0,Blk.cell LX.out 1⟩)
  (first | (go_at_call 25;refine (HTX.out _ _ _ _ _ _ _ _ _ RX.out (by omega)).mono ?_;rintro e w14 ⟨⟨a4,b4,c4,d4,e4,f4,rfl,hY1⟩,hb14⟩;have Y1:=Lib.hid hY1;clear hY1;have s14:=hb14.size;replace RP:=Lib.hid (RP.out.below hb14 (by omega));replace RX:=Lib.hid (RX.out.below hb14 (by omega));replace LA:=Lib.hid (LA.out.below hb14 (by omega));replace V0:=Lib.hid (V0.out.below hb14 (by omega));replace X0:=Lib.hid (X0.out.below hb14 (by omega));replace X1:=Lib.hid (X1.out.below hb14 (by omega));replace LX:=Lib.hid (LX.out.below hb14 (by omega));replace G0:=Lib.hid (G0.out.below hb14 (by omega));replace G:=Lib.hid (G.out.trans (hb14.mono G.out.size))) | (go_at_call 27;refine (eqEx HEB.out X1.out.slX Y1.out.slX).mono ?_;rintro e w15 ⟨rfl,hb15⟩;have s15:=hb15.size;replace RP:=Lib.hid (RP.out.below hb15 (by omega));replace RX:=Lib.hid (RX.out.below hb15 (by omega));replace LA:=Lib.hid (LA.out.below hb15 (by omega));replace V0:=Lib.hid (V0.out.below hb15 (by omega));replace X0:=Lib.hid (X0.out.below hb15 (by omega));replace X1:=Lib.hid (X1.out.below hb15 (by omega));replace LX:=Lib.hid (LX.out.below hb15 (by omega));replace G0:=Lib.hid (G0.out.below hb15 (by omega));replace Y1:=Lib.hid (Y1.out.below hb15 (by omega));replace G:=Lib.hid (G.out.trans (hb15.mono G.out.size));clear Y1))
 have LA0:w15.cell? ⟨w.heap.size,0,none⟩=some (.slice A9 n9 c9):=Blk.cell LA.out 0
 have LA1:w15.cell? ⟨w.heap.size,1,none⟩=some (.slice A8 n8 c8):=Blk.cell LA.out 1
 have LA2:=Blk.frozen LA.out 0
 have LA3:=Blk.frozen LA.out 1
 have LA4:∀ ob:Obj,(w15.alloc ob).cell? ⟨w.heap.size,0,none⟩=some (.slice A9 n9 c9):=fun ob=>Blk.cell (Blk.alloc LA.out ob) 0
 have LA5:∀ ob:Obj,(w15.alloc ob).cell? ⟨w.heap.size,1,none⟩=some (.slice A8 n8 c8):=fun ob=>Blk.cell (Blk.alloc LA.out ob) 1
 have LX0:w15.cell? ⟨w8.heap.size,0,none⟩=some (.slice a1 b1 c1):=Blk.cell LX.out 0
 have LX1:w15.cell? ⟨w8.heap.size,1,none⟩=some (.slice d1' e1 f1):=Blk.cell LX.out 1
 have LX2:=Blk.frozen LX.out 0
 have LX3:=Blk.frozen LX.out 1
 have LX4:∀ ob:Obj,(w15.alloc ob).cell? ⟨w8.heap.size,0,none⟩=some (.slice a1 b1 c1):=fun ob=>Blk.cell (Blk.alloc LX.out ob) 0
 have LX5:∀ ob:Obj,(w15.alloc ob).cell? ⟨w8.heap.size,1,none⟩=some (.slice d1' e1 f1):=fun ob=>Blk.cell (Blk.alloc LX.out ob) 1
 go_wp2_with fail
 clear LA0 LA1 LA2 LA3 LA4 LA5
 clear LX0 LX1 LX2 LX3 LX4 LX5
 refine (markInstrSS_any X0.out (by decide) (by omega) (by omega) (by omega)).mono ?_
 rintro e w16 ⟨rfl,_,hb16⟩
 have s16:=hb16.size
 replace RP:=Lib.hid (RP.out.fr hb16 (by omega))
 replace RX:=Lib.hid (RX.out.fr hb16 (by omega))
 replace LA:=Lib.hid (LA.out.fr hb16 (by omega))
 replace V0:=Lib.hid (V0.out.fr hb16 (by omega))
 replace X1:=Lib.hid (X1.out.fr hb16 (by omega))
 replace LX:=Lib.hid (LX.out.fr hb16 (by omega))
 replace G0:=Lib.hid (G0.out.fr hb16 (by omega))
 replace G:=Lib.hid (G.out.trans (hb16.below (by omega) G.out.size))
 have LA0:w16.cell? ⟨w.heap.size,0,none⟩=some (.slice A9 n9 c9):=Blk.cell LA.out 0
 have LA1:w16.cell? ⟨w.heap.size,1,none⟩=some (.slice A8 n8 c8):=Blk.cell LA.out 1
 have LA2:=Blk.frozen LA.out 0
 have LA3:=Blk.frozen LA.out 1
 have LA4:∀ ob:Obj,(w16.alloc ob).cell? ⟨w.heap.size,0,none⟩=some (.slice A9 n9 c9):=fun ob=>Blk.cell (Blk.alloc LA.out ob) 0
 have LA5:∀ ob:Obj,(w16.alloc ob).cell? ⟨w.heap.size,1,none⟩=some (.slice A8 n8 c8):=fun ob=>Blk.cell (Blk.alloc LA.out ob) 1
 have LX0:w16.cell? ⟨w8.heap.size,0,none⟩=some (.slice a1 b1 c1):=Blk.cell LX.out 0
 have LX1:w16.cell? ⟨w8.heap.size,1,none⟩=some (.slice d1' e1 f1):=Blk.cell LX.out 1
 have LX2:=Blk.frozen LX.out 0
 have LX3:=Blk.frozen LX.out 1
 have LX4:∀ ob:Obj,(w16.alloc ob).cell? ⟨w8.heap.size,0,none⟩=some (.slice a1 b1 c1):=fun ob=>Blk.cell (Blk.alloc LX.out ob) 0
 have LX5:∀ ob:Obj,(w16.alloc ob).cell? ⟨w8.heap.size,1,none⟩=some (.slice d1' e1 f1):=fun ob=>Blk.cell (Blk.alloc LX.out ob) 1
 go_wp2_with fail
 clear LA0 LA1 LA2 LA3 LA4 LA5
 clear LX0 LX1 LX2 LX3 LX4 LX5
 refine (markExec_any X1.out (by omega) (by omega) (by omega)).mono ?_
 rintro e w17 ⟨rfl,_,hb17⟩
 have s17:=hb17.size
 replace RP:=Lib.hid (RP.out.fr hb17 (by omega))
 replace RX:=Lib.hid (RX.out.fr hb17 (by omega))
 replace LA:=Lib.hid (LA.out.fr hb17 (by omega))
 replace V0:=Lib.hid (V0.out.fr hb17 (by omega))
 replace LX:=Lib.hid (LX.out.fr hb17 (by omega))
 replace G0:=Lib.hid (G0.out.fr hb17 (by omega))
 replace G:=Lib.hid (G.out.trans (hb17.below (by omega) G.out.size))
 have d8 : ¬ (1+4*(total p:Int)+(x.From.length:Int)+(total x.Order:Int))<0:=by omega
 have LA0:w17.cell? ⟨w.heap.size,0,none⟩=some (.slice A9 n9 c9):=Blk.cell LA.out 0
 have LA1:w17.cell? ⟨w.heap.size,1,none⟩=some (.slice A8 n8 c8):=Blk.cell LA.out 1
 have LA2:=Blk.frozen LA.out 0
 have LA3:=Blk.frozen LA.out 1
 have LA4:∀ ob:Obj,(w17.alloc ob).cell? ⟨w.heap.size,0,none⟩=some (.slice A9 n9 c9):=fun ob=>Blk.cell (Blk.alloc LA.out ob) 0
 have LA5:∀ ob:Obj,(w17.alloc ob).cell? ⟨w.heap.size,1,none⟩=some (.slice A8 n8 c8):=fun ob=>Blk.cell (Blk.alloc LA.out ob) 1
 have LX0:w17.cell? ⟨w8.heap.size,0,none⟩=some (.slice a1 b1 c1):=Blk.cell LX.out 0
 have LX1:w17.cell? ⟨w8.heap.size,1,none⟩=some (.slice d1' e1 f1):=Blk.cell LX.out 1
 have LX2:=Blk.frozen LX.out 0
 have LX3:=Blk.frozen LX.out 1
 have LX4:∀ ob:Obj,(w17.alloc ob).cell? ⟨w8.heap.size,0,none⟩=some (.slice a1 b1 c1):=fun ob=>Blk.cell (Blk.alloc LX.out ob) 0
 have LX5:∀ ob:Obj,(w17.alloc ob).cell? ⟨w8.heap.size,1,none⟩=some (.slice d1' e1 f1):=fun ob=>Blk.cell (Blk.alloc LX.out ob) 1
 go_wp2_with fail
 clear LA0 LA1 LA2 LA3 LA4 LA5
 clear LX0 LX1 LX2 LX3 LX4 LX5
 refine (eqIntS_any G0.out.sl V0.out).mono ?_
 rintro e w18 ⟨rfl,hb18⟩
 have s18:=hb18.size
 replace RP:=Lib.hid (RP.out.below hb18 (by omega))
 replace RX:=Lib.hid (RX.out.below hb18 (by omega))
 replace LA:=Lib.hid (LA.out.below hb18 (by omega))
 replace V0:=Lib.hid (V0.out.below hb18 (by omega))
 replace LX:=Lib.hid (LX.out.below hb18 (by omega))
 replace G0:=Lib.hid (G0.out.below hb18 (by omega))
 replace G:=Lib.hid (G.out.trans (hb18.mono G.out.size))
 have LA0:w18.cell? ⟨w.heap.size,0,none⟩=some (.slice A9 n9 c9):=Blk.cell LA.out 0
 have LA1:w18.cell? ⟨w.heap.size,1,none⟩=some (.slice A8 n8 c8):=Blk.cell LA.out 1
 have LA2:=Blk.frozen LA.out 0
 have LA3:=Blk.frozen LA.out 1
 have LA4:∀ ob:Obj,(w18.alloc ob).cell? ⟨w.heap.size,0,none⟩=some (.slice A9 n9 c9):=fun ob=>Blk.cell (Blk.alloc LA.out ob) 0
 have LA5:∀ ob:Obj,(w18.alloc ob).cell? ⟨w.heap.size,1,none⟩=some (.slice A8 n8 c8):=fun ob=>Blk.cell (Blk.alloc LA.out ob) 1
 have LX0:w18.cell? ⟨w8.heap.size,0,none⟩=some (.slice a1 b1 c1):=Blk.cell LX.out 0
 have LX1:w18.cell? ⟨w8.heap.size,1,none⟩=some (.slice d1' e1 f1):=Blk.cell LX.out 1
 have LX2:=Blk.frozen LX.out 0
 have LX3:=Blk.frozen LX.out 1
 have LX4:∀ ob:Obj,(w18.alloc ob).cell? ⟨w8.heap.size,0,none⟩=some (.slice a1 b1 c1):=fun ob=>Blk.cell (Blk.alloc LX.out ob) 0
 have LX5:∀ ob:Obj,(w18.alloc ob).cell? ⟨w8.heap.size,1,none⟩=some (.slice d1' e1 f1):=fun ob=>Blk.cell (Blk.alloc LX.out ob) 1
 go_wp2_with fail
 clear LA0 LA1 LA2 LA3 LA4 LA5
 clear LX0 LX1 LX2 LX3 LX4 LX5
 refine (markIntF_any G0.out (by decide) (by omega)).mono ?_
 rintro e w19 ⟨rfl,hM0,hb19⟩
 have M0:=Lib.hid hM0;clear hM0
 have s19:=hb19.size
 replace RP:=Lib.hid (RP.out.fr hb19 (by omega))
 replace RX:=Lib.hid (RX.out.fr hb19 (by omega))
 replace LA:=Lib.hid (LA.out.fr hb19 (by omega))
 replace V0:=Lib.hid (V0.out.fr hb19 (by omega))
 replace LX:=Lib.hid (LX.out.fr hb19 (by omega))
 replace G:=Lib.hid (G.out.trans (hb19.below (by omega) G.out.size))
 have LA0:w19.cell? ⟨w.heap.size,0,none⟩=some (.slice A9 n9 c9):=Blk.cell LA.out 0
 have LA1:w19.cell? ⟨w.heap.size,1,none⟩=some (.slice A8 n8 c8):=Blk.cell LA.out 1
 have LA2:=Blk.frozen LA.out 0
 have LA3:=Blk.frozen LA.out 1
 have LA4:∀ ob:Obj,(w19.alloc ob).cell? ⟨w.heap.size,0,none⟩=some (.slice A9 n9 c9):=fun ob=>Blk.cell (Blk.alloc LA.out ob) 0
 have LA5:∀ ob:Obj,(w19.alloc ob).cell? ⟨w.heap.size,1,none⟩=some (.slice A8 n8 c8):=fun ob=>Blk.cell (Blk.alloc LA.out ob) 1
 have LX0:w19.cell? ⟨w8.heap.size,0,none⟩=some (.slice a1 b1 c1):=Blk.cell LX.out 0
 have LX1:w19.cell? ⟨w8.heap.size,1,none⟩=some (.slice d1' e1 f1):=Blk.cell LX.out 1
 have LX2:=Blk.frozen LX.out 0
 have LX3:=Blk.frozen LX.out 1
 have LX4:∀ ob:Obj,(w19.alloc ob).cell? ⟨w8.heap.size,0,none⟩=some (.slice a1 b1 c1):=fun ob=>Blk.cell (Blk.alloc LX.out ob) 0
 have LX5:∀ ob:Obj,(w19.alloc ob).cell? ⟨w8.heap.size,1,none⟩=some (.slice d1' e1 f1):=fun ob=>Blk.cell (Blk.alloc LX.out ob) 1
 go_wp2_with fail
 clear LA0 LA1 LA2 LA3 LA4 LA5
 clear LX0 LX1 LX2 LX3 LX4 LX5
 refine (heldIntS_any M0.out.sl (by omega) (by omega)).mono ?_
 rintro e w20 ⟨rfl,hb20⟩
 have s20:=hb20.size
 replace RP:=Lib.hid (RP.out.below hb20 (by omega))
 replace RX:=Lib.hid (RX.out.below hb20 (by omega))
 replace LA:=Lib.hid (LA.out.below hb20 (by omega))
 replace V0:=Lib.hid (V0.out.below hb20 (by omega))
 replace LX:=Lib.hid (LX.out.below hb20 (by omega))
 replace M0:=Lib.hid (M0.out.below hb20 (by omega))
 replace G:=Lib.hid (G.out.trans (hb20.mono G.out.size))
 have d5 : ¬ (1+(q.length:Int))<0:=by omega
 have LA0:w20.cell? ⟨w.heap.size,0,none⟩=some (.slice A9 n9 c9):=Blk.cell LA.out 0
 have LA1:w20.cell? ⟨w.heap.size,1,none⟩=some (.slice A8 n8 c8):=Blk.cell LA.out 1
 have LA2:=Blk.frozen LA.out 0
 have LA3:=Blk.frozen LA.out 1
 have LA4:∀ ob:Obj,(w20.alloc ob).cell? ⟨w.heap.size,0,none⟩=some (.slice A9 n9 c9):=fun ob=>Blk.cell (Blk.alloc LA.out ob) 0
 have LA5:∀ ob:Obj,(w20.alloc ob).cell? ⟨w.heap.size,1,none⟩=some (.slice A8 n8 c8):=fun ob=>Blk.cell (Blk.alloc LA.out ob) 1
 have LX0:w20.cell? ⟨w8.heap.size,0,none⟩=some (.slice a1 b1 c1):=Blk.cell LX.out 0
 have LX1:w20.cell? ⟨w8.heap.size,1,none⟩=some (.slice d1' e1 f1):=Blk.cell LX.out 1
 have LX2:=Blk.frozen LX.out 0
 have LX3:=Blk.frozen LX.out 1
 have LX4:∀ ob:Obj,(w20.alloc ob).cell? ⟨w8.heap.size,0,none⟩=some (.slice a1 b1 c1):=fun ob=>Blk.cell (Blk.alloc LX.out ob) 0
 have LX5:∀ ob:Obj,(w20.alloc ob).cell? ⟨w8.heap.size,1,none⟩=some (.slice d1' e1 f1):=fun ob=>Blk.cell (Blk.alloc LX.out ob) 1
 go_wp2_with fail
 clear LA0 LA1 LA2 LA3 LA4 LA5
 clear LX0 LX1 LX2 LX3 LX4 LX5
 have hbd20:Below w20.heap.size w20 w20.drew:=(Below.refl _ _).drew
 have sd20:=hbd20.size
 replace RP:=Lib.hid (RP.out.below hbd20 (by omega))
 replace RX:=Lib.hid (RX.out.below hbd20 (by omega))
 replace LA:=Lib.hid (LA.out.below hbd20 (by omega))
 replace V0:=Lib.hid (V0.out.below hbd20 (by omega))
 replace LX:=Lib.hid (LX.out.below hbd20 (by omega))
 replace M0:=Lib.hid (M0.out.below hbd20 (by omega))
 replace G:=Lib.hid (G.out.trans (hbd20.mono G.out.size))
 go_region_held3 (fun w'=>w'.cell? ⟨w.heap.size,0,none⟩=some (.slice A9 n9 c9)/\w'.cell? ⟨w.heap.size,1,none⟩=some (.slice A8 n8 c8)/\w'.cell? ⟨w8.heap.size,0,none⟩=some (.slice a1 b1 c1)/\w'.cell? ⟨w8.heap.size,1,none⟩=some (.slice d1' e1 f1))
  (first | exact ⟨Blk.cell LA.out 0,Blk.cell LA.out 1,Blk.cell LX.out 0,Blk.cell LX.out 1⟩ | exact ⟨Blk.cell LA.out 0,Blk.cell LA.out 1,Blk.cell LX.out 0,Blk.cell LX.out 1⟩)
  (first | (go_at_call 13;refine (toInstrSS_any RP.out (by omega) hpl ht).mono ?_;rintro e w21 ⟨⟨t4,rfl,hT4⟩,hb21⟩;have T4:=Lib.hid hT4;clear hT4;have s21:=hb21.size;replace RP:=Lib.hid (RP.out.below hb21 (by omega));replace RX:=Lib.hid (RX.out.below hb21 (by omega));replace LA:=Lib.hid (LA.out.below hb21 (by omega));replace V0:=Lib.hid (V0.out.below hb21 (by omega));replace LX:=Lib.hid (LX.out.below hb21 (by omega));replace M0:=Lib.hid (M0.out.below hb21 (by omega));replace G:=Lib.hid (G.out.trans (hb21.mono G.out.size))) | (go_at_call 25;refine (HTX.out _ _ _ _ _ _ _ _ _ RX.out (by omega)).mono ?_;rintro e w22 ⟨⟨a5,b5,c5,d5',e5,f5,rfl,hT5⟩,hb22⟩;have T5:=Lib.hid hT5;clear hT5;have s22:=hb22.size;replace RP:=Lib.hid (RP.out.below hb22 (by omega));replace RX:=Lib.hid (RX.out.below hb22 (by omega));replace LA:=Lib.hid (LA.out.below hb22 (by omega));replace V0:=Lib.hid (V0.out.below hb22 (by omega));replace LX:=Lib.hid (LX.out.below hb22 (by omega));replace M0:=Lib.hid (M0.out.below hb22 (by omega));replace T4:=Lib.hid (T4.out.below hb22 (by omega));replace G:=Lib.hid (G.out.trans (hb22.mono G.out.size))) | (go_at_call 26;refine (HIM.out _ _ _ _ T4.out.sl _ _ _ T5.out.slX).mono ?_;rintro e w23 ⟨⟨h0,rfl,hH0⟩,hb23⟩;have H0:=Lib.hid hH0;clear hH0;have s23:=hb23.size;replace RP:=Lib.hid (RP.out.below hb23 (by omega));replace RX:=Lib.hid (RX.out.below hb23 (by omega));replace LA:=Lib.hid (LA.out.below hb23 (by omega));replace V0:=Lib.hid (V0.out.below hb23 (by omega));replace LX:=Lib.hid (LX.out.below hb23 (by omega));replace M0:=Lib.hid (M0.out.below hb23 (by omega));replace T4:=Lib.hid (T4.out.below hb23 (by omega));replace T5:=Lib.hid (T5.out.below hb23 (by omega));replace G:=Lib.hid (G.out.trans (hb23.mono G.out.size));clear T4;clear T5))
 have LA0:w23.cell? ⟨w.heap.size,0,none⟩=some (.slice A9 n9 c9):=Blk.cell LA.out 0
 have LA1:w23.cell? ⟨w.heap.size,1,none⟩=some (.slice A8 n8 c8):=Blk.cell LA.out 1
 have LA2:=Blk.frozen LA.out 0
 have LA3:=Blk.frozen LA.out 1
 have LA4:∀ ob:Obj,(w23.alloc ob).cell? ⟨w.heap.size,0,none⟩=some (.slice A9 n9 c9):=fun ob=>Blk.cell (Blk.alloc LA.out ob) 0
 have LA5:∀ ob:Obj,(w23.alloc ob).cell? ⟨w.heap.size,1,none⟩=some (.slice A8 n8 c8):=fun ob=>Blk.cell (Blk.alloc LA.out ob) 1
 have LX0:w23.cell? ⟨w8.heap.size,0,none⟩=some (.slice a1 b1 c1):=Blk.cell LX.out 0
 have LX1:w23.cell? ⟨w8.heap.size,1,none⟩=some (.slice d1' e1 f1):=Blk.cell LX.out 1
 have LX2:=Blk.frozen LX.out 0
 have LX3:=Blk.frozen LX.out 1
 have LX4:∀ ob:Obj,(w23.alloc ob).cell? ⟨w8.heap.size,0,none⟩=some (.slice a1 b1 c1):=fun ob=>Blk.cell (Blk.alloc LX.out ob) 0
 have LX5:∀ ob:Obj,(w23.alloc ob).cell? ⟨w8.heap.size,1,none⟩=some (.slice d1' e1 f1):=fun ob=>Blk.cell (Blk.alloc LX.out ob) 1
 go_wp2_with fail
 clear LA0 LA1 LA2 LA3 LA4 LA5
 clear LX0 LX1 LX2 LX3 LX4 LX5
 refine (eqIntS_any H0.out.sl V0.out).mono ?_
 rintro e w24 ⟨rfl,hb24⟩
 have s24:=hb24.size
 replace RP:=Lib.hid (RP.out.below hb24 (by omega))
 replace RX:=Lib.hid (RX.out.below hb24 (by omega))
 replace LA:=Lib.hid (LA.out.below hb24 (by omega))
 replace V0:=Lib.hid (V0.out.below hb24 (by omega))
 replace LX:=Lib.hid (LX.out.below hb24 (by omega))
 replace M0:=Lib.hid (M0.out.below hb24 (by omega))
 replace H0:=Lib.hid (H0.out.below hb24 (by omega))
 replace G:=Lib.hid (G.out.trans (hb24.mono G.out.size))
 have LA0:w24.cell? ⟨w.heap.size,0,none⟩=some (.slice A9 n9 c9):=Blk.cell LA.out 0
 have LA1:w24.cell? ⟨w.heap.size,1,none⟩=some (.slice A8 n8 c8):=Blk.cell LA.out 1
 have LA2:=Blk.frozen LA.out 0
 have LA3:=Blk.frozen LA.out 1
 have LA4:∀ ob:Obj,(w24.alloc ob).cell? ⟨w.heap.size,0,none⟩=some (.slice A9 n9 c9):=fun ob=>Blk.cell (Blk.alloc LA.out ob) 0
 have LA5:∀ ob:Obj,(w24.alloc ob).cell? ⟨w.heap.size,1,none⟩=some (.slice A8 n8 c8):=fun ob=>Blk.cell (Blk.alloc LA.out ob) 1
 have LX0:w24.cell? ⟨w8.heap.size,0,none⟩=some (.slice a1 b1 c1):=Blk.cell LX.out 0
 have LX1:w24.cell? ⟨w8.heap.size,1,none⟩=some (.slice d1' e1 f1):=Blk.cell LX.out 1
 have LX2:=Blk.frozen LX.out 0
 have LX3:=Blk.frozen LX.out 1
 have LX4:∀ ob:Obj,(w24.alloc ob).cell? ⟨w8.heap.size,0,none⟩=some (.slice a1 b1 c1):=fun ob=>Blk.cell (Blk.alloc LX.out ob) 0
 have LX5:∀ ob:Obj,(w24.alloc ob).cell? ⟨w8.heap.size,1,none⟩=some (.slice d1' e1 f1):=fun ob=>Blk.cell (Blk.alloc LX.out ob) 1
 go_wp2_with fail
 clear LA0 LA1 LA2 LA3 LA4 LA5
 clear LX0 LX1 LX2 LX3 LX4 LX5
 refine (heldIntS_any M0.out.sl (by omega) (by omega)).mono ?_
 rintro e w25 ⟨rfl,hb25⟩
 have s25:=hb25.size
 replace RP:=Lib.hid (RP.out.below hb25 (by omega))
 replace RX:=Lib.hid (RX.out.below hb25 (by omega))
 replace LA:=Lib.hid (LA.out.below hb25 (by omega))
 replace V0:=Lib.hid (V0.out.below hb25 (by omega))
 replace LX:=Lib.hid (LX.out.below hb25 (by omega))
 replace M0:=Lib.hid (M0.out.below hb25 (by omega))
 replace H0:=Lib.hid (H0.out.below hb25 (by omega))
 replace G:=Lib.hid (G.out.trans (hb25.mono G.out.size))
 have LA0:w25.cell? ⟨w.heap.size,0,none⟩=some (.slice A9 n9 c9):=Blk.cell LA.out 0
 have LA1:w25.cell? ⟨w.heap.size,1,none⟩=some (.slice A8 n8 c8):=Blk.cell LA.out 1
 have LA2:=Blk.frozen LA.out 0
 have LA3:=Blk.frozen LA.out 1
 have LA4:∀ ob:Obj,(w25.alloc ob).cell? ⟨w.heap.size,0,none⟩=some (.slice A9 n9 c9):=fun ob=>Blk.cell (Blk.alloc LA.out ob) 0
 have LA5:∀ ob:Obj,(w25.alloc ob).cell? ⟨w.heap.size,1,none⟩=some (.slice A8 n8 c8):=fun ob=>Blk.cell (Blk.alloc LA.out ob) 1
 have LX0:w25.cell? ⟨w8.heap.size,0,none⟩=some (.slice a1 b1 c1):=Blk.cell LX.out 0
 have LX1:w25.cell? ⟨w8.heap.size,1,none⟩=some (.slice d1' e1 f1):=Blk.cell LX.out 1
 have LX2:=Blk.frozen LX.out 0
 have LX3:=Blk.frozen LX.out 1
 have LX4:∀ ob:Obj,(w25.alloc ob).cell? ⟨w8.heap.size,0,none⟩=some (.slice a1 b1 c1):=fun ob=>Blk.cell (Blk.alloc LX.out ob) 0
 have LX5:∀ ob:Obj,(w25.alloc ob).cell? ⟨w8.heap.size,1,none⟩=some (.slice d1' e1 f1):=fun ob=>Blk.cell (Blk.alloc LX.out ob) 1
 go_wp2_with fail
 clear LA0 LA1 LA2 LA3 LA4 LA5
 clear LX0 LX1 LX2 LX3 LX4 LX5
 go_ret
 exact ⟨rfl,G.out⟩
end Go.Proofs.Ytlmjnhnpahicmaa
