/-
 Drawn schedules; lists of numbers compared. Plain theorems. No conditions.
-/
import Derived.Test.YtlmjnhnpahicmaaDp
import Derived.Test.YtlmjnhnpahicmaaGK
import Derived.Test.YtlmjnhnpahicmaaSDd
namespace Go.Proofs.Ytlmjnhnpahicmaa
open Go.RowKit
set_option maxRecDepth 100000
theorem sum_setI:∀ {l:List Int} {i:Nat} (v:Int),i<l.length->(l.set i v).sum=l.sum-l.getD i default+v
 | [],_,_,h=>absurd h (by simp)
 | a::l,0,v,_=>by
  show v+l.sum=a+l.sum-a+v
  omega
 | a::l,i+1,v,h=>by
  have := sum_setI (l:=l) (i:=i) v (by simpa using h)
  show a+(l.set i v).sum=a+l.sum-l.getD i default+v
  omega
theorem some_pos:∀ {l:List Int},0<l.sum->∃ j,j<l.length/\l.getD j default≠0
 | [],h=>absurd h (by simp)
 | a::l,h=>by
  by_cases e:a=0
  ·subst e
   obtain ⟨j,h1,h2⟩:=some_pos (l:=l) (by simpa using h)
   exact ⟨j+1,by simpa using h1,h2⟩
  ·exact ⟨0,by simp,e⟩
theorem sched_ret {k:Int} {r:Xspec_l17Rd} (h:Rd k r) (hk:k<=100000) {p:List (List ZIn)} (hp:smP p=true):Ret (F_spec_l3Schedule r p) fun v=>Rd (k+36) v.1/\v.2.length<=100:=by
 rw [smP_iff] at hp
 obtain ⟨hp4,hp8⟩:=hp
 unfold F_spec_l3Schedule
 refine Ret.bind (P:=fun s:List Int×Int=>s.1.length=p.length/\(∀ v∈s.1,0<=v/\v<=8)/\s.1.sum=s.2/\s.2<=32) ?_ fun s1 ⟨a1,a2,a3,a4⟩ => ?_
 ·refine Ret.loop (fun s=>∃ n:Nat,n<=p.length/\s.2.1=(n:Int)/\s.1.length=n/\(∀ v∈s.1,0<=v/\v<=8)/\s.1.sum=s.2.2/\0<=s.2.2/\s.2.2<=((8*n:Nat):Int)) (fun s=>((p.length:Int)-s.2.1).toNat) ⟨0,by omega,rfl,rfl,by simp,rfl,Int.le_refl _,Int.le_refl _⟩ fun s ⟨n,h1,h2,h3,h4,h5,h6,h7⟩ => ?_
  obtain ⟨l,i,c⟩:=s
  simp only at h2 h3 h4 h5 h6 h7
  subst h2
  unfold F_spec_l3Schedule_L6
  refine .bifD (fun hk => ?_) fun hk => .pure ?_
  ·simp only [Int.toNat_natCast] at hk ⊢
   have hn:n<p.length:=by omega
   have e:p.getD n default=p[n]:=by rw [List.getD_eq_getElem?_getD,List.getElem?_eq_getElem hn];rfl
   have hr:=(hp8 _ (List.getElem_mem hn)).1
   rw [<- e] at hr
   refine .gdD ⟨by omega,hk⟩ (.gd (capOK_le (by omega) rfl) (.gdI (by omega) (.gdI (by omega) (.pure ⟨⟨n+1,by omega,rfl,by simp [h3],fun v hv => ?_,?_,by simp only [];omega,by simp only [];omega⟩,by simp only [];omega⟩))))
   ·rcases List.mem_append.1 hv with hv | hv
    ·exact h4 v hv
    ·rw [List.mem_singleton] at hv
     subst hv
     omega
   ·simp only [List.sum_append,List.sum_cons,List.sum_nil]
    omega
  ·simp only [] at hk
   exact ⟨by simp only [];omega,h4,h5,by simp only [];omega⟩
 ·refine Ret.bind (P:=fun z:List Int×Int×List Int×List Int=>Rd (k+32) ⟨z.1,z.2.1⟩/\z.2.2.2.length<=32) ?_ fun z ⟨b1,b2⟩ => ?_
  ·refine Ret.loop (fun z=>Rd (k+(z.2.2.2.length:Int)) ⟨z.1,z.2.1⟩/\z.2.2.1.length=p.length/\(∀ v∈z.2.2.1,0<=v/\v<=8)/\z.2.2.1.sum=s1.2-(z.2.2.2.length:Int)/\((z.2.2.2.length:Int)<=s1.2\/z.2.2.2=[])) (fun z=>(s1.2-(z.2.2.2.length:Int)).toNat) ⟨by simpa using h,a1,a2,by simpa using a3,.inr rfl⟩ fun z ⟨c1,c2,c3,c4,c5⟩ => ?_
   have c6:z.2.2.2.length<=32:=by
    rcases c5 with c5 | c5
    ·omega
    ·rw [c5];exact Nat.zero_le _
   unfold F_spec_l3Schedule_L20
   refine .bifD (fun hlt => ?_) fun hge => .pure ⟨c1.mono (by omega),c6⟩
   refine (pick_ret c1.mk' (by omega) _).bind fun v ⟨d1,d2,d3⟩ => ?_
   obtain ⟨j,j1,j2⟩:=some_pos (l:=z.2.2.1) (by omega)
   have hv:v.2<(p.length:Int):=by omega
   refine Ret.bind (P:=fun t:Int=>0<=t/\t<(p.length:Int)/\z.2.2.1.getD t.toNat default≠0) ?_ fun t ⟨t1,t2,t3⟩ => ?_
   ·refine Ret.loop (fun t=>0<=t/\t<(p.length:Int)) (fun t=>if t<=(j:Int) then ((j:Int)-t).toNat else ((j:Int)+(p.length:Int)-t).toNat) ⟨d2,hv⟩ fun t ⟨t1,t2⟩ => ?_
    unfold F_spec_l3Schedule_L29
    refine .gdD ⟨t1,by omega⟩ (.bif (fun h0 => .gdI (by omega) (.gdD (by omega) (.pure ?_))) fun h0 => .pure ⟨t1,t2,by simpa using h0⟩)
    have h0:z.2.2.1.getD t.toNat default=0:=by simpa using h0
    have hne:t≠(j:Int):=by
     rintro rfl
     rw [Int.toNat_natCast] at h0
     exact j2 h0
    have hm:(t+1).tmod (p.length:Int)=if t+1=(p.length:Int) then 0 else t+1:=by
     rw [Int.tmod_eq_emod_of_nonneg (by omega)]
     split
     ·rename_i e
      rw [e,Int.emod_self]
     ·exact Int.emod_eq_of_lt (by omega) (by omega)
    show (0<=(t+1).tmod (p.length:Int)/\(t+1).tmod (p.length:Int)<(p.length:Int))/\(if (t+1).tmod (p.length:Int)<=(j:Int) then ((j:Int)-(t+1).tmod (p.length:Int)).toNat else ((j:Int)+(p.length:Int)-(t+1).tmod (p.length:Int)).toNat)<(if t<=(j:Int) then ((j:Int)-t).toNat else ((j:Int)+(p.length:Int)-t).toNat)
    rw [hm]
    split <;> (refine ⟨by omega,?_⟩;split <;> split <;> omega)
   ·have tn:t.toNat<z.2.2.1.length:=by omega
    have tb:=c3 _ (getD_memI tn)
    refine .gdD ⟨t1,by omega⟩ (.gdI (by omega) (.gd (capOK_le (by omega) rfl) (.pure ⟨⟨?_,by simp only [List.length_set];exact c2,set_allI c3 (by omega),?_,.inl (by simp;omega)⟩,by simp;omega⟩)))
    ·simp only [List.length_append,List.length_singleton]
     exact d1.mono (by omega)
    ·simp only []
     rw [sum_setI _ tn,List.length_append,List.length_singleton]
     omega
  ·refine Ret.bind (P:=fun z:List Int×Int×List Int=>Rd (k+36) ⟨z.1,z.2.1⟩/\z.2.2.length<=33) ?_ fun w hw => .pure ⟨hw.1,by have := hw.2;simp only [];omega⟩
   refine (pick_ret b1.mk' (by omega) _).bind fun v ⟨d1,_,_⟩ => .bif (fun _ => ?_) fun _ => .bif (fun _ => .bifD (fun hpos => .gdD (by omega) (.pure ⟨d1.mk'.mono (by omega),?_⟩)) fun _ => .pure ⟨d1.mk'.mono (by omega),?_⟩) fun _ => .pure ⟨d1.mk'.mono (by omega),?_⟩
   ·exact (num_ret d1.mk' (by omega) _ (by simp)).bind fun u hu => .gd (capOK_le (by omega) rfl) (.pure ⟨hu.1.mk'.mono (by omega),by simp;omega⟩)
   ·simp only [List.length_take,List.length_drop]
    omega
   ·simp only [];omega
   ·simp only [];omega
theorem wmInts_ret (a:List Int) (ha:a.length<=1048576):Ret (F_laws_wmInts a a) (· = true):=by
 unfold F_laws_wmInts
 refine .bif (fun h=>by simp at h) fun _ => ?_
 refine Ret.sum (PS:=fun _=>True) (PW:=(· = true)) ?_ fun _ _ => .pure rfl
 refine Ret.loop (fun s=>0<=s/\s<=(a.length:Int)) (fun s=>((a.length:Int)-s).toNat) ⟨by omega,by omega⟩ fun s ⟨h1,h2⟩ => ?_
 unfold F_laws_wmInts_L6
 refine .bifD (fun h => .gdD ⟨h1,h⟩ (.gdD ⟨h1,h⟩ (.bif (fun h=>by simp at h) fun _ => .gdI (by omega) (.pure ⟨⟨by omega,by omega⟩,by omega⟩)))) fun _ => .pure trivial
end Go.Proofs.Ytlmjnhnpahicmaa
