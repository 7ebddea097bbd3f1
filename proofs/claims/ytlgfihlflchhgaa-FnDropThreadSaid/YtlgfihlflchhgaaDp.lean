/-
 The drawn programs are small. Plain theorems. No conditions.
-/
import Derived.Test.YtlgfihlflchhgaaDw
import Derived.Test.YtlgfihlflchhgaaSRd
import Derived.Test.YtlgfihlflchhgaaPp
import Derived.Test.YtlgfihlflchhgaaMud
namespace Go.Proofs.Ytlgfihlflchhgaa
open Go.RowKit
set_option maxRecDepth 100000
theorem smP_iff {p:List (List ZIn)}:smP p=true↔p.length<=4/\∀ r∈p,r.length<=8/\∀ x∈r,smI x=true:=by
 simp only [smP,Bool.and_eq_true,decide_eq_true_eq,List.all_eq_true]
theorem smP_fits {p:List (List ZIn)} (h:smP p=true):fitsP p=true:=by
 rw [smP_iff] at h
 simp only [fitsP,Bool.and_eq_true,decide_eq_true_eq,List.all_eq_true]
 exact ⟨by omega,fun r hr=>by have := (h.2 r hr).1;omega⟩
theorem total_le {α:Type} {m:Nat}:∀ {p:List (List α)},(∀ r∈p,r.length<=m)->total p<=p.length*m
 | [],_=>by simp [total]
 | r::p,h=>by
  have h1:=total_le (p:=p) (fun x hx=>h x (List.mem_cons_of_mem _ hx))
  have h2:=h r (List.mem_cons_self)
  simp only [total,List.map_cons,List.sum_cons,List.length_cons,Nat.add_mul,Nat.one_mul] at h1 ⊢
  omega
theorem smP_sz {p:List (List ZIn)} (h:smP p=true):p.length<=1048576/\total p<=1048576:=by
 rw [smP_iff] at h
 have h1:=total_le (m:=8) (fun r hr=>(h.2 r hr).1)
 have h2:p.length*8<=32:=by omega
 exact ⟨by omega,by omega⟩
theorem l1Instr_ret {k:Int} {r:Xspec_l17Rd} (h:Rd k r) (hk:k<=10000000):Ret (F_spec_l1Instr r) fun v=>Rd (k+4) v.1/\smI v.2=true:=by
 unfold F_spec_l1Instr
 refine (pick_ret h.mk' (by omega) 2).bind fun v1 ⟨a1,a2,a3⟩=>(pick_ret a1.mk' (by omega) 7).bind fun v2 ⟨b1,b2,b3⟩ => ?_
 refine .bif (fun _ => .pure ⟨b1.mono (by omega),by simp only [smI];exact decide_eq_true (by omega)⟩) fun _ => ?_
 refine .bif (fun _=>(pick_ret b1.mk' (by omega) 2).bind fun v3 ⟨c1,c2,c3⟩ => .pure ⟨c1.mono (by omega),decide_eq_true (by simp only [];omega)⟩) fun _ => ?_
 refine .bif (fun _=>(pick_ret b1.mk' (by omega) 2).bind fun v3 ⟨c1,c2,c3⟩=>(pick_ret c1.mk' (by omega) 3).bind fun v4 ⟨d1,d2,d3⟩ => .gdI (by omega) (.pure ⟨d1.mono (by omega),decide_eq_true (by simp only [];omega)⟩)) fun _ => ?_
 refine Ret.bind (P:=fun _=>True) (.bif (fun _ => .pure trivial) (fun _ => .pure trivial)) fun s _ => ?_
 refine .bif (fun _=>(pick_ret b1.mk' (by omega) 3).bind fun v3 ⟨c1,c2,c3⟩ => .gdI (by omega) (.pure ⟨c1.mono (by omega),decide_eq_true (by simp only [];omega)⟩)) fun _ => ?_
 exact (pick_ret b1.mk' (by omega) 2).bind fun v3 ⟨c1,c2,c3⟩ => .pure ⟨c1.mono (by omega),decide_eq_true (by simp only [];omega)⟩
theorem thread_ret {k:Int} {b:List Int} {p n:Int} (h:Rd k ⟨b,p⟩) (hk:k<=1000000) (hn:0<=n/\n<=3):Ret (loopO F_spec_l1Draw_L25 (b,p,([]:List ZIn),n)) fun v=>Rd (k+12) ⟨v.1,v.2.1⟩/\v.2.2.length<=3/\∀ x∈v.2.2,smI x=true:=by
 refine Ret.loop (fun s=>Rd (k+4*(3-s.2.2.2)) ⟨s.1,s.2.1⟩/\(0<=s.2.2.2/\s.2.2.2+(s.2.2.1.length:Int)<=3)/\∀ x∈s.2.2.1,smI x=true) (fun s=>s.2.2.2.toNat) ⟨h.mono (by simp only [];omega),by simp;omega,by simp⟩ fun s ⟨h1,h2,h3⟩ => ?_
 unfold F_spec_l1Draw_L25
 refine .bifD (fun h0 => ?_) fun h0 => .pure ⟨h1.mono (by omega),by simp only [];omega,h3⟩
 refine (l1Instr_ret h1 (by omega)).bind fun v ⟨a1,a2⟩ => .gdC (by omega) rfl (.gdI (by omega) (.pure ⟨⟨a1.mk'.mono (by simp only [];omega),by simp only [List.length_append,List.length_cons,List.length_nil];omega,fun x hx => ?_⟩,by simp only [];omega⟩))
 rcases List.mem_append.1 hx with hx | hx
 ·exact h3 x hx
 ·rw [List.mem_singleton.1 hx]
  exact a2
theorem threads_ret {k:Int} {b:List Int} {p n:Int} (h:Rd k ⟨b,p⟩) (hk:k<=100000) (hn:0<=n/\n<=3):Ret (loopO F_spec_l1Draw_L15 (b,p,([]:List (List ZIn)),n)) fun v=>Rd (k+39) ⟨v.1,v.2.1⟩/\smP v.2.2=true:=by
 refine Ret.loop (fun s=>Rd (k+13*(3-s.2.2.2)) ⟨s.1,s.2.1⟩/\(0<=s.2.2.2/\s.2.2.2+(s.2.2.1.length:Int)<=3)/\∀ r∈s.2.2.1,r.length<=8/\∀ x∈r,smI x=true) (fun s=>s.2.2.2.toNat) ⟨h.mono (by simp only [];omega),by simp;omega,by simp⟩ fun s ⟨h1,h2,h3⟩ => ?_
 unfold F_spec_l1Draw_L15
 refine .bifD (fun h0 => ?_) fun h0 => .pure ⟨h1.mono (by omega),smP_iff.2 ⟨by simp only [];omega,h3⟩⟩
 refine Ret.bind (P:=fun v=>Rd (k+13*(3-s.2.2.2)+13) ⟨v.1,v.2.1⟩/\∃ t:List ZIn,v.2.2=s.2.2.1++[t]/\t.length<=8/\∀ x∈t,smI x=true) ?_ fun v ⟨a1,t,a2,a3,a4⟩ => ?_
 ·refine Ret.bind (P:=fun v=>Rd (k+13*(3-s.2.2.2)+13) ⟨v.1,v.2.1⟩/\v.2.2.length<=3/\∀ x∈v.2.2,smI x=true) ?_ fun v ⟨a1,a2,a3⟩ => .gdC (by omega) rfl (.pure ⟨a1,v.2.2,rfl,by omega,a3⟩)
  refine (num_ret h1 (by omega) _ (by simp)).bind fun v ⟨b1,b2⟩=>(thread_ret (n:=v.2) b1.mk' (by omega) (by simp only [List.mem_cons,List.not_mem_nil,or_false] at b2;omega)).mono fun u ⟨c1,c2,c3⟩=>⟨c1.mono (by omega),c2,c3⟩
 ·refine .gdI (by omega) (.pure ⟨⟨a1.mono (by simp only [];omega),by simp only [a2,List.length_append,List.length_cons,List.length_nil];omega,fun r hr => ?_⟩,by simp only [];omega⟩)
  simp only [a2] at hr
  rcases List.mem_append.1 hr with hr | hr
  ·exact h3 r hr
  ·rw [List.mem_singleton.1 hr]
   exact ⟨a3,a4⟩
theorem l1Draw_ret {k:Int} {r:Xspec_l17Rd} (h:Rd k r) (hk:k<=10000) (hp:∀ l,F_spec_l1Tests=some l->∀ t∈l,Ret (F_spec_ParseProgram t) fun v=>smP v.1=true):Ret (F_spec_l1Draw r) fun v=>Rd (k+46) v.1/\smP v.2=true:=by
 unfold F_spec_l1Draw
 have e1:∃ l,F_spec_l1Tests=some l/\0<l.length/\l.length<=100:=⟨_,rfl,by decide,by decide⟩
 obtain ⟨l,e1,e2,e3⟩:=e1
 have hp':=hp l e1
 refine (Ret.of (P:=fun v=>v=l) e1 rfl).bind fun v1 hv => ?_
 subst hv
 refine Ret.sum (PS:=fun s=>Rd (k+2) ⟨s.1,s.2⟩) (PW:=fun v:Xspec_l17Rd×List (List ZIn)=>Rd (k+46) v.1/\smP v.2=true) ?_ fun s hs => ?_
 ·refine (pick_ret h.mk' (by omega) 3).bind fun v3 ⟨a1,a2,a3⟩ => .bif (fun _ => ?_) fun _ => .pure (a1.mk'.mono (by omega))
  refine (pick_ret a1.mk' (by omega) _).bind fun v5 ⟨b1,b2,b3⟩ => .gdD ⟨b2,by omega⟩ ?_
  have hlt:v5.2.toNat<v1.length:=by omega
  refine Ret.bind (hp' (v1.getD v5.2.toNat default) (by rw [List.getD_eq_getElem?_getD,List.getElem?_eq_getElem hlt];exact List.getElem_mem _)) fun v7 h7 => ?_
  exact .bif (fun _ => .pure ⟨b1.mk'.mono (by omega),h7⟩) fun _ => .pure (b1.mk'.mono (by omega))
 ·refine Ret.bind (P:=fun v=>Rd (k+42) ⟨v.1,v.2.1⟩/\smP v.2.2=true) ?_ fun v ⟨a1,a2⟩ => ?_
  ·exact (num_ret hs (by omega) _ (by simp)).bind fun v ⟨b1,b2⟩=>(threads_ret (n:=v.2) b1.mk' (by omega) (by simp only [List.mem_cons,List.not_mem_nil,or_false] at b2;omega)).mono fun u ⟨c1,c2⟩=>⟨c1.mono (by omega),c2⟩
  ·have hv:Ret (F_spec_ProgramValid v.2.2) fun _=>True := .gdD (smP_sz a2) (.pure trivial)
   refine hv.bind fun b _ => .bif (fun _ => .pure ⟨a1.mono (by omega),a2⟩) fun _ => ?_
   exact (l1Instr_ret a1 (by omega)).bind fun u ⟨c1,c2⟩ => .pure ⟨c1.mk'.mono (by omega),smP_iff.2 ⟨by simp,by simp [c2]⟩⟩
theorem putP_sm {p:List (List ZIn)} (h:smP p=true) {i:Nat} (hi:i<p.length) {l:List ZIn} (hl:(p.getD i []).length+l.length<=9) (hx:∀ x∈l,smI x=true):(putP p i l).length<=4/\∀ r∈putP p i l,r.length<=9/\∀ x∈r,smI x=true:=by
 rw [smP_iff] at h
 unfold putP
 refine ⟨by rw [List.length_set];exact h.1,fun r hr => ?_⟩
 rcases List.mem_or_eq_of_mem_set hr with hr | rfl
 ·exact ⟨by have := (h.2 r hr).1;omega,(h.2 r hr).2⟩
 ·have hg:p.getD i []=p[i]:=by simp [hi]
  refine ⟨by rw [List.length_append];omega,fun x hxx => ?_⟩
  rcases List.mem_append.1 hxx with hxx | hxx
  ·rw [hg] at hxx
   exact (h.2 _ (List.getElem_mem hi)).2 x hxx
  ·exact hx x hxx
def Sm (p:List (List ZIn)):Prop:=p.length<=9/\∀ r∈p,r.length<=9/\∀ x∈r,smI x=true
theorem smP_Sm {p:List (List ZIn)} (h:smP p=true):Sm p:=by
 rw [smP_iff] at h
 exact ⟨by omega,fun r hr=>⟨by have := (h.2 r hr).1;omega,(h.2 r hr).2⟩⟩
theorem Sm.sz {p:List (List ZIn)} (h:Sm p):p.length<=1048576/\total p<=1048576:=by
 have h1:=total_le (m:=9) (fun r hr=>(h.2 r hr).1)
 have h2:p.length*9<=81:=by have := h.1;omega
 exact ⟨by have := h.1;omega,by omega⟩
theorem l1Mutate_ret {k:Int} {r:Xspec_l17Rd} (h:Rd k r) (hk:k<=100000) {p:List (List ZIn)} (hp:smP p=true):Ret (F_spec_l1Mutate r p) fun v=>Rd (k+4) v.1/\Sm v.2:=by
 unfold F_spec_l1Mutate
 have hp0:=smP_iff.1 hp
 have hg:∀ i,(p.getD i []).length<=8:=fun i=>by
  by_cases hi:i<p.length
  ·have : p.getD i []=p[i]:=by simp [hi]
   rw [this]
   exact (hp0.2 _ (List.getElem_mem hi)).1
  ·simp [List.getD,List.getElem?_eq_none (Nat.le_of_not_lt hi)]
 refine .gd (smP_fits hp) (.bif (fun _ => .pure ⟨h.mono (by omega),smP_Sm hp⟩) fun h0 => ?_)
 have hpos:0<p.length:=by
  cases hc:p.length with
  | zero=>rw [hc] at h0;cases h0
  | succ n=>omega
 refine (pick_ret h (by omega) _).bind fun v1 ⟨a1,a2,a3⟩=>(pick_ret a1 (by omega) _).bind fun v2 ⟨b1,b2,b3⟩ => .gdD ⟨a2,by omega⟩ ?_
 have hi:v1.2.toNat<p.length:=by omega
 have put:∀ {l:List ZIn},(p.getD v1.2.toNat []).length+l.length<=9->(∀ x∈l,smI x=true)->Sm (putP p v1.2.toNat l):=fun {l} hl hx=>by
  obtain ⟨g1,g2⟩:=putP_sm hp hi hl hx
  exact ⟨by omega,g2⟩
 refine .bif (fun _=>(num_ret b1 (by omega) _ (by simp)).bind fun a ⟨c1,c2⟩=>(num_ret c1 (by omega) _ (by simp)).bind fun b ⟨d1,d2⟩ => .pure ⟨d1.mono (by omega),put (by have := hg v1.2.toNat;simp only [List.length_cons,List.length_nil];omega) fun x hx => ?_⟩) fun _ => ?_
 ·rw [List.mem_singleton.1 hx]
  simp only [List.mem_cons,List.not_mem_nil,or_false] at c2 d2
  exact decide_eq_true (by simp only [];omega)
 refine .bif (fun _=>(num_ret b1 (by omega) _ (by simp)).bind fun a ⟨c1,c2⟩ => .pure ⟨c1.mono (by omega),put (by have := hg v1.2.toNat;simp only [List.length_cons,List.length_nil];omega) fun x hx => ?_⟩) fun _ => ?_
 ·rw [List.mem_singleton.1 hx]
  simp only [List.mem_cons,List.not_mem_nil,or_false] at c2
  exact decide_eq_true (by simp only [];omega)
 refine .bif (fun _ => .pure ⟨b1.mono (by omega),by simp only [List.length_append,List.length_replicate];omega,fun r hr => ?_⟩) fun _ => ?_
 ·rcases List.mem_append.1 hr with hr | hr
  ·exact ⟨by have := (hp0.2 r hr).1;omega,(hp0.2 r hr).2⟩
  ·rw [List.eq_of_mem_replicate hr]
   exact ⟨by simp,by simp⟩
 refine .bif (fun _ => .pure ⟨b1.mono (by omega),put (by have := hg v1.2.toNat;rw [List.length_replicate];omega) fun x hx => ?_⟩) fun _ => ?_
 ·rw [List.eq_of_mem_replicate hx]
  rfl
 refine .bif (fun _ => .pure ⟨b1.mono (by omega),?_⟩) fun _ => .pure ⟨b1.mono (by omega),smP_Sm hp⟩
 exact ⟨by simp only [List.length_take,List.length_drop];omega,fun r hr=>(smP_Sm hp).2 r (List.mem_of_mem_drop (List.mem_of_mem_take hr))⟩
end Go.Proofs.Ytlgfihlflchhgaa
