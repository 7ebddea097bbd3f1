/-
 ScheduleOf, of impl and of spec, at any candidate: the same. Plain theorems. No conditions.
-/
import Derived.Test.YtlmjnhnpahicmaaDt9
import Derived.Test.YtlmjnhnpahicmaaSVd
namespace Go.Proofs.Ytlmjnhnpahicmaa
open Go.RowKit
set_option maxRecDepth 100000
section
variable {p:List (List ZIn)} {x:XS} {F F':List Int}
def rngF (p:List (List ZIn)):List Int:=(List.range (evs p).length).map fun (i:Nat)=>(i:Int)
theorem getD_in {α:Type} [Inhabited α] {l:List α} {i:Nat} (h:i<l.length):l.getD i default∈l:=by
 rw [List.getD_eq_getElem?_getD,List.getElem?_eq_getElem h]
 exact List.getElem_mem _
theorem wrs_nd (l:Int):(wrs p l).Nodup:=List.Pairwise.filter _ rng_nd
theorem wrs_len (l:Int):(wrs p l).length<=(evs p).length:=by
 unfold wrs
 have := List.length_filter_le (Wl p l) ((List.range (evs p).length).map fun (i:Nat)=>(i:Int))
 simpa using this
theorem wrs_inc (l:Int):(wrs p l).Pairwise (· <= ·):=List.Pairwise.filter _ (List.pairwise_map.2 ((List.pairwise_lt_range).imp fun h=>by omega))
theorem iwriters (hp:PV p) (l:Int):Ret (F_impl_writersOf (evs p) l) (· = wrs p l):=by
 have hel:=evs_len hp.vs
 unfold F_impl_writersOf
 refine Ret.bind (P:=(· = wrs p l)) ?_ fun v hv => .pure hv
 refine Ret.loop (fun z=>∃ n:Nat,n<=(evs p).length/\z=(((List.range n).map fun (i:Nat)=>(i:Int)).filter (Wl p l),(n:Int))) (fun z=>(((evs p).length:Int)-z.2).toNat) ⟨0,by omega,rfl⟩ fun z ⟨n,n1,n2⟩ => ?_
 subst n2
 unfold F_impl_writersOf_L8
 have en:(evs p).getD n default=ev p (n:Int):=by unfold ev;rw [Int.toNat_natCast]
 simp only [Int.toNat_natCast,en]
 refine .bifD (fun hk => ?_) fun hk => .pure (by unfold wrs;rw [show n=(evs p).length by omega])
 have hfl:(((List.range n).map fun (i:Nat)=>(i:Int)).filter (Wl p l)).length<=n:=by
  have := List.length_filter_le (Wl p l) ((List.range n).map fun (i:Nat)=>(i:Int))
  simpa using this
 refine Ret.bind (P:=(· = ((List.range (n+1)).map fun (i:Nat)=>(i:Int)).filter (Wl p l))) (.gdD ⟨by omega,hk⟩ ?_) fun v hv => .gdI (by omega) (.pure ⟨⟨n+1,by omega,by rw [hv];rfl⟩,by omega⟩)
 refine Ret.bind (P:=(· = Wl p l (n:Int))) (.bif (fun h => .pure (by unfold Wl;rw [h];rfl)) fun h => .pure (by unfold Wl;rw [h];rfl)) fun v hv => ?_
 subst hv
 rw [List.range_succ,List.map_append,List.filter_append]
 refine .bif (fun h => .gd (capOK_le (by omega) rfl) (.pure ?_)) fun h => .pure ?_
 ·rw [List.map_singleton,List.filter_cons_of_pos h]
  rfl
 ·rw [List.map_singleton,List.filter_cons_of_neg (by rw [h];decide)]
  simp
structure Chk (p:List (List ZIn)) (x:XS):Prop where
 f:x.1.length=(evs p).length
 o:x.2.length=3
 r:∀ n:Nat,n<(evs p).length->if (ev p (n:Int)).Reads=true then x.1.getD n default∈wrs p (ev p (n:Int)).Loc/\x.1.getD n default≠n else x.1.getD n default = -1
 ords:∀ l:Nat,l<3->(x.2.getD l default).Perm (wrs p (l:Int))/\(x.2.getD l default).getD 0 default=l
theorem Chk.cand (hp:PV p) (h:Chk p x):Cand p x (rngF p):=by
 have e:∀ l:Int,0<=l/\l<=2->(od x l).Perm (wrs p l):=fun l hl=>by
  have := (h.ords l.toNat (by omega)).1
  rw [Int.toNat_of_nonneg hl.1] at this
  exact this
 refine ⟨fun n=>rng_mem n,h.f,h.o,fun l hl=>⟨(e l hl).nodup_iff.2 (wrs_nd l),fun n => ?_⟩,fun l hl => ?_,fun i hi hr => ?_,fun i hi hr => ?_,fun i hi hr => ?_⟩
 ·rw [(e l hl).mem_iff]
  unfold wrs
  rw [List.mem_filter]
  unfold Wl
  rw [Bool.and_eq_true,decide_eq_true_eq]
  exact Iff.rfl
 ·obtain ⟨h1,h2⟩:=h.ords l hl
  obtain ⟨t,ht⟩:=wrs_head (p:=p) hl
  have hlen:=h1.length_eq
  rw [ht] at hlen
  unfold od
  rw [Int.toNat_natCast]
  cases hq:x.2.getD l default with
  | nil=>rw [hq] at hlen;simp at hlen
  | cons a r=>
   rw [hq] at h2
   have h2:a=(l:Int):=h2
   exact ⟨r,by rw [<- h2]⟩
 ·obtain ⟨i0,i1⟩:=(rng_mem i).1 hi
  have := h.r i.toNat (by omega)
  rw [Int.toNat_of_nonneg i0,if_pos hr] at this
  exact (e _ (ev_loc hp i0 i1)).mem_iff.2 this.1
 ·obtain ⟨i0,i1⟩:=(rng_mem i).1 hi
  have := h.r i.toNat (by omega)
  rw [Int.toNat_of_nonneg i0,if_pos hr] at this
  exact this.2
 ·obtain ⟨i0,i1⟩:=(rng_mem i).1 hi
  have := h.r i.toNat (by omega)
  rw [Int.toNat_of_nonneg i0,if_neg (by rw [hr];decide)] at this
  exact this
theorem perm_of:∀ {w l:List Int},w.Nodup->l.length=w.length->(∀ n∈w,n∈l)->l.Perm w
 | [],l,_,h,_=>by rw [List.length_eq_zero_iff.1 h]
 | a::w,l,hn,h,hs=>by
  have ha:=hs a List.mem_cons_self
  have hp:=List.perm_cons_erase ha
  obtain ⟨n1,n2⟩:=List.nodup_cons.1 hn
  refine hp.trans (List.Perm.cons a (perm_of n2 ?_ fun n hm => ?_))
  ·have := hp.length_eq
   rw [h] at this
   simp only [List.length_cons] at this
   omega
  ·exact (List.mem_erase_of_ne (by rintro rfl;exact n1 hm)).2 (hs n (List.mem_cons_of_mem _ hm))
theorem orderP_ret {l w:List Int} (hl:l.length<=4000000) (hw:w.Nodup) (hwl:w.length<=4000000) (h0:0<w.length):Ret (F_spec_l6Order l w) fun b=>b=true↔l.Perm w/\l.getD 0 default=w.getD 0 default:=by
 unfold F_spec_l6Order
 refine Ret.sum (PS:=fun _=>l.length=w.length/\l.getD 0 default=w.getD 0 default) (PW:=fun b=>b=true↔l.Perm w/\l.getD 0 default=w.getD 0 default) (Ret.bind (P:=fun b:Bool=>b=false↔l.length=w.length/\l.getD 0 default=w.getD 0 default) (.bif (fun h => ?_) fun h => ?_) fun v hv => .bif (fun h => ?_) fun h => .pure (hv.1 h)) fun _ ⟨e1,e2⟩ => ?_
 ·have h : ¬ (l.length:Int)=(w.length:Int):=by simpa using h
  exact .pure ⟨fun e=>(by cases e),fun e=>absurd e.1 (by omega)⟩
 ·have h:(l.length:Int)=(w.length:Int):=by simpa using h
  refine .gdD ⟨by omega,by omega⟩ (.gdD ⟨by omega,by omega⟩ (.pure ?_))
  show (l.getD 0 default != w.getD 0 default)=false↔_
  rw [bne_eq_false_iff_eq]
  exact ⟨fun e=>⟨by omega,e⟩,fun e=>e.2⟩
 ·refine .pure ⟨fun e=>(by cases e),fun e => ?_⟩
  have : v=false:=hv.2 ⟨e.1.length_eq,e.2⟩
  rw [this] at h
  cases h
 ·refine Ret.sum (PS:=fun _=>∀ n∈w,n∈l) (PW:=fun b=>b=true↔l.Perm w/\l.getD 0 default=w.getD 0 default) ?_ fun _ hs => .pure ⟨fun _=>⟨perm_of hw e1 hs,e2⟩,fun _=>rfl⟩
  refine Ret.loop (fun z=>∃ i:Nat,i<=w.length/\z=(i:Int)/\∀ j:Nat,j<i->w.getD j default∈l) (fun z=>((w.length:Int)-z).toNat) ⟨0,by omega,rfl,fun j hj=>absurd hj (by omega)⟩ fun z ⟨i,h1,h2,h3⟩ => ?_
  subst h2
  unfold F_spec_l6Order_L11
  simp only [Int.toNat_natCast]
  refine .bifD (fun hk => .gdD ⟨by omega,hk⟩ ((place_ret hl _).bind fun v hv => .bifD (fun hneg => .pure ?_) fun hpos => .gdI (by omega) (.pure ⟨⟨i+1,by omega,rfl,fun j hj => ?_⟩,by omega⟩))) fun hk => .pure fun n hn => ?_
  ·refine ⟨fun e=>(by cases e),fun e => ?_⟩
   have hm:w.getD i default∈l:=e.1.mem_iff.2 (getD_in (by omega))
   rw [hv,plc_mem hm] at hneg
   omega
  ·by_cases ej:j=i
   ·subst ej
    by_cases hm:w.getD j default∈l
    ·exact hm
    ·rw [hv] at hpos
     unfold plc at hpos
     rw [if_neg hm] at hpos
     omega
   ·exact h3 j (by omega)
  ·obtain ⟨j,hj,rfl⟩:=List.getElem_of_mem hn
   have := h3 j (by omega)
   rw [List.getD_eq_getElem?_getD,List.getElem?_eq_getElem hj] at this
   exact this
theorem place_mem {l:List Int} (n:Int):plc l n<0↔n∉l:=by
 unfold plc
 split
 ·rename_i h
  exact ⟨fun e=>by omega,fun e=>absurd h e⟩
 ·rename_i h
  exact ⟨fun _=>h,fun _=>by omega⟩
theorem svalid (hp:PV p) (hv:validB (p.map fun r=>r.map toIns)=true) (hsz:p.length<=1048576/\total p<=1048576) (hx:∀ r∈x.2,r.length<=1048576):Ret (F_spec_ExecValid p ⟨x.1,x.2⟩) fun b=>b=true↔Chk p x:=by
 have hel:=evs_len hp.vs
 have hS:F_spec_ProgramValid p=some (validB (p.map fun r=>r.map toIns)):=gd_true (decide_eq_true hsz)
 unfold F_spec_ExecValid
 refine (Ret.of (P:=(· = true)) hS hv).bind fun v1 h1 => ?_
 subst h1
 refine .bif (fun h=>by cases h) fun _=>(sevents hp.vs).bind fun v3 h3 => ?_
 subst h3
 refine Ret.bind (P:=fun b:Bool=>b=false↔x.1.length=(evs p).length/\x.2.length=3) (.bif (fun h => .pure ⟨fun e=>(by cases e),fun e => ?_⟩) fun h => .pure ?_) fun v4 h4 => .bif (fun h => .pure ⟨fun e=>(by cases e),fun e => ?_⟩) fun h => ?_
 ·have h : ¬ (x.1.length:Int)=((evs p).length:Int):=by simpa using h
  omega
 ·have h:(x.1.length:Int)=((evs p).length:Int):=by simpa using h
  show ((x.2.length:Int) != 3)=false↔_
  rw [bne_eq_false_iff_eq]
  exact ⟨fun e=>⟨by omega,by omega⟩,fun e=>by omega⟩
 ·have := h4.2 ⟨e.f,e.o⟩
  rw [this] at h
  cases h
 obtain ⟨hf,ho⟩:=h4.1 h
 refine Ret.sum (PS:=fun _=>∀ n:Nat,n<(evs p).length->if (ev p (n:Int)).Reads=true then x.1.getD n default∈wrs p (ev p (n:Int)).Loc/\x.1.getD n default≠n else x.1.getD n default = -1) (PW:=fun b=>b=true↔Chk p x) ?_ fun _ hr => ?_
 ·refine Ret.loop (fun z=>∃ n:Nat,n<=(evs p).length/\z=(n:Int)/\∀ j:Nat,j<n->if (ev p (j:Int)).Reads=true then x.1.getD j default∈wrs p (ev p (j:Int)).Loc/\x.1.getD j default≠j else x.1.getD j default = -1) (fun z=>(((evs p).length:Int)-z).toNat) ⟨0,by omega,rfl,fun j hj=>absurd hj (by omega)⟩ fun z ⟨n,n1,n2,n3⟩ => ?_
  subst n2
  unfold F_spec_ExecValid_L11
  have en:(evs p).getD n default=ev p (n:Int):=by unfold ev;rw [Int.toNat_natCast]
  simp only [Int.toNat_natCast,en]
  refine .bifD (fun hk => ?_) fun hk => .pure fun m hm=>n3 m (by omega)
  have hl:=ev_loc hp (n:=(n:Int)) (by omega) hk
  refine Ret.sum (PS:=fun _=>if (ev p (n:Int)).Reads=true then x.1.getD n default∈wrs p (ev p (n:Int)).Loc/\x.1.getD n default≠n else x.1.getD n default = -1) ?_ fun _ hn => .gdI (by omega) (.pure ⟨⟨n+1,by omega,rfl,fun j hj => ?_⟩,by omega⟩)
  ·refine Ret.sum (PS:=fun _=>(ev p (n:Int)).Reads=true->x.1.getD n default∈wrs p (ev p (n:Int)).Loc) ?_ fun _ hin => ?_
   ·refine Ret.bind (P:=fun b:Bool=>b=false↔((ev p (n:Int)).Reads=true->x.1.getD n default∈wrs p (ev p (n:Int)).Loc)) (.gdD ⟨by omega,hk⟩ (.bif (fun hrd=>(writers_ret hp _).bind fun v18 h18 => .gdD ⟨by omega,by omega⟩ ?_) fun hrd => .pure ⟨fun _ e=>(by rw [hrd] at e;cases e),fun _=>rfl⟩)) fun v hv => .bif (fun h => .pure ⟨fun e=>(by cases e),fun e => ?_⟩) fun h => .pure (hv.1 h)
    ·have h18:v18=wrs p (ev p (n:Int)).Loc:=h18
     subst h18
     refine (place_ret (by have := wrs_len (p:=p) (ev p (n:Int)).Loc;omega) _).bind fun v20 h20 => .pure ?_
     rw [decide_eq_false_iff_not,h20,place_mem]
     exact ⟨fun e _=>Decidable.not_not.1 e,fun e=>Decidable.not_not.2 (e hrd)⟩
    ·have := e.r n (by omega)
     have h0:v=false:=hv.2 fun hrd=>by
      rw [if_pos hrd] at this
      exact this.1
     rw [h0] at h
     cases h
   ·refine .gdD ⟨by omega,hk⟩ (Ret.bind (P:=fun b:Bool=>b=false↔((ev p (n:Int)).Reads=false->x.1.getD n default = -1)) (.bif (fun hrd => .gdD ⟨by omega,by omega⟩ (.pure ?_)) fun hrd => .pure ⟨fun _ e=>by simp [e] at hrd,fun _=>rfl⟩) fun v23 h23 => ?_)
    ·have hrd:(ev p (n:Int)).Reads=false:=by simpa using hrd
     show (x.1.getD n default != -1)=false↔_
     rw [bne_eq_false_iff_eq]
     exact ⟨fun e _=>e,fun e=>e hrd⟩
    refine Ret.bind (P:=fun b:Bool=>b=false↔v23=false/\x.1.getD n default≠n) (.bif (fun h => .pure ⟨fun e=>(by cases e),fun e=>by rw [h] at e;exact absurd e.1 (by decide)⟩) fun h => .gdD ⟨by omega,by omega⟩ (.pure ?_)) fun v26 h26 => .bif (fun h => .pure ⟨fun e=>(by cases e),fun e => ?_⟩) fun h => .pure ?_
    ·show (x.1.getD n default==(n:Int))=false↔_
     rw [beq_eq_false_iff_ne]
     exact ⟨fun e=>⟨h,e⟩,fun e=>e.2⟩
    ·have hc:=e.r n (by omega)
     have h0:v26=false:=h26.2 (by
      cases hrd:(ev p (n:Int)).Reads with
      | true=>
       rw [if_pos hrd] at hc
       exact ⟨h23.2 fun e=>(by rw [hrd] at e;cases e),hc.2⟩
      | false=>
       rw [if_neg (by rw [hrd];decide)] at hc
       exact ⟨h23.2 fun _=>hc,by rw [hc];omega⟩)
     rw [h0] at h
     cases h
    ·obtain ⟨g1,g2⟩:=h26.1 h
     have g3:=h23.1 g1
     have key:if (ev p (n:Int)).Reads=true then x.1.getD n default∈wrs p (ev p (n:Int)).Loc/\x.1.getD n default≠n else x.1.getD n default = -1:=by
      by_cases hrd:(ev p (n:Int)).Reads=true
      ·rw [if_pos hrd]
       exact ⟨hin hrd,g2⟩
      ·rw [if_neg hrd]
       exact g3 (by simpa using hrd)
     exact key
  ·by_cases ej:j=n
   ·subst ej;exact hn
   ·exact n3 j (by omega)
 ·refine Ret.sum (PS:=fun _=>∀ l:Nat,l<3->(x.2.getD l default).Perm (wrs p (l:Int))/\(x.2.getD l default).getD 0 default=l) (PW:=fun b=>b=true↔Chk p x) ?_ fun _ hod => .pure ⟨fun _=>⟨hf,ho,hr,hod⟩,fun _=>rfl⟩
  refine Ret.loop (fun z=>∃ n:Nat,n<=3/\z=(n:Int)/\∀ l:Nat,l<n->(x.2.getD l default).Perm (wrs p (l:Int))/\(x.2.getD l default).getD 0 default=l) (fun z=>(3-z).toNat) ⟨0,by omega,rfl,fun l hl=>absurd hl (by omega)⟩ fun z ⟨n,n1,n2,n3⟩ => ?_
  subst n2
  unfold F_spec_ExecValid_L35
  simp only [Int.toNat_natCast]
  refine .bifD (fun hk => .gdD ⟨by omega,by omega⟩ ((writers_ret hp _).bind fun v38 h38 => ?_)) fun hk => .pure fun l hl=>n3 l (by omega)
  have h38:v38=wrs p (n:Int):=h38
  subst h38
  obtain ⟨t,ht⟩:=wrs_head (p:=p) (l:=n) (by omega)
  have hwl:=wrs_len (p:=p) (n:Int)
  refine (orderP_ret (l:=x.2.getD n default) (by have := hx _ (getD_in (show n<x.2.length by omega));omega) (wrs_nd _) (by omega) (by rw [ht];simp)).bind fun v39 h39 => .bif (fun h => .pure ⟨fun e=>(by cases e),fun e => ?_⟩) fun h => .gdI (by omega) (.pure ⟨⟨n+1,by omega,rfl,fun l hl => ?_⟩,by omega⟩)
  ·obtain ⟨g1,g2⟩:=e.ords n (by omega)
   have : v39=true:=h39.2 ⟨g1,by rw [g2,ht];rfl⟩
   rw [this] at h
   cases h
  ·by_cases el:l=n
   ·subst el
    obtain ⟨g1,g2⟩:=h39.1 (by simpa using h)
    exact ⟨g1,by rw [g2,ht];rfl⟩
   ·exact n3 l (by omega)
theorem le_uniq:∀ {l k:List Int},l.Perm k->l.Pairwise (· <= ·)->k.Pairwise (· <= ·)->l=k
 | [],k,h,_,_=>h.nil_eq
 | a::l,[],h,_,_=>absurd h.length_eq (by simp)
 | a::l,b::k,h,h1,h2=>by
  have hab:a=b:=by
   rcases List.mem_cons.1 (h.subset (List.mem_cons_self)) with e | e
   ·exact e
   ·rcases List.mem_cons.1 (h.symm.subset (List.mem_cons_self)) with e2 | e2
    ·exact e2.symm
    ·have := (List.pairwise_cons.1 h1).1 b e2
     have := (List.pairwise_cons.1 h2).1 a e
     omega
  subst hab
  rw [le_uniq (List.perm_cons a |>.1 h) (List.pairwise_cons.1 h1).2 (List.pairwise_cons.1 h2).2]
theorem srt_iff {l w:List Int} (hw:w.Pairwise (· <= ·)):srtI l=w↔l.Perm w:=
 ⟨fun e=>by rw [<- e];exact (srtI_perm l).symm,fun h=>le_uniq ((srtI_perm l).trans h) (srtI_sorted l) hw⟩
theorem clone_ret {l:List Int} (h:l.length<=4000000):Ret (F_slices_Clone_int_int l) (· = l):=by
 unfold F_slices_Clone_int_int
 cases l with
 | nil=>exact .of (v:=[]) (by show nilK true (some ([]:List Int)) (some [])=some [];unfold nilK;exact if_pos rfl) rfl
 | cons a l=>exact (Ret.gd (capOK_le (by simp at h ⊢;omega) rfl) (.pure (by simp)):Ret (gd (capOK (([]:List Int).length+(a::l).length) 8) (some (([]:List Int)++a::l))) (· = a::l))
theorem ivalid (hp:PV p) (hv:validB (p.map fun r=>r.map toIns)=true) (hsz:p.length<=1048576/\total p<=1048576) (hx:∀ r∈x.2,r.length<=1048576):Ret (F_impl_ExecValid p ⟨x.1,x.2⟩) fun b=>b=true↔Chk p x:=by
 have hel:=evs_len hp.vs
 have hS:F_impl_ProgramValid p=some (validB (p.map fun r=>r.map toIns)):=gd_true (decide_eq_true hsz)
 unfold F_impl_ExecValid
 refine (Ret.of (P:=(· = true)) hS hv).bind fun v1 h1 => ?_
 subst h1
 refine .bif (fun h=>by cases h) fun _=>(ievents hp.vs).bind fun v3 h3 => ?_
 subst h3
 refine Ret.bind (P:=fun b:Bool=>b=false↔x.1.length=(evs p).length/\x.2.length=3) (.bif (fun h => .pure ⟨fun e=>(by cases e),fun e => ?_⟩) fun h => .pure ?_) fun v4 h4 => .bif (fun h => .pure ⟨fun e=>(by cases e),fun e => ?_⟩) fun h => ?_
 ·have h : ¬ (x.1.length:Int)=((evs p).length:Int):=by simpa using h
  omega
 ·have h:(x.1.length:Int)=((evs p).length:Int):=by simpa using h
  show ((x.2.length:Int) != 3)=false↔_
  rw [bne_eq_false_iff_eq]
  exact ⟨fun e=>⟨by omega,by omega⟩,fun e=>by omega⟩
 ·have := h4.2 ⟨e.f,e.o⟩
  rw [this] at h
  cases h
 obtain ⟨hf,ho⟩:=h4.1 h
 refine Ret.sum (PS:=fun _=>∀ n:Nat,n<(evs p).length->if (ev p (n:Int)).Reads=true then x.1.getD n default∈wrs p (ev p (n:Int)).Loc/\x.1.getD n default≠n else x.1.getD n default = -1) (PW:=fun b=>b=true↔Chk p x) ?_ fun _ hr => ?_
 ·refine Ret.loop (fun z=>∃ n:Nat,n<=(evs p).length/\z=(n:Int)/\∀ j:Nat,j<n->if (ev p (j:Int)).Reads=true then x.1.getD j default∈wrs p (ev p (j:Int)).Loc/\x.1.getD j default≠j else x.1.getD j default = -1) (fun z=>(((evs p).length:Int)-z).toNat) ⟨0,by omega,rfl,fun j hj=>absurd hj (by omega)⟩ fun z ⟨n,n1,n2,n3⟩ => ?_
  subst n2
  unfold F_impl_ExecValid_L11
  have en:(evs p).getD n default=ev p (n:Int):=by unfold ev;rw [Int.toNat_natCast]
  simp only [Int.toNat_natCast,en]
  refine .bifD (fun hk => .gdD ⟨by omega,hk⟩ (.gdD ⟨by omega,by omega⟩ ?_)) fun hk => .pure fun m hm=>n3 m (by omega)
  have hl:=ev_loc hp (n:=(n:Int)) (by omega) hk
  refine Ret.bind (P:=fun b:Bool=>b=false↔((ev p (n:Int)).Reads=false->x.1.getD n default = -1)) (.bif (fun hrd => .pure ?_) fun hrd => .pure ⟨fun _ e=>(by simp [e] at hrd),fun _=>rfl⟩) fun s15 h15 => ?_
  ·have hrd:(ev p (n:Int)).Reads=false:=by simpa using hrd
   show (x.1.getD n default != -1)=false↔_
   rw [bne_eq_false_iff_eq]
   exact ⟨fun e _=>e,fun e=>e hrd⟩
  refine Ret.bind (P:=fun b:Bool=>b=false↔if (ev p (n:Int)).Reads=true then x.1.getD n default∈wrs p (ev p (n:Int)).Loc/\x.1.getD n default≠n else x.1.getD n default = -1) ?_ fun s17 h17 => .bif (fun h => .pure ⟨fun e=>(by cases e),fun e => ?_⟩) fun h => .gdI (by omega) (.pure ⟨⟨n+1,by omega,rfl,fun j hj => ?_⟩,by omega⟩)
  ·refine .bif (fun h => .pure ⟨fun e=>(by cases e),fun e => ?_⟩) fun h => ?_
   ·have h0:s15=false:=h15.2 fun hrd=>by
     rw [if_neg (by rw [hrd];decide)] at e
     exact e
    rw [h0] at h
    cases h
   ·refine Ret.bind (P:=fun b:Bool=>b=false↔if (ev p (n:Int)).Reads=true then x.1.getD n default∈wrs p (ev p (n:Int)).Loc/\x.1.getD n default≠n else x.1.getD n default = -1) (.bif (fun hrd => ?_) fun hrd => .pure ⟨fun _=>by rw [if_neg (by rw [hrd];decide)];exact h15.1 h hrd,fun _=>rfl⟩) fun v hv => .pure hv
    refine Ret.bind (P:=fun b:Bool=>b=false↔x.1.getD n default∈wrs p (ev p (n:Int)).Loc/\x.1.getD n default≠n) (.bif (fun he => .pure ⟨fun e=>(by cases e),fun e => ?_⟩) fun he=>(iwriters hp _).bind fun v23 h23=>(contains_ret _ _ (by rw [h23];have := wrs_len (p:=p) (ev p (n:Int)).Loc;omega)).bind fun v24 h24 => .pure ?_) fun v hv => .pure (by rw [if_pos hrd];exact hv)
    ·have he:x.1.getD n default=n:=by simpa using he
     exact absurd he e.2
    ·have he:x.1.getD n default≠n:=by simpa using he
     subst h23
     rw [h24]
     show (!decide (x.1.getD n default∈wrs p (ev p (n:Int)).Loc))=false↔_
     rw [Bool.not_eq_false',decide_eq_true_eq]
     exact ⟨fun e=>⟨e,he⟩,fun e=>e.1⟩
  ·have h0:s17=false:=h17.2 (e.r n (by omega))
   rw [h0] at h
   cases h
  ·by_cases ej:j=n
   ·subst ej;exact h17.1 h
   ·exact n3 j (by omega)
 ·refine Ret.sum (PS:=fun _=>∀ l:Nat,l<3->(x.2.getD l default).Perm (wrs p (l:Int))/\(x.2.getD l default).getD 0 default=l) (PW:=fun b=>b=true↔Chk p x) ?_ fun _ hod => .pure ⟨fun _=>⟨hf,ho,hr,hod⟩,fun _=>rfl⟩
  refine Ret.loop (fun z=>∃ n:Nat,n<=3/\z=(n:Int)/\∀ l:Nat,l<n->(x.2.getD l default).Perm (wrs p (l:Int))/\(x.2.getD l default).getD 0 default=l) (fun z=>(3-z).toNat) ⟨0,by omega,rfl,fun l hl=>absurd hl (by omega)⟩ fun z ⟨n,n1,n2,n3⟩ => ?_
  subst n2
  unfold F_impl_ExecValid_L31
  simp only [Int.toNat_natCast]
  refine .bifD (fun hk => .gdD ⟨by omega,by omega⟩ ?_) fun hk => .pure fun l hl=>n3 l (by omega)
  have hrl:=hx _ (getD_in (show n<x.2.length by omega))
  refine (clone_ret (l:=x.2.getD n default) (by omega)).bind fun v34 h34 => ?_
  subst h34
  refine Ret.bind (P:=(· = srtI (x.2.getD n default))) (.gdD (by omega) (.pure rfl)) fun v38 h38=>(iwriters hp _).bind fun v39 h39 => ?_
  subst h38 h39
  have hsl:(srtI (x.2.getD n default)).length=(x.2.getD n default).length:=(srtI_perm _).length_eq
  refine (equalE_ret (by omega)).bind fun v40 h40 => ?_
  subst h40
  obtain ⟨t,ht⟩:=wrs_head (p:=p) (l:=n) (by omega)
  refine Ret.bind (P:=fun b:Bool=>b=false↔(x.2.getD n default).Perm (wrs p (n:Int))/\(x.2.getD n default).getD 0 default=n) (.bif (fun h => .pure ⟨fun e=>(by cases e),fun e => ?_⟩) fun h => ?_) fun s41 h41 => .bif (fun h => .pure ⟨fun e=>(by cases e),fun e => ?_⟩) fun h => .gdI (by omega) (.pure ⟨⟨n+1,by omega,rfl,fun l hl => ?_⟩,by omega⟩)
  ·rw [decide_eq_true ((srt_iff (wrs_inc _)).2 e.1)] at h
   cases h
  ·have hp2:(x.2.getD n default).Perm (wrs p (n:Int)):=(srt_iff (wrs_inc _)).1 (by simpa using h)
   have hpos:0<(x.2.getD n default).length:=by rw [hp2.length_eq,ht];simp
   refine .gdD ⟨by omega,by show (0:Int)<((x.2.getD n default).length:Int);omega⟩ (.pure ?_)
   show ((x.2.getD n default).getD 0 default != (n:Int))=false↔_
   rw [bne_eq_false_iff_eq]
   exact ⟨fun e=>⟨hp2,e⟩,fun e=>e.2⟩
  ·have h0:s41=false:=h41.2 (e.ords n (by omega))
   rw [h0] at h
   cases h
  ·by_cases el:l=n
   ·subst el;exact h41.1 h
   ·exact n3 l (by omega)
theorem schedule_both (hsz:p.length<=1048576/\total p<=1048576) (hx:∀ r∈x.2,r.length<=1048576):∃ l b,F_impl_ScheduleOf p ⟨x.1,x.2⟩=some (l,b)/\F_spec_ScheduleOf p ⟨x.1,x.2⟩=some (l,b)/\l.length<=21:=by
 have hI:F_impl_ProgramValid p=some (validB (p.map fun r=>r.map toIns)):=gd_true (decide_eq_true hsz)
 have hS:F_spec_ProgramValid p=some (validB (p.map fun r=>r.map toIns)):=gd_true (decide_eq_true hsz)
 cases hv:validB (p.map fun r=>r.map toIns) with
 | false=>
  rw [hv] at hI hS
  refine ⟨[],false,?_,?_,by simp⟩
  ·unfold F_impl_ScheduleOf F_impl_ExecValid
   rw [hI]
   rfl
  ·unfold F_spec_ScheduleOf F_spec_ExecValid
   rw [hS]
   rfl
 | true=>
  have hp:=PV.of hv
  obtain ⟨b,e1,h1⟩:=ivalid hp hv hsz hx
  obtain ⟨c,e2,h2⟩:=svalid hp hv hsz hx
  obtain rfl:b=c:=Bool.eq_iff_iff.2 (h1.trans h2.symm)
  cases b with
  | false=>
   refine ⟨[],false,?_,?_,by simp⟩
   ·unfold F_impl_ScheduleOf
    rw [e1]
    rfl
   ·unfold F_spec_ScheduleOf
    rw [e2]
    rfl
  | true=>
   have hC:=(h1.1 rfl).cand hp
   obtain ⟨l,b,g1,g2,g3,_⟩:=sched_both hp hv hC
   refine ⟨l,b,?_,?_,g3⟩
   ·unfold F_impl_ScheduleOf
    rw [e1]
    refine Ret.eq ((Ret.of (P:=(· = true)) rfl rfl).bind fun v hv => .bif (fun h=>by subst hv;cases h) fun _=>(Ret.of (P:=(· = (l,b))) g1 rfl).bind fun v3 h3 => .pure ?_)
    rw [h3]
   ·unfold F_spec_ScheduleOf
    rw [e2]
    refine Ret.eq ((Ret.of (P:=(· = true)) rfl rfl).bind fun v hv => .bif (fun h=>by subst hv;cases h) fun _=>(rel4_ret hp (exok hp hC)).bind fun v3 h3=>(Ret.of (P:=(· = (l,b))) (by rw [h3];exact g2) rfl).bind fun v4 h4 => .pure ?_)
    rw [h4]
end
end Go.Proofs.Ytlmjnhnpahicmaa
