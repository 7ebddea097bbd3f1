/-
 Walks with own slices that are cut, pointers whose first cells are looked at only, calls that write several blocks. Plain theorems over any program. No conditions.
-/
import Derived.Test.YtlmjnhnpahicmaaGH
namespace Go.Proofs.Ytlmjnhnpahicmaa
open Go.RowKit
set_option maxRecDepth 100000
theorem Cx.trim {c : Cx} {b ver s off n : Nat} {ty : TypeId} {rows : List (List AV)} (hr : HRel c) (hb : c.H[b]? = some (some ⟨ver,s,ty,rows⟩)) (hle : off + n <= rows.length) {v : Value} (hv : c.rel (.hs b ver s off n) v) :
  ∃ c' : Cx,c'.w = c.w /\ c'.H = c.H.set b (some ⟨ver + 1,s,ty,(rows.drop off).take n⟩) /\ HRel c' /\ Ext c c' /\ c'.rel (.hs b (ver + 1) s 0 n) v := by
 have hlv : c.live b ⟨ver,s,ty,rows⟩ := hb
 have hblt : b < c.H.length := (List.getElem?_eq_some_iff.1 hb).1
 obtain ⟨cs,fr,hB⟩ := hr.blk b _ hlv
 cases hv with
 | fr h => cases h
 | @hs _ _ _ _ _ cap A hbn hc hm h0 hh =>
  obtain ⟨fr,rfl,hat,hd⟩ := hB.cells hlv (fun x hx => (hh x hx).1)
  obtain ⟨_,hn,hA,hcap⟩ := hh _ hd
  let c' : Cx := { w := c.w,fz := c.fz,H := c.H.set b (some ⟨ver + 1,s,ty,(rows.drop off).take n⟩),φ := fun j => if j = b then ((c.φ b).1,(c.φ b).2 + off * s) else c.φ j }
  have φb : c'.φ b = ((c.φ b).1,(c.φ b).2 + off * s) := if_pos rfl
  have φo : ∀ {j},j ≠ b -> c'.φ j = c.φ j := fun {j} hj => if_neg hj
  have φ1 : ∀ j,(c'.φ j).1 = (c.φ j).1 := fun j => by
   by_cases hj : j = b
   ·subst hj; rw [φb]
   ·rw [φo hj]
  have Hb : c'.H[b]? = some (some ⟨ver + 1,s,ty,(rows.drop off).take n⟩) := by
   show (c.H.set b _)[b]? = _
   rw [List.getElem?_set_self hblt]
  have Ho : ∀ {j},j ≠ b -> c'.H[j]? = c.H[j]? := fun {j} hj => by
   show (c.H.set b _)[j]? = _
   rw [List.getElem?_set_ne (Ne.symm hj)]
  have lv : ∀ {j k},c'.live j k -> (j = b /\ k = ⟨ver + 1,s,ty,(rows.drop off).take n⟩) \/ (j ≠ b /\ c.live j k) := fun {j k} hl => by
   by_cases hj : j = b
   ·subst hj
    have hl' : c'.H[j]? = some (some k) := hl
    rw [Hb] at hl'
    injection hl' with hl'
    injection hl' with hl'
    exact .inl ⟨rfl,hl'.symm⟩
   ·have hl' : c'.H[j]? = some (some k) := hl
    rw [Ho hj] at hl'
    exact .inr ⟨hj,hl'⟩
  have hx : Ext c c' := by
   refine ⟨rfl,rfl,rfl,Nat.le_refl _,fun _ _ _ => rfl,fun _ h => h,fun _ h => .inl h,by show c.H.length <= (c.H.set b _).length; rw [List.length_set]; exact Nat.le_refl _,fun j q hj => ?_,fun j q x hj hx => ?_,fun j k hl => .inr ?_⟩
   ·by_cases e : j = b
    ·subst e
     unfold Cx.born at hj ⊢
     rw [hb] at hj
     rw [Hb]
     simp only at hj ⊢
     omega
    ·unfold Cx.born at hj ⊢
     rw [Ho e]
     exact hj
   ·by_cases e : j = b
    ·subst e
     unfold Cx.born at hj
     rw [hb] at hj
     unfold Cx.hd at hx
     rw [Hb] at hx
     simp only at hj hx
     rw [if_neg (by omega)] at hx
     cases hx
    ·unfold Cx.hd at hx ⊢
     rw [Ho e,φo e] at hx
     exact hx
   ·rcases lv hl with ⟨rfl,_⟩ | ⟨_,h⟩
    ·exact ⟨j,_,hlv,(φ1 j).symm⟩
    ·exact ⟨j,k,h,(φ1 j).symm⟩
  have hlen : ((rows.drop off).take n).length = n := by rw [List.length_take,List.length_drop]; omega
  have hfit := hB.fits
  simp only at hfit
  refine ⟨c',rfl,rfl,⟨hr.lt,fun j k hl => ?_,fun j j' k k' hl hl' hne => ?_⟩,hx,?_⟩
  ·rcases lv hl with ⟨rfl,rfl⟩ | ⟨hj,h⟩
   ·refine ⟨cs,some fr,⟨?_,?_,hB.pos,hB.free,?_,fun i r hi => ?_,fun i r q a hi ha => ?_⟩⟩
    ·show c.w.heap[(c'.φ j).1]? = _
     rw [φ1,hat]
     rfl
    ·rw [φ1]; exact hB.nf
    ·rw [φb]
     show (c.φ j).2 + off * s + ((rows.drop off).take n).length * s <= cs.size
     rw [hlen]
     have : off * s + n * s <= rows.length * s := by rw [<- Nat.add_mul]; exact Nat.mul_le_mul_right s hle
     omega
    ·have hi' : ((rows.drop off).take n)[i]? = some r := hi
     rw [List.getElem?_take] at hi'
     split at hi'
     ·rw [List.getElem?_drop] at hi'
      exact hB.len _ r hi'
     ·cases hi'
    ·have hi' : ((rows.drop off).take n)[i]? = some r := hi
     rw [List.getElem?_take] at hi'
     split at hi'
     ·rw [List.getElem?_drop] at hi'
      obtain ⟨u,g1,g2,g3⟩ := hB.rel _ r q a hi' ha
      refine ⟨u,?_,g2,g3.ext hr hx⟩
      rw [φb]
      show cs[(c.φ j).2 + off * s + i * s + q]? = some u
      rw [<- g1]
      congr 1
      show (c.φ j).2 + off * s + i * s + q = (c.φ j).2 + (off + i) * s + q
      rw [Nat.add_mul]
      omega
     ·cases hi'
   ·obtain ⟨cs',fr',hB'⟩ := hr.blk j k h
    exact ⟨cs',fr',⟨by rw [φo hj]; exact hB'.at_,by rw [φo hj]; exact hB'.nf,hB'.pos,hB'.free,by rw [φo hj]; exact hB'.fits,hB'.len,fun i r q a hi ha => by
     obtain ⟨u,g1,g2,g3⟩ := hB'.rel i r q a hi ha
     exact ⟨u,by rw [φo hj]; exact g1,g2,g3.ext hr hx⟩⟩⟩
  ·have old : ∀ {j k},c'.live j k -> ∃ k0,c.live j k0 := fun {j k} hl => by
    rcases lv hl with ⟨rfl,_⟩ | ⟨_,h⟩
    ·exact ⟨_,hlv⟩
    ·exact ⟨_,h⟩
   obtain ⟨_,h1⟩ := old hl
   obtain ⟨_,h2⟩ := old hl'
   rw [φ1,φ1]
   exact hr.inj j j' _ _ h1 h2 hne
  ·refine .hs ?_ hc hm h0 fun x hx => ?_
   ·unfold Cx.born
    rw [Hb]
    exact Nat.le_refl _
   ·have hat' : c'.w.heap[(c'.φ b).1]? = some (.cells cs ty fr) := by rw [φ1]; exact hat
    have := Cx.hd_of (c:=c') (b:=b) (k:=⟨ver + 1,s,ty,(rows.drop off).take n⟩) Hb hat'
    have he := hx.symm.trans this
    simp only [hdo,Option.some.injEq] at he
    subst he
    rw [φb]
    refine ⟨rfl,by show 0 + n <= ((rows.drop off).take n).length; rw [hlen]; omega,fun hp => ?_,?_⟩
    ·show A = some ⟨(c.φ b).1,(c.φ b).2 + off * s + 0 * s,none⟩
     rw [Nat.zero_mul]
     exact hA hp
    ·show (c.φ b).2 + off * s + 0 * s + cap * s <= cs.size
     rw [Nat.zero_mul]
     exact hcap
section
variable {P : Program} {ρ : Operand -> AV} {H : AH}
theorem EvA.trim {op : Op} {b ver s off n : Nat} {ty : TypeId} {rows : List (List AV)} (h : EvN P ρ op (.hs b ver s off n)) (hb : H[b]? = some (some ⟨ver,s,ty,rows⟩)) (hle : off + n <= rows.length) :
  EvA P ρ op H (.hs b (ver + 1) s 0 n) (H.set b (some ⟨ver + 1,s,ty,(rows.drop off).take n⟩)) := fun o ho c a K Q hH hr hxs hK =>
 h o ho H c a K Q hH hr hxs fun v c1 hH1 hr1 hx1 hv1 => by
  obtain ⟨c2,e1,e2,e3,e4,e5⟩ := Cx.trim hr1 (by rw [hH1]; exact hb) hle hv1
  rw [<- e1]
  exact hK v c2 (by rw [e2,hH1]) e3 (hx1.trans e4) e5
theorem EvA.cutO {α : Type} {f : α -> List AV} {op : Op} {b ver w n : Nat} {ty : TypeId} (l : List α) {zl zh : Int} (h : EvN P ρ op (.hs b ver w (0 + zl.toNat) (zh.toNat - zl.toNat))) (hb : H[b]? = some (bE false ver w ty (l.map f))) (hn : n = l.length)
  (g : 0 <= zl /\ zl <= zh /\ zh <= (n : Int)) :
  EvA P ρ op H (hS false b (ver + 1) w ((l.drop zl.toNat).take (zh.toNat - zl.toNat)).length) (H.set b (bE false (ver + 1) w ty (((l.drop zl.toNat).take (zh.toNat - zl.toNat)).map f))) := by
 obtain ⟨g1,g2,g3⟩ := g
 have hl : ((l.drop zl.toNat).take (zh.toNat - zl.toNat)).length = zh.toNat - zl.toNat := by rw [List.length_take,List.length_drop]; omega
 have := EvA.trim h (rows:=l.map f) hb (by rw [List.length_map]; omega)
 rw [hl,List.map_take,List.map_drop]
 rw [Nat.zero_add] at this
 exact this
inductive FzP (H : AH) : AV -> AV -> Prop
 | fz {a a' : AV} (h : Fz 0 H a a') : FzP H a a'
 | hp {b ver s j : Nat} {ty : TypeId} {r x row' : List AV} (hk : H[b]? = some (some ⟨ver,s,ty,[r ++ x]⟩)) (h : FzL 0 H r row') : FzP H (.hp b ver s 0 j) (.fp row' j)
theorem FzP.sound {c : Cx} (hr : HRel c) {a r : AV} (h : FzP c.H a r) : ∀ v,c.rel a v -> FRel c.w (c.all 0) r v := by
 cases h with
 | fz h => exact Fz.sound hr h
 | @hp b ver s j ty r x row' hk h =>
  intro u hu
  have hlv : c.live b ⟨ver,s,ty,[r ++ x]⟩ := hk
  obtain ⟨hl,h⟩ := h.spec
  obtain ⟨cs,fr,hB⟩ := hr.blk b _ hlv
  cases hu with
  | fr h => cases h
  | hp hb hh =>
   obtain ⟨fr,rfl,hat,hd⟩ := hB.cells hlv (fun x hx => (hh x hx).1)
   obtain ⟨hs',rfl⟩ := hh _ hd
   refine .fp (g:=(c.φ b).1) (o:=(c.φ b).2 + 0 * s) (fun j => (cs[(c.φ b).2 + 0 * s + j]?).getD undef) (.inr ⟨b,_,Nat.zero_le _,hlv,rfl⟩) (hr.live_lt hlv) (fun q d hq => ?_) (fun q d hq => ?_) (fun q d hq => ?_)
   all_goals
    obtain ⟨y,hy⟩ := get_of_len hl.symm hq
    have hlt := (List.getElem?_eq_some_iff.1 hy).1
    obtain ⟨u,g1,g2,g3⟩ := hB.rel 0 (r ++ x) q y rfl (by rw [List.getElem?_append_left hlt]; exact hy)
    replace g1 : cs[(c.φ b).2 + 0 * s + q]? = some u := g1
   ·rw [cell_of_row c.w _ _ cs ty fr hat,g1]
    rfl
   ·rw [g1]; exact g2
   ·rw [g1]; exact Fz.sound hr (h q y d hy hq) u g3
inductive FzPL (H : AH) : List AV -> List AV -> Prop
 | nil : FzPL H [] []
 | cons {a b : AV} {l k : List AV} (h : FzP H a b) (t : FzPL H l k) : FzPL H (a :: l) (b :: k)
theorem FzPL.spec {l k : List AV} (h : FzPL H l k) : l.length = k.length /\ ∀ (i : Nat) (c d : AV),l[i]? = some c -> k[i]? = some d -> FzP H c d := by
 induction h with
 | nil => exact ⟨rfl,fun i c d h => by simp at h⟩
 | cons h t ih =>
  refine ⟨by simp [ih.1],fun i c d h1 h2 => ?_⟩
  cases i with
  | zero =>
   simp only [List.getElem?_cons_zero,Option.some.injEq] at h1 h2
   subst h1 h2
   exact h
  | succ i =>
   simp only [List.getElem?_cons_succ] at h1 h2
   exact ih.2 i c d h1 h2
theorem PCall.tmpP {f : FuncId} {r : AV} {as as' : List AV} (h : PCall P f as' r) (hl0 : as.length = as'.length) (hz : ∀ (i : Nat) (a a' : AV),as[i]? = some a -> as'[i]? = some a' -> FzP H a a') (hd : dry 9 r = true) : ACall P f as H r H := by
 refine ⟨h.1,fun c vs hH hr hall => ?_⟩
 obtain ⟨hl,hrel⟩ := hall
 refine (h.2 c.w (c.all 0) vs (fun g hg => Cx.all_lt hr hg) (hl.trans hl0) (fun i a v ha hv => ?_)).mono fun e w' ⟨v,fz',he,hb,hv,h1,h2,h3⟩ => ?_
 ·obtain ⟨q,hq⟩ := get_of_len hl0.symm ha
  exact FzP.sound hr (by rw [hH]; exact hz i q a hq ha) v (hrel i q v hq hv)
 ·obtain ⟨g1,g2⟩ := below_ctx hr hb (fz' := fun _ => False) (fun g hg => hg.elim) (fun g hg => hg.elim) (fun b k hlv hz => hz.elim)
  exact ⟨v,{ w := w',fz := fun g => c.fz g \/ False,H := c.H,φ := c.φ },he,rfl,hH,g1,g2,.fr (frel_dry 9 r v hd hv)⟩
theorem EvA.callTP {cl : Call} {f : Operand} {g : FuncId} {as : List AV} {r : AV} (hc : cl.callee = .value f) (hf : ρ f = .fn (.func g) []) (h : PCall P g as r) (hz : FzPL H (cl.args.toList.map ρ) as) (hd : dry 9 r = true) : EvA P ρ (.call cl) H r H :=
 EvA.call hc hf (List.append_nil _) (h.tmpP hz.spec.1 hz.spec.2 hd)
end
def OutV (r : AV) (G : Nat -> AH) : AV -> AH -> Prop := fun r' G' => ∃ ver,r' = r /\ G' = G ver
def setA : List Nat -> AH -> AH -> AH
 | [],_,H => H
 | b :: bs,G,H => match G with
  | [] => H
  | x :: xs => setA bs xs (H.set b x)
def setL (H : AH) (ids : List Nat) (G : AH) : AH := setA ids G H
theorem setL_cons {H : AH} {b : Nat} {bs : List Nat} {x : Option ABlk} {xs : AH} : setL H (b :: bs) (x :: xs) = setL (H.set b x) bs xs := rfl
theorem setL_length : ∀ (ids : List Nat) (H G : AH),(setL H ids G).length = H.length
 | [],_,_ => rfl
 | _ :: _,_,[] => rfl
 | b :: bs,H,x :: xs => by rw [setL_cons,setL_length bs,List.length_set]
theorem setL_ne {b : Nat} : ∀ (ids : List Nat) (H G : AH),b ∉ ids -> (setL H ids G)[b]? = H[b]?
 | [],_,_,_ => rfl
 | _ :: _,_,[],_ => rfl
 | c :: bs,H,x :: xs,h => by
  rw [setL_cons,setL_ne bs _ _ (fun hm => h (.tail _ hm)),List.getElem?_set_ne (fun e => h (by rw [e]; exact List.mem_cons_self))]
theorem setL_at : ∀ (ids : List Nat) (H G : AH) (i b : Nat),ids.Nodup -> ids[i]? = some b -> b < H.length -> i < G.length -> (setL H ids G)[b]? = G[i]?
 | [],_,_,_,_,_,h,_,_ => by simp at h
 | _ :: _,_,[],_,_,_,_,_,h => by simp at h
 | c :: bs,H,x :: xs,i,b,hn,h,hb,hi => by
  rw [setL_cons]
  obtain ⟨hn1,hn2⟩ := List.nodup_cons.1 hn
  cases i with
  | zero =>
   simp only [List.getElem?_cons_zero,Option.some.injEq] at h
   subst h
   rw [setL_ne bs _ _ hn1,List.getElem?_set_self hb]
   rfl
  | succ i =>
   simp only [List.getElem?_cons_succ] at h
   rw [setL_at bs _ xs i b hn2 h (by rw [List.length_set]; exact hb) (by simpa using hi)]
   rfl
inductive OutAt (S : Nat -> Nat -> Prop) (H : AH) : List Nat -> AH -> Prop
 | nil : OutAt S H [] []
 | cons {b : Nat} {k k0 : ABlk} {bs : List Nat} {G : AH} (hb : H[b]? = some (some k)) (hk : RenK S k k0) (t : OutAt S H bs G) : OutAt S H (b :: bs) (some k0 :: G)
theorem OutAt.spec {S : Nat -> Nat -> Prop} {H : AH} {ids : List Nat} {G : AH} (h : OutAt S H ids G) : ids.length = G.length /\ ∀ (i b : Nat),ids[i]? = some b -> ∃ k k0 : ABlk,H[b]? = some (some k) /\ G[i]? = some (some k0) /\ RenK S k k0 := by
 induction h with
 | nil => exact ⟨rfl,fun i b h => by simp at h⟩
 | @cons b k k0 bs G hb hk t ih =>
  refine ⟨by simp [ih.1],fun i c h => ?_⟩
  cases i with
  | zero =>
   simp only [List.getElem?_cons_zero,Option.some.injEq] at h
   subst h
   exact ⟨k,k0,hb,rfl,hk⟩
  | succ i =>
   simp only [List.getElem?_cons_succ] at h ⊢
   exact ih.2 i c h
section
variable {P : Program}
theorem BCall.outAt {f : FuncId} {as0 as : List AV} {H0 H : AH} {r0 r : AV} {G0 : Nat -> AH} (h : BCall P f as0 H0 (OutV r0 G0)) (ids : List Nat) (hn : ids.Nodup) (hin : OutAt (fun b i => ids[i]? = some b) H ids H0) (has : RenL (fun b i => ids[i]? = some b) as as0)
  {G G' : Nat -> AH} (N : Nat) (hN : H.length = N) (hout : ∀ v,RenHL (sg ids N) (G0 v) (G v)) (hlen : ∀ v,(G0 v).length = ids.length) (hr : Ren (sg ids N) r0 r) (hG : ∀ v,setL H ids (G v) = G' v) : BCall P f as H (OutV r G') := by
 subst hN
 refine h.frame ids hn hin.spec.1 hin.spec.2 has.spec.1 has.spec.2 fun r1 G1 ⟨v,e1,e2⟩ => ⟨r,G' v,?_,by rw [e1]; exact hr,v,rfl,rfl⟩
 subst e2
 obtain ⟨l1,l2,l3⟩ := (hout v).spec
 have hl := hlen v
 have lt : ∀ {i b},ids[i]? = some b -> b < H.length := fun {i b} hi => by
  obtain ⟨k,_,h1,_⟩ := hin.spec.2 i b hi
  exact (List.getElem?_eq_some_iff.1 h1).1
 have sgi : ∀ {i b},i < (G0 v).length -> sg ids H.length i b -> ids[i]? = some b := fun {i b} hi hs => by
  rcases hs with hs | ⟨hs,_⟩
  ·exact hs
  ·omega
 refine ⟨by omega,by rw [<- hG,setL_length]; omega,fun i b hi hs hd => ?_,fun i b k0 hs hk => ?_,fun b hb hni => by rw [<- hG,setL_ne _ _ _ hni]⟩
 ·have hib := sgi hi hs
  rw [<- hG,setL_at ids H (G v) i b hn hib (lt hib) (by omega)]
  have hg : i < (G v).length := by omega
  rw [List.getElem?_eq_getElem hg]
  cases hc : (G v)[i] with
  | none => rfl
  | some k' =>
   obtain ⟨k,h1,_⟩ := l3 i k' (by rw [List.getElem?_eq_getElem hg,hc])
   rw [hd] at h1
   cases h1
 ·have hi := (List.getElem?_eq_some_iff.1 hk).1
  have hib := sgi hi hs
  obtain ⟨k',h1,h2⟩ := l2 i k0 hk
  refine ⟨k',?_,h2⟩
  rw [<- hG,setL_at ids H (G v) i b hn hib (lt hib) (by omega)]
  exact h1
end
section
variable {P : Program} {nt b0 : Nat} {Q : Exit -> Env -> AH -> Prop} {en : List (Nat × AV)} {H : AH} {ops : Array Oper} {l : List Oper} {d : Tmp} {t : TypeId} {pos : String} {af : Array Edge}
theorem oW {cl : Call} {f : Operand} {g : FuncId} {caps as : List AV} {r : AV} {G : Nat -> AH} (hc : cl.callee = .value f) (hf : rho (envOf en) f = .fn (.func g) caps) (ha : cl.args.toList.map (rho (envOf en)) ++ caps = as)
  (h : BCall P g as H (OutV r G)) (k : ∀ ver,TO P nt b0 ops l Q (envOf ((d,r) :: en)) (G ver)) : TO P nt b0 ops (⟨some d,.call cl,t,pos,af,none⟩ :: l) Q (envOf en) H := by
 subst ha
 exact TO.runG (.free rfl) (opG_call rfl hc hf h) fun r' H' ⟨ver,hr,hH⟩ => by
  subst hr hH
  exact k ver
end
theorem RenK.mB {K V : Type} {kn vn : Nat} {kc : K -> List Value} {cv : V -> List AV} {l : List (K × V)} (S : Nat -> Nat -> Prop) (hv : ∀ v,(cv v).all (isF 9) = true) : RenK S (mB kn vn kc cv l) (mB kn vn kc cv l) := .ofF fun r hr a ha => by
 obtain ⟨p,_,rfl⟩ := List.mem_map.1 hr
 rcases List.mem_append.1 ha with ha | ha
 ·obtain ⟨x,_,rfl⟩ := List.mem_map.1 ha
  rfl
 ·exact List.all_eq_true.1 (hv p.2) a ha
theorem RenK.bE' {S : Nat -> Nat -> Prop} {α : Type} {v w : Nat} {ty : TypeId} {f : α -> List AV} {x : List α} (hf : ∀ x,(f x).all (isF 9) = true) : RenK S ⟨v,w,ty,x.map f⟩ ⟨v,w,ty,x.map f⟩ := .ofF fun r hr a ha => rowsM hf r hr a ha
section
variable {P : Program} {K : Type} [DecidableEq K] {kn : Nat} {kc : K -> List Value} {keyT t e : TypeId} {l : List (K × Bool)} {ρ : Operand -> AV} {H : AH} {x y z : Operand} {b : Nat}
theorem zero_run {zv : Value} (hz : (P.info? e).bind (·.zero) = some zv) (w : World) : (zeroValue e).run P w = .ok zv w := by
 cases hi : P.info? e with
 | none => rw [hi] at hz; cases hz
 | some i =>
  rw [hi] at hz
  have hz' : i.zero = some zv := hz
  simp [zeroValue,typeInfo,hi,hz']
theorem EvA.lookB (q : KeyA P keyT kn kc) (ht : P.underlying t = some (.map keyT e)) (hz : (P.info? e).bind (·.zero) = some (.bool false)) (k : K)
  (hx : ρ x = .mp b (kn + 1)) (hy : ρ y = mkA ((kc k).map AV.v)) (hb : H[b]? = some (some (mB kn 1 kc cB l))) :
  EvA P ρ (.lookup t x y false) H (Bo ((mget l k).getD false)) H :=
 EvA.look (vn:=1) (cv:=cB) (ok:=false) q (fun _ => rfl) false ht (zero_run hz) (fun _ => .fr (.v rfl)) k hx hy hb
theorem EvA.msetB (q : KeyA P keyT kn kc) (ht : P.underlying t = some (.map keyT e)) (k : K) (v : Bool)
  (hx : ρ x = .mp b (kn + 1)) (hy : ρ y = mkA ((kc k).map AV.v)) (hz : ρ z = Bo v) (hb : H[b]? = some (some (mB kn 1 kc cB l))) :
  EvA P ρ (.mapUpdate t x y z) H .top (H.set b (some (mB kn 1 kc cB (mput l k v)))) :=
 EvA.mset (vn:=1) (cv:=cB) q (fun _ => rfl) ht (Nat.succ_pos kn) k v hx hy (by rw [hz]; rfl) (by rw [hz]; rfl) hb
omit [DecidableEq K] in
end
section
variable {P : Program}
theorem BCall.mkS {f : FuncId} {fn : Func} {body : Code} {as : List AV} {H : AH} {R : AV -> AH -> Prop} (hf : P.funcs[f]? = some fn) (hb : fn.body = some body) (hcall : callable P f = true) (hn : Nat.ble as.length fn.ntmps = true)
  (hok : codeOk fn.ntmps body = true) {e0 : Env} (hw : Weak (env0 as) e0) (h : T P fn.ntmps H.length body (SQ H.length (Fin P fn R)) e0 H) : BCall P f as H R := BCall.mkT hf hb hcall hn hok hw h.leaf
end
section
variable {P : Program} {ρ : Operand -> AV} {H : AH}
theorem opS_boxAt {o : Oper} {t : TypeId} {x : Operand} {cs : List AV} {b : Nat} (ho : o.op = .box t x) (hc : (ρ x).cells = some cs) (h0 : 0 < cs.length) (hb : H[b]? = some none) : OpS P o ρ H (.hp b 0 cs.length 0 0) (H.set b (some ⟨0,cs.length,t,[cs]⟩)) := by
 intro c a K Q hH hr hx hK
 have hx1 := hx x (by rw [ho]; simp [Op.operands])
 have hz' := cells_rel hx1 hc
 have hsz := hz'.size
 subst hH
 have hrel : HRel (c.newAt b ⟨0,cs.length,t,[cs]⟩ (a.eval x).cells) := by
  refine Cx.newAt_rel hr hb h0 (by simp; omega) (fun i row h => ?_) (fun i row j a h1 h2 => ?_)
  ·match i,h with
   | 0,h => simp at h; rw [<- h]
   | i + 1,h => simp at h
  ·match i,h1 with
   | 0,h1 =>
    simp only [List.getElem?_cons_zero,Option.some.injEq] at h1
    subst h1
    simpa using hz'.get h2
   | i + 1,h1 => simp at h1
 have hrun : (execOp a.eval o).run P c.w = .ok (.value (.pointer (some ⟨c.w.heap.size,0,none⟩))) (c.newAt b ⟨0,cs.length,t,[cs]⟩ (a.eval x).cells).w := by
  rw [execOp,ho]
  refine (?_ : Sem.run P _ c.w = _)
  have : (Instr.box t (a.eval x)).run P c.w = .ok (.pointer (some ⟨c.w.heap.size,0,none⟩)) (c.w.alloc (.cells (a.eval x).cells t)) := by
   simp [Instr.box,newVar,newRow]
  simp only [Sem.run_bind,this,Result.andThen_ok,Sem.run_pure]
  rfl
 unfold Oper.wp
 rw [hrun]
 have hl2 := Cx.newAt_self (c:=c) (k:=⟨0,cs.length,t,[cs]⟩) (cs:=(a.eval x).cells) hb
 have hφ2 : (c.newAt b ⟨0,cs.length,t,[cs]⟩ (a.eval x).cells).φ b = (c.w.heap.size,0) := if_pos rfl
 refine hK _ (c.newAt b ⟨0,cs.length,t,[cs]⟩ (a.eval x).cells) rfl hrel (Cx.newAt_ext hr hb) (.hp ?_ fun q hq => ?_)
 ·unfold Cx.born
  rw [show (c.newAt b ⟨0,cs.length,t,[cs]⟩ (a.eval x).cells).H[b]? = some (some _) from hl2]
  exact Nat.le_refl _
 ·have := Cx.hd_of hl2 (o:=.cells (a.eval x).cells t) (by rw [hφ2]; exact heap_alloc_new _ _)
  rw [hφ2] at this
  have he := hq.symm.trans this
  simp only [hdo,Option.some.injEq] at he
  subst he
  exact ⟨rfl,by simp⟩
theorem EvA.bxA {t : TypeId} {x : Operand} {cs : List AV} (b : Nat) (hx : (ρ x).cells = some cs) (hn : (Nat.blt 0 cs.length) = true) (hb : H[b]? = some none) : EvA P ρ (.box t x) H (.hp b 0 cs.length 0 0) (H.set b (some ⟨0,cs.length,t,[cs]⟩)) :=
 fun _ ho => opS_boxAt ho hx (Nat.le_of_ble_eq_true hn) hb
end
def Cx.mapAt (c : Cx) (b : Nat) (k : ABlk) : Cx := { w := c.w.alloc (.map #[] 0),fz := c.fz,H := c.H.set b (some k),φ := fun q => if q = b then (c.w.heap.size,0) else c.φ q }
section
variable {c : Cx} {b : Nat} {k : ABlk}
theorem Cx.mapAt_live {q : Nat} {k' : ABlk} (h : (c.mapAt b k).live q k') : (q = b /\ k' = k) \/ (q ≠ b /\ c.live q k') := Cx.newAt_live (cs:=#[]) h
theorem Cx.mapAt_φ {q : Nat} (h : q ≠ b) : (c.mapAt b k).φ q = c.φ q := if_neg h
theorem Cx.mapAt_ext (hr : HRel c) (hb : c.H[b]? = some none) : Ext c (c.mapAt b k) where
 os := rfl
 tape := rfl
 output := rfl
 size := by simp [Cx.mapAt]
 keep := fun g hg _ => Below.heap_alloc _ _ _ hg
 fz := fun _ h => h
 fzNew := fun _ h => .inl h
 N := by simp [Cx.mapAt]
 born := fun _ _ h => (Cx.newAt_born (k:=k) (cs:=#[]) hb h).2
 hd := fun q ver x hq hx => by
  obtain ⟨k',hl,hv,o,hc,hx'⟩ := Cx.hd_some hx
  have hne := (Cx.newAt_born (k:=k) (cs:=#[]) hb hq).1
  rcases Cx.mapAt_live hl with ⟨e,_⟩ | ⟨_,hl'⟩
  ·exact absurd e hne
  ·rw [Cx.mapAt_φ hne] at hc hx'
   have hh : c.w.heap[(c.φ q).1]? = some o := by
    rw [<- hc]
    exact (Below.heap_alloc _ _ _ (hr.live_lt hl')).symm
   rw [<- hv]
   exact (Cx.hd_of hl' hh).trans hx'
 liveNew := fun q k' hl => by
  rcases Cx.mapAt_live hl with ⟨rfl,rfl⟩ | ⟨hne,hl'⟩
  ·left
   simp [Cx.mapAt]
  ·exact .inr ⟨q,k',hl',by rw [Cx.mapAt_φ hne]⟩
theorem Cx.mapAt_rel (hr : HRel c) (hb : c.H[b]? = some none) {kn s : Nat} (hs : 0 < s) : HRel (c.mapAt b ⟨0,s,kn,[]⟩) where
 lt := fun g hg => by
  have := hr.lt g hg
  simp [Cx.mapAt]
  omega
 blk := fun q k' hq => by
  rcases Cx.mapAt_live hq with ⟨rfl,rfl⟩ | ⟨hne,hl'⟩
  ·have e : (c.mapAt q ⟨0,s,kn,[]⟩).φ q = (c.w.heap.size,0) := if_pos rfl
   exact ⟨#[],none,⟨by rw [e]; exact (heap_alloc_new c.w (.map #[] 0)).trans (by simp [bobj]),by rw [e]; exact fun hz => Nat.lt_irrefl _ (hr.lt _ hz),hs,fun f hf => by (cases hf),by rw [e]; simp,fun i row h => by simp at h,fun i row j a h => by simp at h⟩⟩
  ·obtain ⟨cs',fr,hB⟩ := hr.blk q k' hl'
   refine ⟨cs',fr,⟨by rw [Cx.mapAt_φ hne]; exact (Below.heap_alloc _ _ _ (hr.live_lt hl')).trans hB.at_,by rw [Cx.mapAt_φ hne]; exact hB.nf,hB.pos,hB.free,by rw [Cx.mapAt_φ hne]; exact hB.fits,hB.len,fun i row j a h1 h2 => ?_⟩⟩
   obtain ⟨u,h3,h4,h5⟩ := hB.rel i row j a h1 h2
   exact ⟨u,by rw [Cx.mapAt_φ hne]; exact h3,h4,h5.ext hr (Cx.mapAt_ext hr hb)⟩
 inj := fun q q' k1 k2 h1 h2 hne => by
  have lt : ∀ {j kj},c.live j kj -> (c.φ j).1 < c.w.heap.size := fun hl => hr.live_lt hl
  rcases Cx.mapAt_live h1 with ⟨rfl,rfl⟩ | ⟨hn1,hl1⟩
  ·rcases Cx.mapAt_live h2 with ⟨rfl,rfl⟩ | ⟨hn2,hl2⟩
   ·exact absurd rfl hne
   ·have := hr.live_lt hl2
    rw [show (c.mapAt q ⟨0,s,kn,[]⟩).φ q = (c.w.heap.size,0) from if_pos rfl,Cx.mapAt_φ hn2]
    simp only
    omega
  ·rcases Cx.mapAt_live h2 with ⟨rfl,rfl⟩ | ⟨hn2,hl2⟩
   ·have := hr.live_lt hl1
    rw [show (c.mapAt q' ⟨0,s,kn,[]⟩).φ q' = (c.w.heap.size,0) from if_pos rfl,Cx.mapAt_φ hn1]
    simp only
    omega
   ·rw [Cx.mapAt_φ hn1,Cx.mapAt_φ hn2]
    exact hr.inj q q' k1 k2 hl1 hl2 hne
end
section
variable {P : Program} {ρ : Operand -> AV} {H : AH}
theorem opS_mapAt {o : Oper} {t : TypeId} {kn s b : Nat} (ho : o.op = .makeMap t none) (hs : 0 < s) (hb : H[b]? = some none) : OpS P o ρ H (.mp b s) (H.set b (some ⟨0,s,kn,[]⟩)) := by
 intro c a Kk Q hH hr hxs hK
 subst hH
 have : (execOp a.eval o).run P c.w = .ok (.value (.map (some c.w.heap.size))) (c.mapAt b ⟨0,s,kn,[]⟩).w := by
  rw [execOp,ho]
  refine (?_ : Sem.run P _ c.w = _)
  simp [Instr.makeMap,Cx.mapAt]
 unfold Oper.wp
 rw [this]
 have hl2 : (c.mapAt b ⟨0,s,kn,[]⟩).live b ⟨0,s,kn,[]⟩ := Cx.newAt_self (k:=⟨0,s,kn,[]⟩) (cs:=#[]) hb
 have e : (c.mapAt b ⟨0,s,kn,[]⟩).φ b = (c.w.heap.size,0) := if_pos rfl
 refine hK _ (c.mapAt b ⟨0,s,kn,[]⟩) rfl (Cx.mapAt_rel hr hb hs) (Cx.mapAt_ext hr hb) (.mp ?_ fun x hx => ?_)
 ·unfold Cx.born
  rw [show (c.mapAt b ⟨0,s,kn,[]⟩).H[b]? = some (some _) from hl2]
  exact Nat.le_refl _
 ·have := Cx.hd_of hl2 (o:=.map #[] 0) (by rw [e]; exact heap_alloc_new _ _)
  rw [e] at this
  have he := hx.symm.trans this
  simp only [hdo,Option.some.injEq] at he
  subst he
  exact ⟨rfl,rfl⟩
theorem EvA.mmkA {K : Type} {kn : Nat} {t : TypeId} (kc : K -> List Value) (b : Nat) (hb : H[b]? = some none) : EvA P ρ (.makeMap t none) H (.mp b (kn + 1)) (H.set b (some (mB kn 1 kc cB ([] : List (K × Bool))))) :=
 fun _ ho => opS_mapAt (kn:=kn) ho (Nat.succ_pos kn) hb
end
section
variable {P : Program} {ρ : Operand -> AV} {t e : TypeId}
theorem EvN.buildZ {n w : Nat} {ag : Bool} {zs : List AV} (hu : P.underlying t = some (.array n e)) (z : TyZ P t zs) (q : TyF P e ag w) : EvN P ρ (.build t #[]) (.agg zs) := .mk fun K hK => by
 show abuild P t [] K
 have hz := z.z
 have ho := z.one
 have hq := q.info
 cases hi : P.info? t with
 | none => rw [hi] at hz; cases hz
 | some i =>
  rw [hi] at hz ho
  cases hzz : i.zero with
  | none => simp [hzz] at hz
  | some zv =>
   simp only [Option.bind_some,hzz,Option.map_some,Option.some.injEq] at hz ho
   cases hj : P.info? e with
   | none => rw [hj] at hq; cases hq
   | some ie =>
    simp only [abuild,hi,hu,hzz,hj,afill,hz]
    exact Ck.intro ho hK
end
end Go.Proofs.Ytlmjnhnpahicmaa
