/-
  Contracts and words, several texts joined. No conditions.
-/
import Derived.Test.YtjogdblionfmiaaSq3d
import Derived.Test.YtjogdblionfmiaaS31
namespace Go.Proofs.Ytjogdblionfmiaa
open Go.RowKit
set_option maxRecDepth 100000
theorem nrows_row {gh : NG} {w : Nat} {tbl : Tb} {i : Nat} (h : i < tbl.length) : (nrows gh w tbl)[i]? = some [hS (gh i).1 (gh i).2.1 (gh i).2.2 w (tbl.getD i []).length] := nrows_get h
theorem l3Mark_any {H : AH} {tv : Nat} {gh : NG} {tbl : Tb} (key : ByteArray) {v : Int} (hv : F_spec_l3Hash key = some v) (hin : 0 ≤ v ∧ v < (tbl.length : Int)) (hcap : capOK ((tbl.getD v.toNat []).length + 1) 16 = true)
    (hb : H[1]? = some (some ⟨tv, 1, 127, nrows gh 1 tbl⟩)) (hN : NK 6 H gh 1 9 cS tbl) :
    ACall Try.prog 186 [hS false 1 tv 1 tbl.length, St key] H (.tup [])
      ((H.set (gh v.toNat).2.1 (bE false ((gh v.toNat).2.2 + 1) 1 9 ((tbl.getD v.toNat [] ++ [key]).map cS))).set 1
        (some ⟨tv, 1, 127, (nrows gh 1 tbl).set v.toNat [hS false (gh v.toNat).2.1 ((gh v.toNat).2.2 + 1) 1 (tbl.getD v.toNat [] ++ [key]).length]⟩)) := by
  have hi : v.toNat < tbl.length := by omega
  obtain ⟨h6, hrow⟩ := hN.at_ _ hi
  have hnil := hN.nil_ _ hi
  have hrw := nrows_row (gh := gh) (w := 1) hi
  generalize gh v.toNat = x at h6 hrow hnil hrw ⊢
  obtain ⟨g, id, vv⟩ := x
  simp only at h6 hrow hnil hrw ⊢
  generalize hr : tbl.getD v.toNat [] = row at hrow hnil hcap hrw ⊢
  refine ACall.mkT Try.func186 rfl (by kernel_rfl) rfl (by kernel_rfl) (e0 := envOf [(0, hS false 1 tv 1 tbl.length), (1, St key)]) (weak_cons rfl (weak_cons rfl weak_nil)) ?_
  refine T.seq ?_
  refine T.region ?_
  refine oN (EvN.mv (St key) rfl) ?_
  refine oN (EvN.call rfl rfl rfl (F_spec_l3Hash_P key hv) rfl) ?_
  refine oN (EvN.asg (I v) rfl) ?_
  refine TO.nil ?_
  refine T.region ?_
  refine oN (EvN.mv (hS false 1 tv 1 tbl.length) rfl) ?_
  refine oN (EvN.mv (I v) rfl) ?_
  refine oN (EvN.mv (hS false 1 tv 1 tbl.length) rfl) ?_
  refine oN (EvN.mv (I v) rfl) ?_
  refine oN (EvN.ixO (g := false) sl182 rfl rfl nofun hin) ?_
  refine oA (EvA.loadhp (hS g id vv 1 row.length) ty127 rfl hb rfl rfl hrw rfl) ?_
  refine oN (EvN.mv (St key) rfl) ?_
  refine oN (EvN.mkF (c := cS) ([key] : List ByteArray) [[St key]] sl127 rfl rfl rfl (fun _ => rfl) (fun _ => rfl) rfl) ?_
  refine oA (EvA.app1 (g := g) (l := row) key sl127 (by kernel_rfl) rfl rfl hrow hnil (SrcOk.fz (l := [key]) rfl (fun _ => rfl)) hcap) ?_
  refine oN (EvN.ixO (g := false) sl182 rfl rfl nofun hin) ?_
  refine oV (EvA.st ⟨tv, 1, 127, (nrows gh 1 tbl).set v.toNat [hS false id (vv + 1) 1 (row ++ [key]).length]⟩ ty127 rfl rfl ((List.getElem?_set_ne (by omega)).trans hb) rfl rfl hrw rfl rfl rfl) ?_
  refine TO.nil ?_
  exact ⟨_, _, cutW rfl weak_nil, Fin.normal (vs := []) .nil ⟨rfl, rfl⟩⟩
end Go.Proofs.Ytjogdblionfmiaa

namespace Go.Proofs.Ytjogdblionfmiaa
open Go.RowKit
set_option maxRecDepth 100000
/-- the rows of a table lie in K -/
structure TabOk (K : AH) (gh : NG) (tbl : Tb) : Prop where
  nk : NK 6 (none :: none :: none :: none :: none :: none :: K) gh 1 9 cS tbl
  kf : KF K
theorem TabOk.at6 {K : AH} {gh : NG} {tbl : Tb} (h : TabOk K gh tbl) (a b c d e f : Option ABlk) : NK 6 (a :: b :: c :: d :: e :: f :: K) gh 1 9 cS tbl :=
  h.nk.low fun b hb _ => by match b, hb with | b + 6, _ => rfl
theorem l3Mark6 {K : AH} {gh : NG} {tbl : Tb} (hT : TabOk K gh tbl) (key : ByteArray) {v : Int} (hv : F_spec_l3Hash key = some v) (hin : 0 ≤ v ∧ v < (tbl.length : Int)) (hcap : capOK ((tbl.getD v.toNat []).length + 1) 16 = true) (a c d e f : Option ABlk) :
    ∃ gh' K', ACall Try.prog 186 [hS false 1 0 1 tbl.length, St key] (a :: some ⟨0, 1, 127, nrows gh 1 tbl⟩ :: c :: d :: e :: f :: K) (.tup [])
      (a :: some ⟨0, 1, 127, nrows gh' 1 (tbl.set v.toNat (tbl.getD v.toNat [] ++ [key]))⟩ :: c :: d :: e :: f :: K') ∧ TabOk K' gh' (tbl.set v.toNat (tbl.getD v.toNat [] ++ [key])) ∧ K'.length = K.length := by
  have hi : v.toNat < tbl.length := by omega
  have h := l3Mark_any (H := a :: some ⟨0, 1, 127, nrows gh 1 tbl⟩ :: c :: d :: e :: f :: K) key hv hin hcap rfl (hT.at6 a _ c d e f)
  have hs := (hT.nk.set (i := v.toNat) hi (g := false) (ver := (gh v.toNat).2.2 + 1) (r := tbl.getD v.toNat [] ++ [key]) nofun)
  obtain ⟨h6, _⟩ := hT.nk.at_ _ hi
  have hns := nrows_set (gh := gh) (w := 1) (l := tbl) (i := v.toNat) (g := false) (id := (gh v.toNat).2.1) (ver := (gh v.toNat).2.2 + 1) (r := tbl.getD v.toNat [] ++ [key]) hi
  rw [hns] at h
  generalize (gh v.toNat).2.1 = id at h h6 hs
  obtain ⟨k, rfl⟩ : ∃ k, id = k + 6 := ⟨id - 6, by omega⟩
  refine ⟨_, K.set k (bE false ((gh v.toNat).2.2 + 1) 1 9 ((tbl.getD v.toNat [] ++ [key]).map cS)), h, ⟨hs, fun i kb hk => ?_⟩, by simp⟩
  by_cases e : k = i
  · subst e
    have hl : k < K.length := by
      have := (List.getElem?_eq_some_iff.1 hk).1
      simpa using this
    rw [List.getElem?_set_self hl] at hk
    obtain rfl := Option.some.inj (Option.some.inj hk)
    exact rowsF_list fun _ => rfl
  · rw [List.getElem?_set_ne e] at hk
    exact hT.kf i kb hk
theorem ren_nil {S : Nat → Nat → Prop} {e : Env} : ∀ t, Ren S (e t) (envOf [] t) := fun _ => .top
theorem ren_cons {S : Nat → Nat → Prop} {e : Env} {t : Nat} {a : AV} {l : List (Nat × AV)} (h : Ren S (e t) a) (w : ∀ q, Ren S (e q) (envOf l q)) : ∀ q, Ren S (e q) (envOf ((t, a) :: l) q) := by
  intro q
  rcases envOf_cons t a l q with ⟨rfl, h1⟩ | h1
  · rw [h1]; exact h
  · rw [h1]; exact w q
theorem drop6 {K : AH} {gh : NG} {tbl : Tb} (hT : TabOk K gh tbl) {a c d e f : Option ABlk} (b : Nat) (hb : b = 4 ∨ b = 5) (ha : ∀ k, a = some k → rowsF k) (hc : ∀ k, c = some k → rowsF k) (hd : ∀ k, d = some k → rowsF k) (he : ∀ k, e = some k → rowsF k) (hf : ∀ k, f = some k → rowsF k) :
    Reid 0 (Dp b (K.length + 6)) (a :: some ⟨0, 1, 127, nrows gh 1 tbl⟩ :: c :: d :: e :: f :: K) ((a :: some ⟨0, 1, 127, nrows gh 1 tbl⟩ :: c :: d :: e :: f :: K).set b none) := by
  refine Reid.drop (by simp) (Nat.zero_le _) (by omega) fun i k hne hk => ?_
  match i, hk with
  | 0, hk => exact .ofF (ha k (Option.some.inj hk))
  | 1, hk =>
    obtain rfl := Option.some.inj (Option.some.inj hk)
    refine ⟨rfl, rfl, rfl, rfl, fun i r r' hr hr' => ?_⟩
    have hi : i < tbl.length := by
      have := (List.getElem?_eq_some_iff.1 hr).1
      rwa [nrows_len] at this
    rw [nrows_get hi] at hr hr'
    obtain rfl := Option.some.inj hr
    obtain rfl := Option.some.inj hr'
    refine ⟨rfl, fun j a a' ha ha' => ?_⟩
    match j with
    | 0 =>
      obtain rfl := Option.some.inj ha
      obtain rfl := Option.some.inj ha'
      obtain ⟨h6, hrow⟩ := hT.nk.at_ i hi
      have hlt := (List.getElem?_eq_some_iff.1 hrow).1
      simp only [List.length_cons] at hlt
      show Ren _ (hS (gh i).1 (gh i).2.1 (gh i).2.2 1 _) (hS (gh i).1 (gh i).2.1 (gh i).2.2 1 _)
      cases (gh i).1 with
      | true => exact .nil
      | false => exact .hs ⟨by omega, by omega, rfl⟩
    | j + 1 => simp [nrow] at ha
  | 2, hk => exact .ofF (hc k (Option.some.inj hk))
  | 3, hk => exact .ofF (hd k (Option.some.inj hk))
  | 4, hk => exact .ofF (he k (Option.some.inj hk))
  | 5, hk => exact .ofF (hf k (Option.some.inj hk))
  | i + 6, hk => exact .ofF (hT.kf i k hk)
section
variable {P : Program} {ρ : Operand → AV} {H : AH} {x y : Operand} {t u e : TypeId}
/-- append to a slice behind which there is something in its block -/
theorem EvA.appJ {ag : Bool} {w m : Nat} {zs : List AV} {b ver n n' : Nat} {rows rows' news : List (List AV)} (q : SlT P t e ag w zs m) (hv : appU P u = true) (hx : ρ x = hS false b ver w n) (hk : H[b]? = some (some ⟨ver, w, e, rows⟩)) (hn : n ≤ rows.length)
    (hsrc : SrcOk P H w (ρ y) news) (hb : capOK (n + news.length) m = true) (hr : rows.take n ++ news = rows') (hn' : n + news.length = n') :
    EvA P ρ (.call ⟨.builtin .append, #[x, y], #[t, u]⟩) H (hS false b (ver + 1) w n') (H.set b (some ⟨ver + 1, w, e, rows'⟩)) := fun o ho => by
  have hz := zsize q.z (q.zl.trans q.ty.cells.symm)
  subst hr hn'
  rw [← q.ty.cells] at hsrc hx hk ⊢
  have h := opS_appendH (o := o) (P := P) (ρ := ρ) (H := H) (k := ⟨ver, P.cellsOf e, e, rows⟩) (off := 0) (len := n) (news := news) ho rfl rfl rfl q.u (appU_or hv) hx hk rfl rfl rfl (by simpa using hn) rfl hz (by rw [q.by_]; exact (cap_of hb).1) (cap_of hb).2 hsrc
  simpa [hS] using h
/-- zeros in a place that was kept, as they are -/
theorem EvA.msW {ag : Bool} {w m : Nat} {zs : List AV} {a b : Int} (bl n : Nat) {rows : List (List AV)} (q : SlT P t e ag w zs m) (hx : ρ x = .v (.int .i64 a)) (hy : ρ y = .v (.int .i64 b)) (hq : 0 ≤ a ∧ a ≤ b ∧ b * (m : Int) ≤ 140737488355328 ∧ b ≤ 140737488355328) (hab : a = b) (hF : zs.all (isF 9) = true) (hb : H[bl]? = some none)
    (hr : List.replicate a.toNat zs = rows) (hn : a.toNat = n) : EvA P ρ (.makeSlice t x y) H (hS false bl 0 w n) (H.set bl (some ⟨0, w, e, rows⟩)) := fun o ho => by
  subst hab hr hn
  have h := newS_mk (H := H) q ho hx hy hq
  refine h.at_ hb (fun r hr z hz => ?_) (.inl ⟨_, rfl, rfl⟩)
  rw [List.mem_replicate] at hr
  rw [hr.2] at hz
  exact List.all_eq_true.1 hF z hz
end
theorem nrows_nil (n : Nat) : List.replicate n [AV.nil] = nrows (fun i => (true, i + 6, 0)) 1 (List.replicate n ([] : List ByteArray)) := by
  apply List.ext_getElem
  · simp [nrows]
  · intro i h1 h2
    simp [nrows, nrow, hS]
theorem tab0 (n : Nat) : TabOk (List.replicate n none) (fun i => (true, i + 6, 0)) (List.replicate n []) := by
  refine ⟨⟨fun i hi => ⟨by simp, ?_⟩, fun i hi _ => ?_, fun i j _ _ hne => by simpa using hne⟩, fun i k hk => ?_⟩
  · simp only [List.length_replicate] at hi
    simp [List.getElem?_cons_succ, hi, bE]
  · simp only [List.length_replicate] at hi
    simp [hi]
  · have := List.mem_of_getElem? hk
    rw [List.mem_replicate] at this
    cases this.2
end Go.Proofs.Ytjogdblionfmiaa

namespace Go.Proofs.Ytjogdblionfmiaa
open Go.RowKit
set_option maxRecDepth 100000
abbrev tbB (gh : NG) (tbl : Tb) : Option ABlk := some ⟨0, 1, 127, nrows gh 1 tbl⟩
abbrev wkB (wv : Nat) (work : List Xspec_l3State) (junk : List (List AV)) : Option ABlk := some ⟨wv, 4, 184, work.map Xspec_l3State.c ++ junk⟩
abbrev seB (states : Int) (outs : List (List Int)) : Option ABlk := some ⟨0, 2, 136, [[I states, eL (cL cI) outs]]⟩
abbrev r0B : Option ABlk := some ⟨0, 2, 136, [[I (0 : Int), .nil]]⟩
abbrev stB (s : Xspec_l3State) : Option ABlk := some ⟨0, 4, 184, [Xspec_l3State.c s]⟩
def JOk (junk : List (List AV)) : Prop := ∀ r ∈ junk, ∀ a ∈ r, isF 9 a = true
theorem rowsF_wk {wv : Nat} {work : List Xspec_l3State} {junk : List (List AV)} (h : JOk junk) : ∀ k, wkB wv work junk = some k → rowsF k := fun k hk => by
  obtain rfl := Option.some.inj hk
  intro r hr a ha
  rcases List.mem_append.1 hr with hr | hr
  · exact rowsM Xspec_l3State.isF r hr a ha
  · exact h r hr a ha
theorem rowsF_some {k : ABlk} (h : rowsF k) : ∀ k', some k = some k' → rowsF k' := fun k' hk => by
  obtain rfl := Option.some.inj hk
  exact h
theorem rowsF_none : ∀ k, (none : Option ABlk) = some k → rowsF k := nofun
section
variable {Q : Exit → Env → AH → Prop}
/-- a round's end in the inner loop -/
theorem wk_last {work : List Xspec_l3State} {junk : List (List AV)} {i : Nat} (h : i < work.length) : (work.map Xspec_l3State.c ++ junk)[i]? = some (Xspec_l3State.c (work.getD i default)) := by
  rw [List.getElem?_append_left (by simpa using h), List.getElem?_map, List.getElem?_eq_getElem h, List.getD_eq_getElem?_getD, List.getElem?_eq_getElem h]
  rfl
theorem take_wk (work : List Xspec_l3State) (junk : List (List AV)) : (work.map Xspec_l3State.c ++ junk).take work.length = work.map Xspec_l3State.c := by
  rw [List.take_append_of_le_length (by rw [List.length_map]; exact Nat.le_refl _), List.take_of_length_le (by rw [List.length_map]; exact Nat.le_refl _)]
end
theorem rep_getD (n i : Nat) : (List.replicate n ([] : List ByteArray)).getD i [] = [] := by simp [List.getElem?_replicate]; split <;> rfl
theorem F_spec_l3Seq_P (p : List (List Ximpl_Instr)) {q : Xspec_l3Search} (h : F_spec_l3Seq p = some q) : PCall Try.prog 132 [eL (cL Ximpl_Instr.c) p] (.agg (Xspec_l3Search.c q)) := by
  refine PCall.mkT Try.func132 rfl (by kernel_rfl) rfl (by kernel_rfl) (e0 := envOf [(0, eL (cL Ximpl_Instr.c) p)]) (weak_cons rfl weak_nil) ?_
  unfold F_spec_l3Seq at h
  obtain ⟨s, hs, h⟩ := bindL h
  obtain ⟨k, hk, h⟩ := bindL h
  obtain ⟨v, hv, h⟩ := bindL h
  obtain ⟨hin, h⟩ := gdD h
  obtain ⟨y, hy, h⟩ := bindL h
  obtain rfl := Option.some.inj h
  clear h
  refine T.seq ?_
  refine T.region ?_
  refine oA (EvA.al zs136 rfl rfl) ?_
  refine TO.nil ?_
  refine T.reserve (T.reserve (T.reserve (T.reserve (T.reserve (T.reserveN 4096 ?_)))))
  have hT := tab0 4096
  have hrw := nrows_nil 4096
  have hl : (List.replicate 4096 ([] : List ByteArray)).length = 4096 := by simp
  have hgd := rep_getD 4096
  generalize List.replicate 4096 (none : Option ABlk) = K0 at hT ⊢
  generalize List.replicate 4096 ([] : List ByteArray) = tb0 at hT hrw hl hin hy hgd
  generalize (fun i => (true, i + 6, 0) : NG) = gh0 at hT hrw
  refine T.clean (H0 := r0B :: none :: none :: none :: none :: none :: K0) (e0 := envOf [(2, .hp 0 0 2 0 0), (0, eL (cL Ximpl_Instr.c) p)]) rfl (weak_cons rfl (weak_cons rfl weak_nil)) ?_
  refine T.seq ?_
  refine T.region ?_
  refine oA (EvA.msW 1 4096 (rows := nrows gh0 1 tb0) sl182 rfl rfl (by decide) rfl rfl rfl hrw rfl) ?_
  refine oN (EvN.asg (hS false 1 0 1 4096) rfl) ?_
  refine TO.nil ?_
  refine T.seq ?_
  refine T.region ?_
  refine oN (EvN.mv (eL (cL Ximpl_Instr.c) p) rfl) ?_
  refine oN (EvN.call rfl rfl rfl (F_spec_l3Start_P p (0 : Int) hs) rfl) ?_
  refine oA (EvA.mkOR (c := Xspec_l3State.c) 2 ([s] : List Xspec_l3State) [Xspec_l3State.c s] sl186 rfl rfl rfl Xspec_l3State.len Xspec_l3State.isF rfl rfl) ?_
  refine oN (EvN.asg (hS false 2 0 4 ([s] : List Xspec_l3State).length) rfl) ?_
  refine TO.nil ?_
  refine T.seq ?_
  refine T.region ?_
  refine oN (EvN.mv (hS false 1 0 1 4096) rfl) ?_
  refine oN (EvN.mv (hS false 2 0 4 ([s] : List Xspec_l3State).length) rfl) ?_
  refine oN (EvN.ixO (g := false) sl186 rfl rfl nofun (by simp)) ?_
  refine oA (EvA.loadhp (.agg (Xspec_l3State.c s)) ty184 rfl rfl rfl rfl rfl rfl) ?_
  refine oN (EvN.call rfl rfl rfl (F_spec_l3Key_P s hk) rfl) ?_
  obtain ⟨gh1, K1, hM, hT1, _⟩ := l3Mark6 hT k hv hin (by rw [hgd]; rfl) r0B (wkB 0 [s] []) none none none
  rw [hl, hgd] at hM
  rw [hgd] at hT1
  refine oA (EvA.call rfl rfl rfl hM) ?_
  refine TO.nil ?_
  refine T.clean (H0 := r0B :: tbB gh1 (tb0.set v.toNat ([] ++ [k])) :: wkB 0 [s] [] :: none :: none :: none :: K1) (e0 := envOf [(4, hS false 2 0 4 ([s] : List Xspec_l3State).length), (3, hS false 1 0 1 4096), (2, .hp 0 0 2 0 0), (0, eL (cL Ximpl_Instr.c) p)]) rfl (weak_cons rfl (weak_cons rfl (weak_cons rfl (weak_cons rfl weak_nil)))) ?_
  refine T.seq ?_
  refine T.region ?_
  refine oN (EvN.mkF (c := cL cI) ([] : List (List Int)) [] sl62 rfl rfl rfl (fun _ => rfl) (fun _ => rfl) rfl) ?_
  refine oN (EvN.build [I (0 : Int), eL (cL cI) ([] : List (List Int))] Try.underlying136 zs136 fs136 rfl rfl) ?_
  refine oA (EvA.alR 3 zs136 rfl rfl rfl) ?_
  refine oV (EvA.st (cs := [I (0 : Int), eL (cL cI) ([] : List (List Int))]) ⟨0, 2, 136, [[I (0 : Int), eL (cL cI) ([] : List (List Int))]]⟩ ty136 rfl rfl rfl rfl rfl rfl rfl rfl rfl) ?_
  refine TO.nil ?_
  clear hM hT hs hk hv hin hrw hgd
  have hl1 : (tb0.set v.toNat ([] ++ [k])).length = 4096 := by simp [hl]
  clear hl
  generalize tb0.set v.toNat ([] ++ [k]) = tb1 at hT1 hy hl1 ⊢
  refine T.seq ?_
  refine T.block ?_
  refine T.loop (S := Tb × List Xspec_l3State × Int × List (List Int)) (G := NG × AH × Nat × List (List AV)) (F_spec_l3Seq_O p)
    (fun z g => z.1.length = 4096 ∧ TabOk g.2.1 g.1 z.1 ∧ JOk g.2.2.2)
    (fun z g => [(5, .hp 3 0 2 0 0), (4, hS false 2 g.2.2.1 4 z.2.1.length), (3, hS false 1 0 1 4096), (2, .hp 0 0 2 0 0), (0, eL (cL Ximpl_Instr.c) p)])
    (fun z g => r0B :: tbB g.1 z.1 :: wkB g.2.2.1 z.2.1 g.2.2.2 :: seB z.2.2.1 z.2.2.2 :: none :: none :: g.2.1)
    (s0 := (tb1, [s], (0 : Int), ([] : List (List Int)))) (gh1, K1, 0, []) hy ⟨hl1, hT1, nofun⟩ (cutW rfl (weak_cons rfl (weak_cons rfl (weak_cons rfl (weak_cons rfl (weak_cons rfl weak_nil)))))) ?_
  clear hy hT1 hl1
  rintro ⟨tbl, work, states, outs⟩ ⟨gh, K, wv, junk⟩ w1 hz ⟨hl, hT, hJ⟩
  simp only at hl hT hJ
  unfold F_spec_l3Seq_O at hz
  simp only at hz
  refine T.seq ?_
  refine T.seq ?_
  refine T.region ?_
  refine oN (EvN.mv (hS false 2 wv 4 work.length) rfl) ?_
  refine oN (EvN.lenO (g := false) sl186 rfl nofun) ?_
  refine oN (EvN.igt rfl rfl) ?_
  refine TO.nil ?_
  refine T.cond rfl (fun q0 => ?_) (fun q0 => ?_)
  · replace hz := condT q0 hz
    obtain ⟨g1, hz⟩ := gdW hz
    obtain ⟨g2, hz⟩ := gdD hz
    obtain ⟨g3, hz⟩ := gdW hz
    obtain ⟨d, hd, hz⟩ := bindL hz
    obtain ⟨outs', ho, hz⟩ := bindL hz
    obtain ⟨y1, hy1, hz⟩ := bindL hz
    have hwl : ((work.length : Int) - 1).toNat = work.length - 1 := by omega
    have hw0 : 0 < work.length := by omega
    have hlast := wk_last (work := work) (junk := junk) (i := ((work.length : Int) - 1).toNat) (by omega)
    generalize hsv : work.getD ((work.length : Int) - 1).toNat default = sv at hd ho hy1 hlast
    refine T.skip ?_
    refine T.block ?_
    refine T.seq ?_
    refine T.region ?_
    refine oN (EvN.mv (hS false 2 wv 4 work.length) rfl) ?_
    refine oN (EvN.mv (hS false 2 wv 4 work.length) rfl) ?_
    refine oN (EvN.lenO (g := false) sl186 rfl nofun) ?_
    refine oN (EvN.sub rfl rfl g1) ?_
    refine oN (EvN.ixO (g := false) sl186 rfl rfl nofun g2) ?_
    refine oA (EvA.loadhp (.agg (Xspec_l3State.c sv)) ty184 rfl rfl rfl rfl hlast rfl) ?_
    refine oA (EvA.alR 4 zs184 rfl rfl rfl) ?_
    refine oV (EvA.st (cs := Xspec_l3State.c sv) ⟨0, 4, 184, [Xspec_l3State.c sv]⟩ ty184 rfl rfl rfl rfl rfl rfl rfl rfl rfl) ?_
    refine TO.nil ?_
    refine T.seq ?_
    refine T.region ?_
    refine oN (EvN.mv (hS false 2 wv 4 work.length) rfl) ?_
    refine oN (EvN.mv (hS false 2 wv 4 work.length) rfl) ?_
    refine oN (EvN.lenO (g := false) sl186 rfl nofun) ?_
    refine oN (EvN.sub rfl rfl g1) ?_
    refine oN (EvN.slhs Try.underlying186 ty184 (l := (0 : Int)) (h := (work.length : Int) - 1) rfl .no (.yes rfl) ⟨by omega, by omega, by omega⟩) ?_
    refine oN (EvN.asg _ rfl) ?_
    refine TO.nil ?_
    have hcut : AV.hs 2 wv 4 (0 + (0 : Int).toNat) (((work.length : Int) - 1).toNat - (0 : Int).toNat) = hS false 2 wv 4 (work.take (work.length - 1)).length := by
      show AV.hs 2 wv 4 0 (((work.length : Int) - 1).toNat - 0) = AV.hs 2 wv 4 0 (work.take (work.length - 1)).length
      rw [hwl, List.length_take]
      congr 1
      omega
    have hsplit : work.map Xspec_l3State.c ++ junk = (work.take (work.length - 1)).map Xspec_l3State.c ++ ((work.drop (work.length - 1)).map Xspec_l3State.c ++ junk) := by
      rw [← List.append_assoc, ← List.map_append, List.take_append_drop]
    have hJ1 : JOk ((work.drop (work.length - 1)).map Xspec_l3State.c ++ junk) := fun r hr a ha => by
      rcases List.mem_append.1 hr with hr | hr
      · exact rowsM Xspec_l3State.isF r hr a ha
      · exact hJ r hr a ha
    refine T.clean (H0 := r0B :: tbB gh tbl :: wkB wv (work.take (work.length - 1)) ((work.drop (work.length - 1)).map Xspec_l3State.c ++ junk) :: seB states outs :: stB sv :: none :: K) (e0 := envOf [(6, .hp 4 0 4 0 0), (5, .hp 3 0 2 0 0), (4, hS false 2 wv 4 (work.take (work.length - 1)).length), (3, hS false 1 0 1 4096), (2, .hp 0 0 2 0 0), (0, eL (cL Ximpl_Instr.c) p)]) (by show _ :: _ :: some (ABlk.mk _ _ _ _) :: _ = _ :: _ :: some (ABlk.mk _ _ _ _) :: _; rw [← hsplit]; rfl) (weak_cons rfl (weak_cons rfl (weak_cons hcut (weak_cons rfl (weak_cons rfl (weak_cons rfl weak_nil)))))) ?_
    generalize (work.drop (work.length - 1)).map Xspec_l3State.c ++ junk = junk1 at hJ1 ⊢
    generalize work.take (work.length - 1) = wk1 at hy1 ⊢
    clear hcut hsplit hlast hsv g2 g1 hw0 hwl hJ q0
    refine T.seq ?_
    refine T.region ?_
    refine oN (EvN.fahp Try.underlying136 rfl (by kernel_rfl) rfl) ?_
    refine oA (EvA.loadhp (I states) ty3 rfl rfl rfl rfl rfl rfl) ?_
    refine oN (EvN.add rfl rfl g3) ?_
    refine oN (EvN.fahp Try.underlying136 rfl (by kernel_rfl) rfl) ?_
    refine oV (EvA.st (cs := [I (states + 1)]) ⟨0, 2, 136, [[I (states + 1), eL (cL cI) outs]]⟩ ty3 rfl rfl rfl rfl rfl rfl rfl rfl rfl) ?_
    refine TO.nil ?_
    refine T.joinF (G := Unit) (fun _ => True) (fun _ => [(6, .hp 4 0 4 0 0), (5, .hp 3 0 2 0 0), (4, hS false 2 wv 4 wk1.length), (3, hS false 1 0 1 4096), (2, .hp 0 0 2 0 0), (0, eL (cL Ximpl_Instr.c) p)]) (fun _ => r0B :: tbB gh tbl :: wkB wv wk1 junk1 :: seB (states + 1) outs' :: stB sv :: none :: K) (fun _ _ => ?_) ?_
    · refine T.seq ?_
      refine T.region ?_
      refine oN (EvN.asg (I (0 : Int)) rfl) ?_
      refine TO.nil ?_
      refine T.block ?_
      refine T.loop (S := Int × Tb × List Xspec_l3State) (G := NG × AH × Nat × List (List AV)) (F_spec_l3Seq_I p sv) (fun z g => z.2.1.length = 4096 ∧ TabOk g.2.1 g.1 z.2.1 ∧ JOk g.2.2.2) (fun z g => [(7, I z.1), (6, .hp 4 0 4 0 0), (5, .hp 3 0 2 0 0), (4, hS false 2 g.2.2.1 4 z.2.2.length), (3, hS false 1 0 1 4096), (2, .hp 0 0 2 0 0), (0, eL (cL Ximpl_Instr.c) p)]) (fun z g => r0B :: tbB g.1 z.2.1 :: wkB g.2.2.1 z.2.2 g.2.2.2 :: seB (states + 1) outs' :: stB sv :: none :: g.2.1) (s0 := ((0 : Int), tbl, wk1)) (gh, K, wv, junk1) hy1 ⟨hl, hT, hJ1⟩ (cutW rfl (weak_cons rfl (weak_cons rfl (weak_cons rfl (weak_cons rfl (weak_cons rfl (weak_cons rfl (weak_cons rfl weak_nil)))))))) ?_
      clear hy1 hT hJ1 hl ho hd gh K wv junk1 junk g3
      rintro ⟨t, tb, wk⟩ ⟨gh, K, wv, junk⟩ w2 hs2 ⟨hl, hT, hJ⟩
      simp only at hl hT hJ
      unfold F_spec_l3Seq_I at hs2
      simp only at hs2
      refine T.seq ?_
      refine T.seq ?_
      refine T.region ?_
      refine oN (EvN.mv (I t) rfl) ?_
      refine oN (EvN.mv (eL (cL Ximpl_Instr.c) p) rfl) ?_
      refine oN (EvN.lenL sl23 rfl) ?_
      refine oN (EvN.ilt rfl rfl) ?_
      refine TO.nil ?_
      refine T.cond rfl (fun q1 => ?_) (fun q1 => ?_)
      · replace hs2 := condT q1 hs2
        obtain ⟨g1, hs2⟩ := gdD hs2
        obtain ⟨g2, hs2⟩ := gdD hs2
        refine T.skip ?_
        refine T.joinF (G := (NG × AH × Nat × List (List AV)) × Tb × List Xspec_l3State) (fun g => g.2.1.length = 4096 ∧ TabOk g.1.2.1 g.1.1 g.2.1 ∧ JOk g.1.2.2.2 ∧ IntKind.i64.wrap (t + 1) = t + 1 ∧ w2 = .inl (t + 1, g.2.1, g.2.2)) (fun g => [(7, I t), (6, .hp 4 0 4 0 0), (5, .hp 3 0 2 0 0), (4, hS false 2 g.1.2.2.1 4 g.2.2.length), (3, hS false 1 0 1 4096), (2, .hp 0 0 2 0 0), (0, eL (cL Ximpl_Instr.c) p)]) (fun g => r0B :: tbB g.1.1 g.2.1 :: wkB g.1.2.2.1 g.2.2 g.1.2.2.2 :: seB (states + 1) outs' :: stB sv :: none :: g.1.2.1) ?_ ?_
        · rintro ⟨⟨gh, K, wv, junk⟩, tb, wk⟩ ⟨hl, hT, hJ, g3, rfl⟩
          simp only at hl hT hJ
          refine T.region ?_
          refine oN (EvN.mv (I t) rfl) ?_
          refine oN (EvN.add rfl rfl g3) ?_
          refine oN (EvN.asg (I (t + 1)) rfl) ?_
          refine TO.nil ?_
          exact ⟨_, (gh, K, wv, junk), rfl, ⟨hl, hT, hJ⟩, cutW rfl (weak_cons rfl (weak_cons rfl (weak_cons rfl (weak_cons rfl (weak_cons rfl (weak_cons rfl (weak_cons rfl weak_nil)))))))⟩
        · refine T.block ?_
          refine T.seq ?_
          refine T.seq ?_
          refine T.drawF (fun i => [([], false), ([4], false)].getD i ([], false)) (by kernel_rfl) (by kernel_rfl) ?_
          refine fN rfl (EvN.fahp Try.underlying184 rfl (by kernel_rfl) rfl) ?_
          refine fR [4] rfl (fun G hG => EvA.loadhp (eL cI sv.at_) ty37 rfl (hG.a0 rfl) rfl rfl rfl rfl) ?_
          refine fN rfl (EvN.mv (I t) rfl) ?_
          refine fN rfl (EvN.ixL sl37 rfl rfl g1 (fun _ => rfl)) ?_
          refine fN rfl (EvN.loadfp (I (sv.at_.getD t.toNat default)) ty3 rfl rfl) ?_
          refine fN rfl (EvN.mv (eL (cL Ximpl_Instr.c) p) rfl) ?_
          refine fN rfl (EvN.mv (I t) rfl) ?_
          refine fN rfl (EvN.ixL sl23 rfl rfl g2 (fun _ => rfl)) ?_
          refine fN rfl (EvN.loadfp (eL Ximpl_Instr.c (p.getD t.toNat default)) ty78 rfl rfl) ?_
          refine fN rfl (EvN.lenL sl78 rfl) ?_
          refine fN rfl (EvN.ieq rfl rfl) ?_
          refine TF.nil ?_
          refine T.cond rfl (fun q2 => ?_) (fun q2 => ?_)
          · replace hs2 := condT q2 hs2
            obtain ⟨g3, hs2⟩ := gdW hs2
            obtain rfl := Option.some.inj hs2
            refine T.exit ?_
            exact ⟨((gh, K, wv, junk), tb, wk), ⟨hl, hT, hJ, g3, rfl⟩, cutW rfl (weak_cons rfl (weak_cons rfl (weak_cons rfl (weak_cons rfl (weak_cons rfl (weak_cons rfl (weak_cons rfl weak_nil)))))))⟩
          · replace hs2 := condF q2 hs2
            obtain ⟨n, hn, hs2⟩ := bindL hs2
            obtain ⟨k, hk, hs2⟩ := bindL hs2
            obtain ⟨f, hf, hs2⟩ := bindL hs2
            refine T.skip ?_
            refine T.seq ?_
            refine T.region ?_
            refine oN (EvN.mv (eL (cL Ximpl_Instr.c) p) rfl) ?_
            refine oA (EvA.loadhp (.agg (Xspec_l3State.c sv)) ty184 rfl rfl rfl rfl rfl rfl) ?_
            refine oN (EvN.mv (I t) rfl) ?_
            refine oN (EvN.call rfl rfl rfl (F_spec_l3Do_P p sv t hn) rfl) ?_
            refine oA (EvA.alR 5 zs184 rfl rfl rfl) ?_
            refine oV (EvA.st (cs := Xspec_l3State.c n) ⟨0, 4, 184, [Xspec_l3State.c n]⟩ ty184 rfl rfl rfl rfl rfl rfl rfl rfl rfl) ?_
            refine TO.nil ?_
            refine T.seq ?_
            refine T.region ?_
            refine oA (EvA.loadhp (.agg (Xspec_l3State.c n)) ty184 rfl rfl rfl rfl rfl rfl) ?_
            refine oN (EvN.call rfl rfl rfl (F_spec_l3Key_P n hk) rfl) ?_
            refine oN (EvN.asg (St k) rfl) ?_
            refine TO.nil ?_
            refine T.seq ?_
            refine T.region ?_
            refine oN (EvN.mv (hS false 1 0 1 4096) rfl) ?_
            refine oN (EvN.mv (St k) rfl) ?_
            refine oA (EvA.callT rfl rfl (F_spec_l3Found_P tb k hf) (.cons ((hT.at6 _ _ _ _ _ _).fz rfl hl.symm (fun _ => rfl)) (.cons (.of_isF 9 _ rfl) .nil)) rfl) ?_
            refine oN (EvN.not rfl) ?_
            refine TO.nil ?_
            refine T.cond rfl (fun q3 => ?_) (fun q3 => ?_)
            · replace hs2 := condT q3 hs2
              obtain ⟨v, hv, hs2⟩ := bindL hs2
              obtain ⟨hin, hs2⟩ := gdD hs2
              obtain ⟨c1, hs2⟩ := gdL hs2
              obtain ⟨c2, hs2⟩ := gdL hs2
              obtain ⟨g3, hs2⟩ := gdW hs2
              obtain rfl := Option.some.inj hs2
              obtain ⟨gh2, K2, hM, hT2, hK2⟩ := l3Mark6 hT k hv hin c1 r0B (wkB wv wk junk) (seB (states + 1) outs') (stB sv) (stB n)
              rw [hl] at hM
              have hl2 : (tb.set v.toNat (tb.getD v.toNat [] ++ [k])).length = 4096 := by rw [List.length_set]; exact hl
              generalize tb.set v.toNat (tb.getD v.toNat [] ++ [k]) = tb2 at hM hT2 hl2 ⊢
              refine T.seq ?_
              refine T.region ?_
              refine oN (EvN.mv (hS false 1 0 1 4096) rfl) ?_
              refine oN (EvN.mv (St k) rfl) ?_
              refine oA (EvA.call rfl rfl rfl hM) ?_
              refine TO.nil ?_
              refine T.region ?_
              refine oN (EvN.mv (hS false 2 wv 4 wk.length) rfl) ?_
              refine oA (EvA.loadhp (.agg (Xspec_l3State.c n)) ty184 rfl rfl rfl rfl rfl rfl) ?_
              refine oN (EvN.mkF (c := Xspec_l3State.c) ([n] : List Xspec_l3State) [Xspec_l3State.c n] sl186 rfl rfl rfl Xspec_l3State.len Xspec_l3State.isF rfl) ?_
              refine oA (EvA.appJ (rows := wk.map Xspec_l3State.c ++ junk) (rows' := (wk ++ [n]).map Xspec_l3State.c ++ []) (n' := (wk ++ [n]).length) sl186 (by kernel_rfl) rfl rfl (by simp) (SrcOk.fz (l := [n]) rfl Xspec_l3State.len) c2 (by rw [take_wk]; simp) (by simp)) ?_
              refine oN (EvN.asg (hS false 2 (wv + 1) 4 (wk ++ [n]).length) rfl) ?_
              refine TO.reid (e0 := envOf [(7, I t), (6, .hp 4 0 4 0 0), (5, .hp 3 0 2 0 0), (4, hS false 2 (wv + 1) 4 (wk ++ [n]).length), (3, hS false 1 0 1 4096), (2, .hp 0 0 2 0 0), (0, eL (cL Ximpl_Instr.c) p)]) (drop6 hT2 5 (.inr rfl) (rowsF_some (rowsF_row rfl)) (rowsF_wk (wv := wv + 1) (work := wk ++ [n]) (junk := []) nofun) (rowsF_some (rowsF_row rfl)) (rowsF_some (rowsF_row (Xspec_l3State.isF _))) (rowsF_some (rowsF_row (Xspec_l3State.isF _)))) (ren_cons (.pF rfl) (ren_cons (.hp ⟨by decide, by omega, rfl⟩) (ren_cons (.hp ⟨by decide, by omega, rfl⟩) (ren_cons (.hs ⟨by decide, by omega, rfl⟩) (ren_cons (.hs ⟨by decide, by omega, rfl⟩) (ren_cons (.hp ⟨by decide, by omega, rfl⟩) (ren_cons (.pF rfl) ren_nil))))))) ?_
              refine TO.nil ?_
              exact ⟨((gh2, K2, wv + 1, []), tb2, wk ++ [n]), ⟨hl2, hT2, nofun, g3, rfl⟩, cutW rfl (weak_cons rfl (weak_cons rfl (weak_cons rfl (weak_cons rfl (weak_cons rfl (weak_cons rfl (weak_cons rfl weak_nil)))))))⟩
            · replace hs2 := condF q3 hs2
              obtain ⟨g3, hs2⟩ := gdW hs2
              obtain rfl := Option.some.inj hs2
              refine T.reid (e0 := envOf [(7, I t), (6, .hp 4 0 4 0 0), (5, .hp 3 0 2 0 0), (4, hS false 2 wv 4 wk.length), (3, hS false 1 0 1 4096), (2, .hp 0 0 2 0 0), (0, eL (cL Ximpl_Instr.c) p)]) (drop6 hT 5 (.inr rfl) (rowsF_some (rowsF_row rfl)) (rowsF_wk hJ) (rowsF_some (rowsF_row rfl)) (rowsF_some (rowsF_row (Xspec_l3State.isF _))) (rowsF_some (rowsF_row (Xspec_l3State.isF _)))) (ren_cons (.pF rfl) (ren_cons (.hp ⟨by decide, by omega, rfl⟩) (ren_cons (.hp ⟨by decide, by omega, rfl⟩) (ren_cons (.hs ⟨by decide, by omega, rfl⟩) (ren_cons (.hs ⟨by decide, by omega, rfl⟩) (ren_cons (.hp ⟨by decide, by omega, rfl⟩) (ren_cons (.pF rfl) ren_nil))))))) ?_
              refine T.skip ?_
              exact ⟨((gh, K, wv, junk), tb, wk), ⟨hl, hT, hJ, g3, rfl⟩, cutW rfl (weak_cons rfl (weak_cons rfl (weak_cons rfl (weak_cons rfl (weak_cons rfl (weak_cons rfl (weak_cons rfl weak_nil)))))))⟩
      · replace hs2 := condF q1 hs2
        obtain rfl := Option.some.inj hs2
        refine T.reid (e0 := envOf [(5, .hp 3 0 2 0 0), (4, hS false 2 wv 4 wk.length), (3, hS false 1 0 1 4096), (2, .hp 0 0 2 0 0), (0, eL (cL Ximpl_Instr.c) p)]) (drop6 hT 4 (.inl rfl) (rowsF_some (rowsF_row rfl)) (rowsF_wk hJ) (rowsF_some (rowsF_row rfl)) (rowsF_some (rowsF_row (Xspec_l3State.isF _))) rowsF_none) (ren_cons (.hp ⟨by decide, by omega, rfl⟩) (ren_cons (.hs ⟨by decide, by omega, rfl⟩) (ren_cons (.hs ⟨by decide, by omega, rfl⟩) (ren_cons (.hp ⟨by decide, by omega, rfl⟩) (ren_cons (.pF rfl) ren_nil))))) ?_
        refine T.exit ?_
        refine ⟨_, rfl, fun he => ?_⟩
        subst he
        obtain rfl := Option.some.inj hz
        exact ⟨_, (gh, K, wv, junk), rfl, ⟨hl, hT, hJ⟩, cutW rfl (weak_cons rfl (weak_cons rfl (weak_cons rfl (weak_cons rfl (weak_cons rfl weak_nil)))))⟩
    · refine T.seq ?_
      refine T.region ?_
      refine oN (EvN.mv (eL (cL Ximpl_Instr.c) p) rfl) ?_
      refine oA (EvA.loadhp (.agg (Xspec_l3State.c sv)) ty184 rfl rfl rfl rfl rfl rfl) ?_
      refine oN (EvN.call rfl rfl rfl (F_spec_l3Done_P p sv hd) rfl) ?_
      refine TO.nil ?_
      refine T.cond rfl (fun qd => ?_) (fun qd => ?_)
      · subst qd
        replace ho : (Option.bind (F_spec_l3Outcome sv) fun o => F_spec_l3Put outs o) = some outs' := ho
        obtain ⟨o, ho1, ho⟩ := bindL ho
        refine T.drawF (fun i => [([], false), ([3], false), ([4], false), ([], false), ([], false), ([], false), ([3], true)].getD i ([], false)) (by kernel_rfl) (by kernel_rfl) ?_
        refine fN rfl (EvN.fahp Try.underlying136 rfl (by kernel_rfl) rfl) ?_
        refine fR [3] rfl (fun G hG => EvA.loadhp (eL (cL cI) outs) ty62 rfl (hG.a0 rfl) rfl rfl rfl rfl) ?_
        refine fR [4] rfl (fun G hG => EvA.loadhp (.agg (Xspec_l3State.c sv)) ty184 rfl (hG.a0 rfl) rfl rfl rfl rfl) ?_
        refine fN rfl (EvN.call rfl rfl rfl (F_spec_l3Outcome_P sv ho1) rfl) ?_
        refine fN rfl (EvN.call rfl rfl rfl (F_spec_l3Put_P outs o ho) rfl) ?_
        refine fN rfl (EvN.fahp Try.underlying136 rfl (by kernel_rfl) rfl) ?_
        refine fV 3 [] rfl rfl (fun G hG => EvA.st (cs := [eL (cL cI) outs']) ⟨0, 2, 136, [[I (states + 1), eL (cL cI) outs']]⟩ ty62 rfl rfl (hG.a0 rfl) rfl rfl rfl rfl rfl rfl) ?_
        refine TF.nil ?_
        exact ⟨(), trivial, cutW rfl (weak_cons rfl (weak_cons rfl (weak_cons rfl (weak_cons rfl (weak_cons rfl (weak_cons rfl weak_nil))))))⟩
      · subst qd
        obtain rfl := Option.some.inj ho
        refine T.skip ?_
        exact ⟨(), trivial, cutW rfl (weak_cons rfl (weak_cons rfl (weak_cons rfl (weak_cons rfl (weak_cons rfl (weak_cons rfl weak_nil))))))⟩
  · replace hz := condF q0 hz
    obtain rfl := Option.some.inj hz
    refine T.exit ?_
    refine ⟨_, rfl, fun he => ?_⟩
    subst he
    refine T.seq ?_
    refine T.region ?_
    refine oA (EvA.loadhp (.agg [I states, eL (cL cI) outs]) ty136 rfl rfl rfl rfl rfl rfl) ?_
    refine oV (EvA.st (cs := [I states, eL (cL cI) outs]) ⟨0, 2, 136, [[I states, eL (cL cI) outs]]⟩ ty136 rfl rfl rfl rfl rfl rfl rfl rfl rfl) ?_
    refine TO.nil ?_
    refine T.ret ?_
    repeat first | refine retS ?_ | refine retB ?_
    exact Fin.ret (vs := [.agg [I states, eL (cL cI) outs]]) (.cons (.cell (.agg [I states, eL (cL cI) outs]) ty136 rfl rfl rfl rfl rfl rfl) .nil) (.of_isF 9 _ rfl)
end Go.Proofs.Ytjogdblionfmiaa
