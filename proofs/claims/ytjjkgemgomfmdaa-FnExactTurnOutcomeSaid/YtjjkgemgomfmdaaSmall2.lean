/-
  Contracts of the small tests, second part: spec.l14Test, spec.SmallTest, impl.SmallTest. No conditions beyond the number's range.
-/
import Derived.Test.YtjjkgemgomfmdaaSmall
import Derived.Test.YtjjkgemgomfmdaaApp
import Derived.Outline
import Derived.Deep.RegionLaw
namespace Go.Proofs.Ytjjkgemgomfmdaa
open Go.ChangeShapes Go.WideShapes Go.ChangeAt Go.RowKit
set_option maxRecDepth 100000

/-- the digits of a number that are still to come, laid before what has come -/
def digs : Nat → Nat → List Ins → List Ins → List Ins × List Ins
  | 0, _, r0, r1 => (r0, r1)
  | i + 1, m, r0, r1 => if i / 2 = 0 then digs i (m / 6) (smalls[m % 6]'(Nat.mod_lt _ (by decide)) :: r0) r1 else digs i (m / 6) r0 (smalls[m % 6]'(Nat.mod_lt _ (by decide)) :: r1)

theorem Ow.setOther {α : Type} {f : α → List Value} {s : Nat} {t t' : TypeId} {w : World} {lo hi g : Nat} {v : Value} {xs : List α} {cs : Array Value} (h : Ow f s t w lo hi v xs) (hB : Blk w g t' cs) (hne : t ≠ t') (i : Nat) (u : Value) : Ow f s t (w.setCell ⟨g, i, none⟩ u) lo hi v xs := by
  obtain ⟨A, c, rfl, hc, hm, r⟩ := h
  refine ⟨A, c, rfl, hc, hm, fun hn => ?_⟩
  obtain ⟨g', cur, rfl, h1, h2, h3, h4⟩ := r hn
  refine ⟨g', cur, rfl, h1, h2, h3.far ?_ _, h4⟩
  rintro rfl
  exact hne (h3.inj hB).1
theorem l14_step {to ti : TypeId} (hne : ti ≠ to) {B : Nat} {wr w1 : World} {o : Obj} {x : Ins} {r r' : List Ins} {A' : Option Addr} {c' gg cap : Nat} 
    (hgrow : (wr.alloc o).drew.grownBy w1 (some wr.heap.size)) (hown : w1.ownsRow B ti 4 (.slice (some ⟨gg, 0, none⟩) (1 + r.length) cap) (1 + r.length) (x.cells ++ r.flatMap Ins.cells))
    (hat : gg = wr.heap.size ∨ gg = wr.heap.size + 1) (hO' : Ow Ins.cells 4 ti wr B wr.heap.size (.slice A' r'.length c') r') {g : Nat} {cs : Array Value} (hP : Blk w1 g to cs) (q : Nat) (u : Value) :
    Ow Ins.cells 4 ti (w1.setCell ⟨g, q, none⟩ u) B (w1.setCell ⟨g, q, none⟩ u).heap.size (.slice (some ⟨gg, 0, none⟩) (x :: r).length cap) (x :: r) ∧
    Ow Ins.cells 4 ti (w1.setCell ⟨g, q, none⟩ u) B (w1.setCell ⟨g, q, none⟩ u).heap.size (.slice A' r'.length c') r' ∧
    (0 < r'.length → (Value.slice A' r'.length c').ownBlock ≠ (Value.slice (some ⟨gg, 0, none⟩) (x :: r).length cap).ownBlock) := by
  have hsz : (w1.setCell ⟨g, q, none⟩ u).heap.size = w1.heap.size := by simp [World.setCell]
  have hlt : wr.heap.size < w1.heap.size := Nat.lt_of_lt_of_le (by simp) hgrow.size
  rw [hsz]
  refine ⟨?_, ?_, fun hn => ?_⟩
  · have h1 : Ow Ins.cells 4 ti w1 B w1.heap.size (.slice (some ⟨gg, 0, none⟩) (1 + r.length) cap) (x :: r) := Ow.of_row ins_len hown (by rw [List.length_cons]; omega) rfl
    rw [List.length_cons, Nat.add_comm]
    exact h1.setOther hP hne q u
  · have h1 := hO'.fr ((Fr.refl 0 0 wr).alloc o).drew (by omega)
    have h2 := h1.grown hgrow (fun hn => by
      obtain ⟨g', cur, h3, _, h4, _⟩ := hO'.block hn
      rw [h3]
      intro h5
      injection h5 with h5
      omega)
    exact (h2.mono (Nat.le_refl _) (by omega)).setOther hP hne q u
  · obtain ⟨g', cur, h3, _, h4, _⟩ := hO'.block hn
    rw [h3]
    simp only [Value.ownBlock, ne_eq, Option.some.injEq]
    omega

set_option maxHeartbeats 4000000 in
theorem l14Test_any (n : Nat) (hn : n < 1296) (w : World) :
    Calls Try.prog 49 #[.int .i64 n] w fun e w' => ∃ v, e = .returned v ∧ OwOw Ins.cells 4 57 66 w' w.heap.size w'.heap.size v [(digs 4 n [] []).1, (digs 4 n [] []).2] ∧ Below w.heap.size w w' := by
  obtain ⟨i0, hi0, hz0, hz1, hz2⟩ := info_parts Try.infoIns
  go_enter Try.func49, Try.ntmps49
  go_wp2_with fail
  refine (l14Instrs_any _).mono ?_
  rintro e w1 ⟨rfl, rfl⟩
  go_wp2_with fail
  go_loopw [0, 5] (fun sm si wr => ∃ (i m : Nat) (r0 r1 : List Ins) (A0 A1 : Option Addr) (c0 c1 : Nat), si = .int .i64 ((i : Int) - 1) ∧ sm = .int .i64 m ∧ m < 1296 ∧ r0.length + r1.length + i = 4 ∧ digs i m r0 r1 = digs 4 n [] [] ∧ Below w.heap.size w wr ∧
      Blk wr w.heap.size 66 smallCells ∧ Blk wr (w.heap.size + 1 + 1 + 1) 57 #[.slice A0 r0.length c0, .slice A1 r1.length c1] ∧
      Ow Ins.cells 4 66 wr (w.heap.size + 1) wr.heap.size (.slice A0 r0.length c0) r0 ∧ Ow Ins.cells 4 66 wr (w.heap.size + 1) wr.heap.size (.slice A1 r1.length c1) r1 ∧
      (0 < r0.length → 0 < r1.length → (Value.slice A0 r0.length c0).ownBlock ≠ (Value.slice A1 r1.length c1).ownBlock)) (fun _ si _ => (intOf si + 1).toNat)
  case atStart =>
    refine ⟨4, n, [], [], _, _, _, _, rfl, rfl, hn, rfl, rfl, ?_, ?_, Blk.at_ (by simp), Ow.nil_ _ _ (by omega), Ow.nil_ _ _ (by omega), fun h => absurd h (by simp)⟩
    · exact ((((Below.refl _ _).alloc (Nat.le_refl _) _).alloc (by simp) _).alloc (by simp; omega) _).alloc (by simp; omega) _
    · exact (((Blk.new _ _ _).alloc _).alloc _).alloc _
  case round =>
    obtain ⟨i, m, r0, r1, A0, A1, c0, c1, rfl, rfl, hm, hlen, hdig, hb, hB, hO, hO0, hO1, hsep⟩ := hrel
    have HB := Lib.hid hB; clear hB
    have HO := Lib.hid hO; clear hO
    have O0 := Lib.hid hO0; clear hO0
    have O1 := Lib.hid hO1; clear hO1
    have SEP := Lib.hid hsep; clear hsep
    have DIG := Lib.hid hdig; clear hdig
    have hgl := HO.out.lt
    have hle : r0.length ≤ 4 ∧ r1.length ≤ 4 ∧ i ≤ 4 := by omega
    have LEN := Lib.hid hlen; clear hlen
    obtain ⟨hl0, hl1, hi4⟩ := hle
    by_cases hi : 0 < i
    · obtain ⟨i, rfl⟩ : ∃ j, i = j + 1 := ⟨i - 1, by omega⟩
      have hsub : ((i + 1 : Nat) : Int) - 1 = (i : Int) := by omega
      rw [hsub]
      clear hsub
      have hd6 : m % 6 < 6 := Nat.mod_lt _ (by decide)
      have hstep : digs (i + 1) m r0 r1 = if i / 2 = 0 then digs i (m / 6) (smalls[m % 6]'hd6 :: r0) r1 else digs i (m / 6) r0 (smalls[m % 6]'hd6 :: r1) := rfl
      have ks := small_cells (m % 6) hd6
      generalize smalls[m % 6]'hd6 = x at *
      have t6 : (m : Int).tmod 6 = ((m % 6 : Nat) : Int) := by rw [Int.tmod_eq_emod_of_nonneg (by omega)]; omega
      have t7 : IntKind.i64.wrap ((m : Int).tdiv 6) = ((m / 6 : Nat) : Int) := by rw [IntWalk.i64_in _ (by rw [Int.tdiv_eq_ediv_of_nonneg (by omega)]; omega), Int.tdiv_eq_ediv_of_nonneg (by omega)]; omega
      have hm6 : m / 6 < 1296 := by omega
      generalize hdd : m % 6 = d at *
      generalize hmm : m / 6 = m' at *
      have HMM := Lib.hid hmm
      clear hdd hmm
      have KEY : Hid (∀ W : World, Blk W w.heap.size 66 smallCells → W.cell? ⟨w.heap.size, d * 4, none⟩ = some (.int .i64 x.op) ∧ W.cell? ⟨w.heap.size, d * 4 + 1, none⟩ = some (.int .i64 x.loc) ∧ W.cell? ⟨w.heap.size, d * 4 + 2, none⟩ = some (.int .i64 x.reg) ∧ W.cell? ⟨w.heap.size, d * 4 + 3, none⟩ = some (.int .i64 x.val)) := fun W h => h.ins ks
      have HST := Lib.hid hstep; clear hstep ks
      have d0 : (0 : Int) ≤ (d : Int) := by omega
      have d1 : (d : Int) < 6 := by omega
      have i0' : (0 : Int) ≤ (i : Int) := by omega
      have NEW : Hid (∀ W : World, W.heap.size = wr.heap.size → (W.alloc (.cells #[.int .i64 x.op, .int .i64 x.loc, .int .i64 x.reg, .int .i64 x.val] 66)).ownsRow (w.heap.size + 1) 66 4 (.slice (some ⟨wr.heap.size, 0, none⟩) 1 1) 1 x.cells) := by
        intro W hW
        exact ⟨rfl, .inr ⟨wr.heap.size, 1, #[.int .i64 x.op, .int .i64 x.loc, .int .i64 x.reg, .int .i64 x.val], rfl, by omega, hW ▸ heap_alloc_new W _, Nat.le_refl _, by simp [maxLen], rfl, rfl⟩⟩
      have SRC0 : Hid (∀ W : World, (∃ o, W = (wr.alloc o).drew) → Src W A0 r0.length (r0.flatMap Ins.cells)) := by
        rintro _ ⟨o, rfl⟩
        obtain ⟨A', c', hsv, hsrc⟩ := ((O0.out.fr ((Fr.refl 0 0 wr).alloc o) (by omega)).sl).src (f := Ins.cells) (s := 4) ins_len (by omega)
        injection hsv with hA' _ hc'
        subst hA' hc'
        exact hsrc
      have SRC1 : Hid (∀ W : World, (∃ o, W = (wr.alloc o).drew) → Src W A1 r1.length (r1.flatMap Ins.cells)) := by
        rintro _ ⟨o, rfl⟩
        obtain ⟨A', c', hsv, hsrc⟩ := ((O1.out.fr ((Fr.refl 0 0 wr).alloc o) (by omega)).sl).src (f := Ins.cells) (s := 4) ins_len (by omega)
        injection hsv with hA' _ hc'
        subst hA' hc'
        exact hsrc
      by_cases hq : i < 2
      · have q2 : (i : Int) / 2 = 0 := by omega
        have q4 : (i : Int).tdiv 2 = 0 := by rw [Int.tdiv_eq_ediv_of_nonneg (by omega)]; omega
        have q5 : IntKind.i64.wrap 0 = 0 := rfl
        have OC : Hid (∀ W : World, Blk W w.heap.size 66 smallCells → Blk W (w.heap.size + 1 + 1 + 1) 57 #[.slice A0 r0.length c0, .slice A1 r1.length c1] →
            W.cell? ⟨w.heap.size, d * 4, none⟩ = some (.int .i64 x.op) ∧ W.cell? ⟨w.heap.size, d * 4 + 1, none⟩ = some (.int .i64 x.loc) ∧ W.cell? ⟨w.heap.size, d * 4 + 2, none⟩ = some (.int .i64 x.reg) ∧ W.cell? ⟨w.heap.size, d * 4 + 3, none⟩ = some (.int .i64 x.val) ∧ W.cell? ⟨w.heap.size + 1 + 1 + 1, 0, none⟩ = some (.slice A0 r0.length c0)) := by
          intro W h1 h2
          have h3 := KEY.out W h1
          exact ⟨h3.1, h3.2.1, h3.2.2.1, h3.2.2.2, by rw [h2.cell]; rfl⟩
        have FZ : Hid (∀ W : World, Blk W (w.heap.size + 1 + 1 + 1) 57 #[.slice A0 r0.length c0, .slice A1 r1.length c1] → W.frozen? ⟨w.heap.size + 1 + 1 + 1, 0, none⟩ = false) := fun W h => h.frozen 0
        have oc1 : wr.cell? ⟨w.heap.size + 1 + 1 + 1, 0, none⟩ = some (.slice A0 r0.length c0) := (OC.out _ HB.out HO.out).2.2.2.2
        have oc2 := World.new_ne wr _ oc1
        obtain ⟨kc1, kc2, kc3, kc4⟩ := KEY.out _ HB.out
        go_wp2_with fail
        go_region_law ((refine step_append_srcx _ (by rfl) _ _ _ (by rfl) (w.heap.size + 1) 66 i0 _ 4 32 Try.underlying57 hi0 hz0 hz1 hz2 rfl (by omega) (.slice (some ⟨wr.heap.size, 0, none⟩) 1 1) 1 x.cells (by rfl) (NEW.out wr.drew rfl) A0 r0.length c0 (r0.flatMap Ins.cells) (by rfl) (flat_len ins_len r0) (SRC0.out _ ⟨_, by rfl⟩) (ins_one r0) (by simp only [maxLen]; omega) (by omega) (by simp; omega) (by omega) ?_; intro gg cap w1 hown hgrow hat hlt; have fz1 := FZ.out w1 (((HO.out.alloc _).drew).grown hgrow (by simp [Value.ownBlock]; omega)); have cz1 := (OC.out w1 (((HB.out.alloc _).drew).grown hgrow (by simp [Value.ownBlock]; omega)) (((HO.out.alloc _).drew).grown hgrow (by simp [Value.ownBlock]; omega))).2.2.2.2))
        all_goals
          have B1 := ((HB.out.alloc (.cells #[.int .i64 x.op, .int .i64 x.loc, .int .i64 x.reg, .int .i64 x.val] 66)).drew).grown hgrow (by simp [Value.ownBlock]; omega)
          have P1 := ((HO.out.alloc (.cells #[.int .i64 x.op, .int .i64 x.loc, .int .i64 x.reg, .int .i64 x.val] 66)).drew).grown hgrow (by simp [Value.ownBlock]; omega)
          have GR := Lib.hid hgrow
          have OWN := Lib.hid hown
          have HB1 := Lib.hid B1
          have HP1 := Lib.hid P1
          clear hgrow hown B1 P1 cz1 fz1 oc1 oc2
          go_wp2
          go_roundw
          case rel =>
            have hat' : gg = wr.heap.size ∨ gg = wr.heap.size + 1 := by
              rcases hat with h | h
              · exact .inl (by simpa [Value.ownBlock] using h.symm)
              · exact .inr (by simpa using h)
            have LS := l14_step (to := 57) (r := r0) (r' := r1) (by decide) GR.out OWN.out hat' O1.out HP1.out 0 (.slice (some ⟨gg, 0, none⟩) (1 + r0.length) cap)
            have hm := HMM.out
            have hl := LEN.out
            have hsum : Hid ((x :: r0).length = 1 + r0.length) := by rw [List.length_cons, Nat.add_comm]; rfl
            refine ⟨i, m', x :: r0, r1, some ⟨gg, 0, none⟩, A1, cap, c1, rfl, congrArg (Value.int .i64) (by omega), hm6, by rw [List.length_cons]; omega, ?_, ?_, ?_, ?_, LS.1, LS.2.1, fun _ h => (LS.2.2 h).symm⟩
            · rw [← DIG.out, HST.out]
              rw [if_pos (by omega)]
            · have hg2 := (((Below.refl w.heap.size wr).alloc hb.size _).drew).grown GR.out (by simp; omega) (fun k hk => by simp [Value.ownBlock] at hk; omega)
              exact (hb.trans hg2).setCell (by simp; omega) _
            · exact HB1.out.far (by simp; omega) _
            · rw [hsum]
              exact HP1.out.set_ 0 _
          case measure => simp [intOf]
      · have q2 : (i : Int) / 2 = 1 := by omega
        have q4 : (i : Int).tdiv 2 = 1 := by rw [Int.tdiv_eq_ediv_of_nonneg (by omega)]; omega
        have q5 : IntKind.i64.wrap 1 = 1 := rfl
        have OC : Hid (∀ W : World, Blk W w.heap.size 66 smallCells → Blk W (w.heap.size + 1 + 1 + 1) 57 #[.slice A0 r0.length c0, .slice A1 r1.length c1] →
            W.cell? ⟨w.heap.size, d * 4, none⟩ = some (.int .i64 x.op) ∧ W.cell? ⟨w.heap.size, d * 4 + 1, none⟩ = some (.int .i64 x.loc) ∧ W.cell? ⟨w.heap.size, d * 4 + 2, none⟩ = some (.int .i64 x.reg) ∧ W.cell? ⟨w.heap.size, d * 4 + 3, none⟩ = some (.int .i64 x.val) ∧ W.cell? ⟨w.heap.size + 1 + 1 + 1, 1, none⟩ = some (.slice A1 r1.length c1)) := by
          intro W h1 h2
          have h3 := KEY.out W h1
          exact ⟨h3.1, h3.2.1, h3.2.2.1, h3.2.2.2, by rw [h2.cell]; rfl⟩
        have FZ : Hid (∀ W : World, Blk W (w.heap.size + 1 + 1 + 1) 57 #[.slice A0 r0.length c0, .slice A1 r1.length c1] → W.frozen? ⟨w.heap.size + 1 + 1 + 1, 1, none⟩ = false) := fun W h => h.frozen 1
        have oc1 : wr.cell? ⟨w.heap.size + 1 + 1 + 1, 1, none⟩ = some (.slice A1 r1.length c1) := (OC.out _ HB.out HO.out).2.2.2.2
        have oc2 := World.new_ne wr _ oc1
        obtain ⟨kc1, kc2, kc3, kc4⟩ := KEY.out _ HB.out
        go_wp2_with fail
        go_region_law ((refine step_append_srcx _ (by rfl) _ _ _ (by rfl) (w.heap.size + 1) 66 i0 _ 4 32 Try.underlying57 hi0 hz0 hz1 hz2 rfl (by omega) (.slice (some ⟨wr.heap.size, 0, none⟩) 1 1) 1 x.cells (by rfl) (NEW.out wr.drew rfl) A1 r1.length c1 (r1.flatMap Ins.cells) (by rfl) (flat_len ins_len r1) (SRC1.out _ ⟨_, by rfl⟩) (ins_one r1) (by simp only [maxLen]; omega) (by omega) (by simp; omega) (by omega) ?_; intro gg cap w1 hown hgrow hat hlt; have fz1 := FZ.out w1 (((HO.out.alloc _).drew).grown hgrow (by simp [Value.ownBlock]; omega)); have cz1 := (OC.out w1 (((HB.out.alloc _).drew).grown hgrow (by simp [Value.ownBlock]; omega)) (((HO.out.alloc _).drew).grown hgrow (by simp [Value.ownBlock]; omega))).2.2.2.2))
        all_goals
          have B1 := ((HB.out.alloc (.cells #[.int .i64 x.op, .int .i64 x.loc, .int .i64 x.reg, .int .i64 x.val] 66)).drew).grown hgrow (by simp [Value.ownBlock]; omega)
          have P1 := ((HO.out.alloc (.cells #[.int .i64 x.op, .int .i64 x.loc, .int .i64 x.reg, .int .i64 x.val] 66)).drew).grown hgrow (by simp [Value.ownBlock]; omega)
          have GR := Lib.hid hgrow
          have OWN := Lib.hid hown
          have HB1 := Lib.hid B1
          have HP1 := Lib.hid P1
          clear hgrow hown B1 P1 cz1 fz1 oc1 oc2
          go_wp2
          go_roundw
          case rel =>
            have hat' : gg = wr.heap.size ∨ gg = wr.heap.size + 1 := by
              rcases hat with h | h
              · exact .inl (by simpa [Value.ownBlock] using h.symm)
              · exact .inr (by simpa using h)
            have LS := l14_step (to := 57) (r := r1) (r' := r0) (by decide) GR.out OWN.out hat' O0.out HP1.out 1 (.slice (some ⟨gg, 0, none⟩) (1 + r1.length) cap)
            have hm := HMM.out
            have hl := LEN.out
            have hsum : Hid ((x :: r1).length = 1 + r1.length) := by rw [List.length_cons, Nat.add_comm]; rfl
            refine ⟨i, m', r0, x :: r1, A0, some ⟨gg, 0, none⟩, c0, cap, rfl, congrArg (Value.int .i64) (by omega), hm6, by rw [List.length_cons]; omega, ?_, ?_, ?_, ?_, LS.2.1, LS.1, fun h _ => LS.2.2 h⟩
            · rw [← DIG.out, HST.out]
              rw [if_neg (by omega)]
            · have hg2 := (((Below.refl w.heap.size wr).alloc hb.size _).drew).grown GR.out (by simp; omega) (fun k hk => by simp [Value.ownBlock] at hk; omega)
              exact (hb.trans hg2).setCell (by simp; omega) _
            · exact HB1.out.far (by simp; omega) _
            · rw [hsum]
              exact HP1.out.set_ 1 _
          case measure => simp [intOf]
    · have hi0 : i = 0 := by omega
      have hfin : digs i m r0 r1 = (r0, r1) := by subst hi0; rfl
      have HFIN := Lib.hid (DIG.out.symm.trans hfin)
      have hneg : ((i : Int) - 1) < 0 := by omega
      clear hfin hi0 hi
      go_wp2
      go_ret
      refine ⟨_, rfl, ?_, hb⟩
      rw [HFIN.out]
      have hlen := LEN.out
      obtain ⟨vs, hvs⟩ : ∃ vs : List Value, vs = [.slice A0 r0.length c0, .slice A1 r1.length c1] := ⟨_, rfl⟩
      refine ⟨[.slice A0 r0.length c0, .slice A1 r1.length c1], ⟨_, 2, rfl, Nat.le_refl _, by omega, fun _ => ⟨_, _, rfl, by omega, hgl, HO.out, rfl, fun k hk j u hu => ?_⟩⟩, rfl, fun k h h' => ?_, fun a b ha hb' ha' hb'' hab h1 h2 => ?_⟩
      · match k, j, hk, hu with
        | 0, 0, _, hu => simpa [val1] using hu
        | 1, 0, _, hu => simpa [val1] using hu
        | 0, j + 1, _, hu => simp [val1] at hu
        | 1, j + 1, _, hu => simp [val1] at hu
      · match k, h, h' with
        | 0, _, _ => exact O0.out.mono (by omega) (Nat.le_refl _)
        | 1, _, _ => exact O1.out.mono (by omega) (Nat.le_refl _)
      · have ha2 : a < 2 := ha
        have hb2 : b < 2 := hb'
        by_cases e : a = 0
        · obtain rfl : b = 1 := by omega
          subst e
          exact SEP.out h1 h2
        · obtain rfl : a = 1 := by omega
          obtain rfl : b = 0 := by omega
          exact (SEP.out h2 h1).symm
end Go.Proofs.Ytjjkgemgomfmdaa
