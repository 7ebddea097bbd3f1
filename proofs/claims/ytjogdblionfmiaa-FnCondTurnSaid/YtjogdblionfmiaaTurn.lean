/-
  Contracts of impl.isThread, impl.turned, spec.l12Turn, impl.TurnThreads, spec.TurnThreads. Conditions: the program has at most 1048576 instructions and threads.
-/
import Derived.Test.YtjogdblionfmiaaL1Copy
import Derived.BigRegion
namespace Go.Proofs.Ytjogdblionfmiaa
open Go.ChangeShapes Go.WideShapes Go.ChangeAt Go.RowKit
set_option maxRecDepth 100000

theorem isThread_any {lo hi : Nat} {u : Value} {p : List (List Ins)} {w : World} (t : Int) (b : Bool) (hu : SlSl Ins.cells 4 w lo hi u p) (hhi : hi ≤ w.heap.size) (ht : total p ≤ 1048576) (hp : p.length ≤ 1048576)
    (hb : (validB p && inB t ((p.length : Int) - 1)) = b) :
    Calls Try.prog 86 #[u, .int .i64 t] w fun e w' => e = .returned (.bool b) ∧ Below w.heap.size w w' := by
  subst hb
  have HU := Lib.hid hu
  obtain ⟨xs, hxs, hxl, hxr⟩ := hu
  obtain ⟨A, ca, rfl, hca, hma, hA⟩ := hxs.vals
  clear hxs hxr hA
  have HX := Lib.hid hxl
  have hxle : xs.length ≤ 1048576 := by omega
  clear hxl
  have PV := Lib.hid (impl_ProgramValid_any (w := w) HU.out hhi ht)
  cases hv : validB p with
  | false =>
    rw [hv] at PV
    go_enter Try.func86, Try.ntmps86
    go_wp2_with (go_at_call 33; refine PV.out.mono ?_; rintro e w1 ⟨rfl, hb⟩)
    go_ret
    exact ⟨rfl, hb⟩
  | true =>
    rw [hv] at PV
    have hw : (decide (0 ≤ t) && decide (t ≤ (xs.length : Int) - 1)) = inB t ((p.length : Int) - 1) := by rw [HX.out]; rfl
    have HW := Lib.hid hw; clear hw
    go_enter Try.func86, Try.ntmps86
    go_wp2_with (first | (go_at_call 33; refine PV.out.mono ?_; rintro e w1 ⟨rfl, hb⟩) | (go_at_call 65; refine (within_any _ _ _ _ HW.out _).mono ?_; rintro e w2 ⟨rfl, rfl⟩))
    go_ret
    exact ⟨ret_bool (by simp), hb⟩

def turnI (n i k : Int) : Int := if n = i then k else if n = k then i else n
theorem turned_any (n i k : Int) (w : World) : Calls Try.prog 78 #[.int .i64 n, .int .i64 i, .int .i64 k] w fun e w' => e = .returned (.int .i64 (turnI n i k)) ∧ w = w' := by
  unfold turnI
  go_enter Try.func78, Try.ntmps78
  go_wp2_with fail
  all_goals (go_ret; exact ⟨ret_int (by simp_all), rfl⟩)
theorem l12Turn_any (n i k : Int) (w : World) : Calls Try.prog 79 #[.int .i64 n, .int .i64 i, .int .i64 k] w fun e w' => e = .returned (.int .i64 (turnI n i k)) ∧ w = w' := by
  unfold turnI
  go_enter Try.func79, Try.ntmps79
  go_wp2_with fail
  all_goals (go_ret; exact ⟨ret_int (by simp_all), rfl⟩)

def thrB (p : List (List Ins)) (t : Int) : Bool := validB p && inB t ((p.length : Int) - 1)
def turnN (t i k : Nat) : Nat := if t = i then k else if t = k then i else t
def turnP (p : List (List Ins)) (i k : Nat) : List (List Ins) := (List.range p.length).map fun t => p.getD (turnN t i k) []
def turnR (p : List (List Ins)) (i k : Int) : List (List Ins) × Bool := if (thrB p i && thrB p k) = true then (turnP p i.toNat k.toNat, true) else ([], false)
theorem turnP_length (p : List (List Ins)) (i k : Nat) : (turnP p i k).length = p.length := by simp [turnP]
theorem turnP_get (p : List (List Ins)) (i k j : Nat) (h : j < (turnP p i k).length) (h' : turnN j i k < p.length) : (turnP p i k)[j] = p[turnN j i k] := by simp [turnP, h']
theorem turnN_lt {n t i k : Nat} (ht : t < n) (hi : i < n) (hk : k < n) : turnN t i k < n := by unfold turnN; split <;> (try split) <;> omega
theorem turnN_inj {a b i k : Nat} (h : turnN a i k = turnN b i k) : a = b := by
  unfold turnN at h
  split at h <;> split at h <;> (try split at h) <;> (try split at h) <;> omega

set_option maxHeartbeats 1000000 in
theorem impl_TurnThreads_any {lo hi : Nat} {u : Value} {p : List (List Ins)} {w : World} (i k : Int) (hu : SlSl Ins.cells 4 w lo hi u p) (hhi : hi ≤ w.heap.size) (ht : total p ≤ 1048576) (hp : p.length ≤ 1048576) :
    Calls Try.prog 29 #[u, .int .i64 i, .int .i64 k] w fun e w' => (∃ v, e = .returned (.tuple #[v, .bool (turnR p i k).2]) ∧ OwOw Ins.cells 4 78 81 w' w.heap.size w'.heap.size v (turnR p i k).1) ∧ Below w.heap.size w w' := by
  have HU := Lib.hid hu; clear hu
  by_cases h1 : thrB p i = true
  · by_cases h2 : thrB p k = true
    · have hr : turnR p i k = (turnP p i.toNat k.toNat, true) := by unfold turnR; rw [h1, h2]; rfl
      have hi := h1
      have hk := h2
      simp only [thrB, inB, Bool.and_eq_true, decide_eq_true_eq] at hi hk
      obtain ⟨hv, hi0, hi1⟩ := hi
      obtain ⟨_, hk0, hk1⟩ := hk
      obtain ⟨a, rfl⟩ := Int.eq_ofNat_of_zero_le hi0
      obtain ⟨b, rfl⟩ := Int.eq_ofNat_of_zero_le hk0
      rw [hr]
      simp only [Int.toNat_natCast]
      have ha : a < p.length := by omega
      have hb' : b < p.length := by omega
      have H1 := Lib.hid h1; clear h1
      have H2 := Lib.hid h2; clear h2 hv hr
      have a0 : (0 : Int) ≤ (a : Int) := by omega
      have a1 : (a : Int) < (p.length : Int) := by omega
      have b0 : (0 : Int) ≤ (b : Int) := by omega
      have b1 : (b : Int) < (p.length : Int) := by omega
      go_enter Try.func29, Try.ntmps29
      go_wp2_with fail
      refine (isThread_any _ true HU.out hhi ht hp H1.out).mono ?_
      rintro e w1 ⟨rfl, hb1⟩
      go_wp2_with fail
      refine (isThread_any _ true (HU.out.below hb1 hhi) (Nat.le_trans hhi hb1.size) ht hp H2.out).mono ?_
      rintro e w2 ⟨rfl, hb2⟩
      have s1 := hb1.size
      have s2 := hb2.size
      go_wp2_with fail
      refine (cloneProgram_any ((HU.out.below hb1 hhi).below hb2 (by omega)) (by omega) hp ht).mono ?_
      rintro e w3 ⟨⟨g, cs, V, rfl, hB, hg, hcs, hrow, hsep⟩, hb3⟩
      have HROW := Lib.hid hrow; clear hrow
      have HSEP := Lib.hid hsep; clear hsep
      have HB := Lib.hid hB; clear hB
      have HCS := Lib.hid hcs; clear hcs
      have c1 := HB.out.cell a
      have c2 := HB.out.cell b
      rw [(HROW.out a ha).1] at c1
      rw [(HROW.out b hb').1] at c2
      have f1 := HB.out.frozen a
      have f2 := HB.out.frozen b
      obtain ⟨A1, n1, hv1, _⟩ := (HROW.out a ha).2
      obtain ⟨A2, n2, hv2, _⟩ := (HROW.out b hb').2
      rw [hv1] at c1
      rw [hv2] at c2
      have HV1 := Lib.hid hv1; clear hv1
      have HV2 := Lib.hid hv2; clear hv2
      obtain ⟨x1, hx1⟩ := cell?_setCell_some (w := w3) (p := ⟨g, a, none⟩) (x := .slice A2 p[b].length n2) (q := ⟨g, b, none⟩) (v := .slice A2 p[b].length n2) (by go_simp)
      go_wp2_with fail
      go_region
      go_wp2
      go_ret2
      have s3 := hb3.size
      refine ⟨⟨_, rfl, ?_⟩, ?_⟩
      · have hsz : ((w3.setCell ⟨g, a, none⟩ (.slice A2 p[b].length n2)).setCell ⟨g, b, none⟩ (.slice A1 p[a].length n1)).drew.heap.size = w3.heap.size := by simp [World.setCell]
        rw [hsz]
        have hlen : (turnP p a b).length = p.length := turnP_length p a b
        have hB2 := ((HB.out.set_ a (.slice A2 p[b].length n2)).set_ b (.slice A1 p[a].length n1)).drew
        have hM := OwOw.made2 (f := Ins.cells) (s := 4) (ti := 81) (p := turnP p a b) (c := p.length) (V := fun j => V (turnN j a b)) hB2 (lo := w.heap.size) (hi := w3.heap.size) ⟨by omega, HB.out.lt⟩ (by simp; exact HCS.out) (by omega) (by omega)
          (fun j h => ?_) (fun i j hi hj hij h1 h2 => ?_)
        · rw [hlen] at hM
          exact hM
        · have hj : j < p.length := by omega
          have ht2 := turnN_lt hj ha hb'
          refine ⟨?_, ?_⟩
          · have hsz2 : cs.size = p.length := HCS.out
            by_cases e : j = b
            · subst e
              rw [set_get_same (by simp; omega)]
              show _ = some (V (turnN j a j))
              rw [show turnN j a j = a from by unfold turnN; split <;> simp_all, HV1.out]
            · rw [set_get_ne (by omega)]
              by_cases e2 : j = a
              · subst e2
                show _ = some (V (turnN j j b))
                rw [set_get_same (by omega), show turnN j j b = b from by simp [turnN], HV2.out]
              · rw [set_get_ne (by omega)]
                have : turnN j a b = j := by simp [turnN, e, e2]
                rw [this]
                exact (HROW.out j hj).1
          · rw [turnP_get p a b j h ht2]
            exact ((((HROW.out _ ht2).2.setOther HB.out (by decide) a _).setOther (HB.out.set_ a _) (by decide) b _).fr (Fr.refl 0 0 _).drew (by omega)).mono (by omega) (Nat.le_refl _)
        · have hi' : i < p.length := by omega
          have hj' : j < p.length := by omega
          have hti := turnN_lt hi' ha hb'
          have htj := turnN_lt hj' ha hb'
          rw [turnP_get p a b i hi hti] at h1
          rw [turnP_get p a b j hj htj] at h2
          exact HSEP.out _ _ hti htj (fun h => hij (turnN_inj h)) h1 h2
      · have g1 := hb1.trans (hb2.mono s1)
        have g2 := g1.trans (hb3.mono g1.size)
        exact ((g2.setCell (by simp; omega) _).setCell (by simp; omega) _).drew
    · have hr : turnR p i k = ([], false) := by unfold turnR; simp [h2]
      rw [hr]
      have H1 := Lib.hid h1; clear h1
      have h2' : thrB p k = false := by simpa using h2
      have H2 := Lib.hid h2'; clear h2 h2' hr
      go_enter Try.func29, Try.ntmps29
      go_wp2_with fail
      refine (isThread_any _ true HU.out hhi ht hp H1.out).mono ?_
      rintro e w1 ⟨rfl, hb1⟩
      go_wp2_with fail
      refine (isThread_any _ false (HU.out.below hb1 hhi) (Nat.le_trans hhi hb1.size) ht hp H2.out).mono ?_
      rintro e w2 ⟨rfl, hb2⟩
      go_wp2_with fail
      go_ret2
      exact ⟨⟨_, rfl, OwOw.nil_ _ _ (by omega)⟩, hb1.trans (hb2.mono hb1.size)⟩
  · have hr : turnR p i k = ([], false) := by unfold turnR; simp [h1]
    rw [hr]
    have h1' : thrB p i = false := by simpa using h1
    have H1 := Lib.hid h1'; clear h1 h1' hr
    go_enter Try.func29, Try.ntmps29
    go_wp2_with fail
    refine (isThread_any _ false HU.out hhi ht hp H1.out).mono ?_
    rintro e w1 ⟨rfl, hb1⟩
    go_wp2_with fail
    go_ret2
    exact ⟨⟨_, rfl, OwOw.nil_ _ _ (by omega)⟩, hb1⟩
end Go.Proofs.Ytjogdblionfmiaa
