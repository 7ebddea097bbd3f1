/-
  Contracts of impl.areNeighbors, impl.ReorderInstr; a row of a program of the call's own is written. Conditions: the program has at most 1048576 instructions and threads.
-/
import Derived.Test.YtjogdblionfmiaaTurn
namespace Go.Proofs.Ytjogdblionfmiaa
open Go.ChangeShapes Go.WideShapes Go.ChangeAt Go.RowKit
set_option maxRecDepth 100000

theorem row_getD (p : List (List Ins)) (a : Nat) (h : a < p.length) : p.getD a [] = p[a] := by simp [h]

/-- a row of a program of the call's own: its cells, and what the program reads as when they are written -/
theorem OwOw.openRow {to ti : TypeId} {w : World} {lo hi : Nat} {v : Value} {p : List (List Ins)} (hne : ti ≠ to) (h : OwOw Ins.cells 4 to ti w lo hi v p) (t : Nat) (ht : t < p.length) (hn : 0 < p[t].length) :
    ∃ (go co gt ct : Nat) (cur : Array Value), v = .slice (some ⟨go, 0, none⟩) p.length co ∧ lo ≤ go ∧ go < hi ∧ go < w.heap.size ∧ go ≠ gt ∧ lo ≤ gt ∧ gt < hi ∧ w.cell? ⟨go, t, none⟩ = some (.slice (some ⟨gt, 0, none⟩) p[t].length ct) ∧
      Blk w gt ti cur ∧ cur.size = ct * 4 ∧ p[t].length ≤ ct ∧ (∀ k (h : k < p[t].length), HasIns cur (k * 4) p[t][k]) ∧
      ∀ (w' : World) (cur' : Array Value) (xs : List Ins), (∀ k, k ≠ gt → w'.heap[k]? = w.heap[k]?) → Blk w' gt ti cur' → cur'.size = cur.size → xs.length = p[t].length → (∀ k (h : k < xs.length), HasIns cur' (k * 4) xs[k]) →
        OwOw Ins.cells 4 to ti w' lo hi v (p.set t xs) := by
  obtain ⟨vs, ho, hl, hrow, hsep⟩ := h
  obtain ⟨A, co, rfl, hco, hmo, hx⟩ := ho
  obtain ⟨go, curo, rfl, hg1, hg2, hBo, hszo, hcells⟩ := hx (by omega)
  obtain ⟨At, ct, hvt, hct, hmt, hxt⟩ := hrow t (by omega) ht
  obtain ⟨gt, cur, rfl, hg3, hg4, hBt, hszt, hcur⟩ := hxt hn
  have hgg : go ≠ gt := by
    intro e
    subst e
    exact hne (hBt.inj hBo).1
  refine ⟨go, co, gt, ct, cur, by rw [hl], hg1, hg2, hBo.lt, hgg, hg3, hg4, ?_, hBt, hszt, hct, fun k hk => .of_cells (hcur k hk), ?_⟩
  · rw [hBo.cell]
    have := hcells t (by omega) 0 vs[t] (by simp [val1])
    rw [hvt] at this
    simpa using this
  · intro w' cur' xs hfr hB' hsz' hxl hhas
    refine ⟨vs, ⟨_, co, rfl, hco, hmo, fun _ => ⟨go, curo, rfl, hg1, hg2, (hfr go hgg).trans hBo, hszo, hcells⟩⟩, by simp [hl], fun k hk hk' => ?_, fun i j hi hj hi' hj' hij h1 h2 => ?_⟩
    · by_cases e : k = t
      · subst e
        rw [hvt]
        simp only [List.getElem_set_self]
        exact ⟨_, ct, by rw [hxl], by omega, hmt, fun _ => ⟨gt, cur', rfl, hg3, hg4, hB', by omega, fun q hq => (hhas q hq).cells⟩⟩
      · have hkp : k < p.length := by simpa using hk'
        have hget : (p.set t xs)[k] = p[k] := by simp [Ne.symm e]
        rw [hget]
        obtain ⟨Ak, ck, hvk, hck, hmk, hxk⟩ := hrow k hk hkp
        refine ⟨Ak, ck, hvk, hck, hmk, fun hn' => ?_⟩
        obtain ⟨gk, curk, rfl, h3, h4, hBk, hszk, hcurk⟩ := hxk hn'
        have hs := hsep k t hk (by omega) hkp ht e hn' hn
        rw [hvk, hvt] at hs
        refine ⟨gk, curk, rfl, h3, h4, (hfr gk ?_).trans hBk, hszk, hcurk⟩
        intro e2
        subst e2
        exact hs rfl
    · have hip : i < p.length := by simpa using hi'
      have hjp : j < p.length := by simpa using hj'
      refine hsep i j hi hj hip hjp hij ?_ ?_
      · by_cases e : i = t
        · subst e; exact hn
        · simpa [Ne.symm e] using h1
      · by_cases e : j = t
        · subst e; exact hn
        · simpa [Ne.symm e] using h2

/-- an instruction is written -/
def setInsW (w : World) (g o : Nat) (x : Ins) : World := (((w.setCell ⟨g, o, none⟩ (.int .i64 x.op)).setCell ⟨g, o + 1, none⟩ (.int .i64 x.loc)).setCell ⟨g, o + 2, none⟩ (.int .i64 x.reg)).setCell ⟨g, o + 3, none⟩ (.int .i64 x.val)
theorem Blk.setInsW {w : World} {g o : Nat} {t : TypeId} {cs : Array Value} (h : Blk w g t cs) (x : Ins) : Blk (setInsW w g o x) g t (setIns cs o x) := (((h.set_ _ _).set_ _ _).set_ _ _).set_ _ _
theorem size_setInsW (w : World) (g o : Nat) (x : Ins) : (setInsW w g o x).heap.size = w.heap.size := by simp [setInsW, World.setCell]
theorem heap_setInsW (w : World) (g o : Nat) (x : Ins) (k : Nat) (hk : k ≠ g) : (setInsW w g o x).heap[k]? = w.heap[k]? := by
  unfold setInsW
  rw [Below.heap_setCell _ _ _ _ (by exact hk), Below.heap_setCell _ _ _ _ (by exact hk), Below.heap_setCell _ _ _ _ (by exact hk), Below.heap_setCell _ _ _ _ (by exact hk)]
theorem below_setInsW {B : Nat} {a w : World} (h : Below B a w) {g o : Nat} (hg : B ≤ g) (x : Ins) : Below B a (setInsW w g o x) := (((h.setCell hg _).setCell hg _).setCell hg _).setCell hg _
def setInsW2 (w : World) (g o1 o2 : Nat) (y x : Ins) : World := (setInsW (setInsW w g o1 y) g o2 x).drew
theorem heap_drew (w : World) : w.drew.heap = w.heap := rfl
theorem size_setInsW2 (w : World) (g o1 o2 : Nat) (y x : Ins) : (setInsW2 w g o1 o2 y x).heap.size = w.heap.size := by
  unfold setInsW2
  rw [heap_drew, size_setInsW, size_setInsW]
theorem heap_setInsW2 (w : World) (g o1 o2 : Nat) (y x : Ins) (k : Nat) (hk : k ≠ g) : (setInsW2 w g o1 o2 y x).heap[k]? = w.heap[k]? := by
  unfold setInsW2
  rw [heap_drew, heap_setInsW _ _ _ _ _ hk, heap_setInsW _ _ _ _ _ hk]
theorem Blk.setInsW2 {w : World} {g o1 o2 : Nat} {t : TypeId} {cs : Array Value} (h : Blk w g t cs) (y x : Ins) : Blk (setInsW2 w g o1 o2 y x) g t (setIns (setIns cs o1 y) o2 x) := ((h.setInsW y).setInsW x).drew
theorem below_setInsW2 {B : Nat} {a w : World} (h : Below B a w) {g o1 o2 : Nat} (hg : B ≤ g) (y x : Ins) : Below B a (setInsW2 w g o1 o2 y x) := (below_setInsW (below_setInsW h hg y) hg x).drew
theorem swapRow_at {xs : List Ins} {cur : Array Value} {b : Nat} (hb : b + 1 < xs.length) (hs : xs.length * 4 ≤ cur.size) (h : ∀ k (hk : k < xs.length), HasIns cur (k * 4) xs[k]) (ys : List Ins) (hl : ys.length = xs.length)
    (h1 : ∀ h : b < ys.length, ys[b] = xs[b + 1]) (h2 : ∀ h : b + 1 < ys.length, ys[b + 1] = xs[b]) (h3 : ∀ k (h : k < ys.length) (h' : k < xs.length), k ≠ b → k ≠ b + 1 → ys[k] = xs[k]) :
    ∀ k (hk : k < ys.length), HasIns (setIns (setIns cur (b * 4) xs[b + 1]) ((b + 1) * 4) xs[b]) (k * 4) ys[k] := by
  intro k hk
  by_cases e : k = b + 1
  · subst e
    rw [h2]
    exact HasIns.same (by rw [size_setIns]; omega)
  · by_cases e2 : k = b
    · subst e2
      rw [h1]
      exact (HasIns.same (by omega)).far (by omega)
    · rw [h3 k hk (by omega) e2 e]
      exact ((h k (by omega)).far (by omega)).far (by omega)

def nbB (p : List (List Ins)) (t i : Int) : Bool := thrB p t && inB i (((p.getD t.toNat []).length : Int) - 2)

theorem areNeighbors_any {lo hi : Nat} {u : Value} {p : List (List Ins)} {w : World} (t i : Int) (b : Bool) (hu : SlSl Ins.cells 4 w lo hi u p) (hhi : hi ≤ w.heap.size) (ht : total p ≤ 1048576) (hp : p.length ≤ 1048576)
    (hb : nbB p t i = b) :
    Calls Try.prog 72 #[u, .int .i64 t, .int .i64 i] w fun e w' => e = .returned (.bool b) ∧ Below w.heap.size w w' := by
  subst hb
  have HU := Lib.hid hu
  obtain ⟨xs, hxs, hxl, hxr⟩ := hu
  obtain ⟨A, ca, rfl, hca, hma, hA⟩ := hxs.vals
  clear hxs
  have HX := Lib.hid hxl
  have hxle : xs.length ≤ 1048576 := by omega
  clear hxl
  have HXR := Lib.hid hxr; clear hxr
  have HAA := Lib.hid hA; clear hA
  have IT := Lib.hid (isThread_any (w := w) t (thrB p t) HU.out hhi ht hp rfl)
  unfold nbB
  by_cases hv : thrB p t = true
  · rw [hv] at IT ⊢
    have h1 := hv
    simp only [thrB, inB, Bool.and_eq_true, decide_eq_true_eq] at h1
    obtain ⟨_, h10, h11⟩ := h1
    obtain ⟨a, rfl⟩ := Int.eq_ofNat_of_zero_le h10
    simp only [Int.toNat_natCast] at *
    have ha : a < p.length := by omega
    have hax : a < xs.length := by rw [HX.out]; exact ha
    rw [row_getD p a ha]
    obtain ⟨ba, oa, rfl, _, _, hba, hA⟩ := HAA.out (by omega)
    have ca1 := hA a hax
    obtain ⟨Ak, ck, hk1, hck, hmk, -⟩ := HXR.out a hax ha
    rw [hk1] at ca1
    clear hA hk1 hv
    have hr : p[a].length ≤ 1048576 := Nat.le_trans (row_le_total p a ha) ht
    generalize p[a].length = n at *
    have hw : (decide (0 ≤ i) && decide (i ≤ (n : Int) - 2)) = inB i ((n : Int) - 2) := rfl
    have HW := Lib.hid hw; clear hw
    have a0 : (0 : Int) ≤ (a : Int) := by omega
    have a1 : (a : Int) < (xs.length : Int) := by omega
    go_enter Try.func72, Try.ntmps72
    go_wp2_with (first | (go_at_call 86; refine IT.out.mono ?_; rintro e w1 ⟨rfl, hb⟩; replace ca1 := (hb.cell (p := ⟨ba, oa + a, none⟩) hba).trans ca1) | (go_at_call 65; refine (within_any _ _ _ _ HW.out _).mono ?_; rintro e w2 ⟨rfl, rfl⟩))
    go_ret
    exact ⟨ret_bool (by simp), hb⟩
  · have hv' : thrB p t = false := by simpa using hv
    rw [hv'] at IT ⊢
    clear hv hv'
    go_enter Try.func72, Try.ntmps72
    go_wp2_with (go_at_call 86; refine IT.out.mono ?_; rintro e w1 ⟨rfl, hb⟩)
    go_ret
    exact ⟨rfl, hb⟩
end Go.Proofs.Ytjogdblionfmiaa
